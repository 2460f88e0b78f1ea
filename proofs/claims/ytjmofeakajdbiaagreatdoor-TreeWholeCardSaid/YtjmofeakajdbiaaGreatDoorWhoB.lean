/- Part of a proof. No condition. (Part 2.) -/
import Derived.ArgAppend
import Derived.Laws.AppendOwn
import Derived.Laws.IdiomCopy
import Derived.Laws.OwnMore
import Derived.Laws.Small
import Derived.Laws.StructEq
import Derived.Laws.BytesString
import Derived.Laws.Externs
import Derived.MapKept
import Derived.Lib.AppendStr
import Derived.LoopNIn
import Derived.OrdersIn
import Derived.Test.YtjmofeakajdbiaaGreatDoorProg
import Derived.KernelRfl
import Derived.Test.YtjmofeakajdbiaaGreatDoorWhoA
set_option linter.unusedVariables false
set_option linter.unusedSimpArgs false
namespace Go.AM
open Go Go.RowKit
section
variable {C:Cx}{ti:Types}{o:Oper}{fresh:Nat}{s:AR}{h:Heap}{k:Out→Prop}
theorem Rk:∀{xs:List V1}{i:Nat}{y:V1},V7 xs i=some y→xs[i]?=some y
 | [],_,_,h=>by simp[V7]at h
 | x::r,0,y,h=>by simpa [V7] using h
 | x::r,i+1,y,h=>by simpa using Rk (xs:=r) (i:=i) h
theorem UB (x:Operand) (i:Nat) (ho:o.op= .extract x i) (hk:EZ (Aw ti s 0 x) i k):∃out,k out∧Bk C o fresh s h out:=by
 unfold EZ at hk
 split at hk
 ·rename_i xs hop
  split at hk
  ·rename_i y hy
   refine⟨_,hk,AL fun F σs σh g a w R hs _=>?_⟩
   have hx:=AY ti 0 x R (s:=s) (fun t ht=>hs t (by subst ht;simp[ho,Op.operands]))
   rw[hop]at hx
   obtain⟨vs,hv,hsz,hr⟩:=hx
   have hxy:=Rk hy
   have hlt:i<vs.size:=by rw[hsz];exact (List.getElem?_eq_some_iff.1 hxy).1
   refine⟨vs[i],?_,hr i y vs[i] hxy (by simp[hlt])⟩
   simp[execOp,ho,Instr.extract,hv,hlt]
  ·exact hk.elim
 ·exact hk.elim
theorem UC (hti:BN C.P ti) (src dst:TypeId) (x:Operand) (ho:o.op= .convert src dst x) (hk:Ea ti src dst (Aw ti s src x) k):∃out,k out∧Bk C o fresh s h out:=by
 unfold Ea at hk
 obtain⟨a1,h1,hk⟩:=AQ.1 hk
 obtain⟨b1,h2,hk⟩:=AQ.1 hk
 split at hk
 ·rename_i q1 q d1 d2
  obtain⟨q',n,hx0,z,hz,hk⟩:=Cr.1 hk
  refine⟨_,hk,AL fun F σs σh g a w R hs _=>?_⟩
  have hx:=AY ti src x R (s:=s) (fun t ht=>hs t (by subst ht;simp[ho,Op.operands]))
  rw[hx0]at hx
  have hx:=Gg hx
  refine⟨.int q z,?_,.int _ _⟩
  have e1:=DG hti h1 w
  have e2:=DG hti h2 w
  rw[d1]at e1
  rw[d2]at e2
  simp[execOp,ho,convert,e1,e2,hx,Conv.intToInt,hz]
 ·exact hk.elim
theorem MN {w:World}{Z:Aq}{g:AW}{h:Heap}{y:V1}{v:Value}(hy:MG y=true) (r:Ak w Z g h y v):∃vs,v= .agg vs:=by
 cases y with
 | d x=>
  cases x with
  | agg cs=>cases (show Ad w Z (.agg cs) v from r)with | agg _ vs=>exact⟨vs,rfl⟩
  | _=>simp[MG,D.isAgg]at hy
 | c x=>simp[MG]at hy
 | agg cs=>obtain⟨vs,hv,_⟩:=r;exact⟨vs,hv⟩
theorem WC (hti:BN C.P ti) {t:TypeId}{i:TI}(hi:ti t=some i) (w:World):(isAgg t).run C.P w= .ok (Aj i.desc) w:=by
 have:=DG hti hi w
 unfold isAgg
 cases hd:i.desc<;>simp[hd]at this<;>simp[this,Aj]
theorem Rl (hti:BN C.P ti) (h1:Bu ti) {t:TypeId}{i:TI}(hi:ti t=some i) {w:World}{Z:Aq}{g:AW}{h:Heap}{cs:List CV}{vs:Array Value}{off:Nat}(hs:vs.size=cs.length)
  (hr:∀(j:Nat) c u,cs[j]?=some c→vs[j]?=some u→BD w Z g h c u) (hb:off+i.size≤cs.length):
  ∃u,(part t vs off).run C.P w= .ok u w∧Ar w Z g h (.v (V1.Ax (Aj i.desc) ((cs.drop off).take i.size))) u:=by
 have e1:=WC hti hi w
 have e2:=Eb hti hi w
 have hsz:(vs.extract off (off+i.size)).size=((cs.drop off).take i.size).length:=by simp;omega
 have hrel:∀(j:Nat) c u,((cs.drop off).take i.size)[j]?=some c→(vs.extract off (off+i.size))[j]?=some u→BD w Z g h c u:=by
  intro j c u hc hu
  rw[List.getElem?_take]at hc
  split at hc
  ·rename_i hj
   rw[List.getElem?_drop]at hc
   refine hr (off+j) c u hc ?_
   rw[Array.getElem?_extract]at hu
   split at hu
   ·exact hu
   ·cases hu
  ·cases hc
 cases hrow:Aj i.desc with
 | true=>
  rw[hrow]at e1
  refine⟨.agg (vs.extract off (off+i.size)),by simp[part,e1,e2],(Ak.Ax hsz hrel).1 rfl⟩
 | false=>
  rw[hrow]at e1
  have hone:=h1 t i hi hrow
  have hlt:off<vs.size:=by omega
  refine⟨vs[off],by simp[part,e1,hlt],(Ak.Ax hsz hrel).2 rfl _ ?_⟩
  apply Array.ext
  ·simp;omega
  ·intro j h2 h3
   simp at h3
   subst h3
   simp
theorem WD (hti:BN C.P ti) (h1:Bu ti) (t:TypeId) (x:Operand) (f:Nat) (ho:o.op= .field t x f) (hk:Fi ti t (Aw ti s t x) f k):∃out,k out∧Bk C o fresh s h out:=by
 unfold Fi at hk
 obtain⟨i,hi,hk⟩:=AQ.1 hk
 split at hk
 ·rename_i fs hd
  split at hk
  ·rename_i fd hfd
   obtain⟨j,hj,hk⟩:=AQ.1 hk
   obtain⟨y,hy,hk⟩:=CW.1 hk
   obtain⟨hag,hk⟩:=AN.1 hk
   obtain⟨hb,hk⟩:=AN.1 hk
   have hb:=Nat.le_of_ble_eq_true hb
   refine⟨_,hk,AL fun F σs σh g a w R hs _=>?_⟩
   have hx:=AY ti t x R (s:=s) (fun t ht=>hs t (by subst ht;simp[ho,Op.operands]))
   rw[hy]at hx
   obtain⟨vs,hv⟩:=MN hag hx
   obtain⟨c1,c2⟩:=Ak.cells hx
   have e1:=DG hti hi w
   rw[hd]at e1
   rw[hv]at c1 c2
   obtain⟨u,hu,hr⟩:=Rl hti h1 hj (w:=w) (vs:=vs) (off:=fd.offset) (by simpa [Value.cells] using c1) (fun j c u h1 h2=>c2 j c u h1 (by simpa [Value.cells] using h2)) hb
   refine⟨u,?_,hr⟩
   simp[execOp,ho,Instr.field,e1,hfd,hv,asAgg,hu]
  ·exact hk.elim
 ·exact hk.elim
theorem I2 {d:Int}{x:Option Operand}{k:Int→Prop}(hk:V6 ti s d x k):∃n,k n∧((x=none∧n=d)∨∃y q,x=some y∧Aw ti s 3 y= .v (.d (.int q n))):=by
 unfold V6 at hk
 split at hk
 ·exact⟨d,hk,.inl ⟨rfl,rfl⟩⟩
 ·rename_i y
  obtain⟨q,n,h1,hk⟩:=Cr.1 hk
  exact⟨n,hk,.inr ⟨y,q,rfl,h1⟩⟩
theorem CX {P:Program}{w:World}{q:IntKind}{n:Int}{y:Nat}{code:BoundsCode}(h0:0≤n) (h1:n≤y):(Instr.sliceBound (.int q n) y code).run P w= .ok n.toNat w:=by
 simp[Instr.sliceBound,asIntOf,h0,h1]
theorem WE (hti:BN C.P ti) (t:TypeId) (x:Operand) (lo hi mx:Option Operand) (ho:o.op= .slice t x lo hi mx) (hk:MF C.M ti s t (Aw ti s t x) lo hi mx k):∃out,k out∧Bk C o fresh s h out:=by
 unfold MF at hk
 obtain⟨i,hi',hk⟩:=AQ.1 hk
 have bnd:∀{F:Nat→Prop} {σs:AR} {σh:Heap} {g:AW} {a:Act} {w:World} (R:Ac C F σs σh g a w),(∀t,Operand.tmp t∈o.op.operands.toList→σs t=s t)→
   ∀y q n,(lo=some y∨hi=some y∨mx=some y)→Aw ti s 3 y= .v (.d (.int q n))→a.eval y= .int q n:=by
  intro F σs σh g a w R hs y q n hy hop
  have hx:=AY ti 3 y R (s:=s) (fun t ht=>hs t (by subst ht;rcases hy with h | h | h<;>simp[ho,Op.operands,h]))
  rw[hop]at hx
  exact Gg hx
 split at hk
 ·rename_i hd
  split at hk
  ·rename_i b hop
   obtain⟨l,hk,hl⟩:=I2 hk
   obtain⟨u,hk,hu⟩:=I2 hk
   split at hk
   ·rename_i hmx
    obtain⟨r,⟨h0,h1,h2⟩,hr,hk⟩:=hk
    refine⟨_,hk,AL fun F σs σh g a w R hs _=>?_⟩
    have hx:=AY ti t x R (s:=s) (fun t ht=>hs t (by subst ht;simp[ho,Op.operands]))
    rw[hop]at hx
    have hx:=RV hx
    rw[C.M.szI_eq]at h2
    refine⟨.string r,?_,.str _⟩
    have e1:=DG hti hi' w
    rw[hd]at e1
    have hb:(Instr.sliceBounds false b.size b.size (lo.map a.eval) (hi.map a.eval) none).run C.P w= .ok (l.toNat,u.toNat,b.size) w:=by
     rcases hu with⟨rfl,rfl⟩ | ⟨y,q,rfl,hy⟩
     ·rw[C.M.szI_eq]at h1 ⊢
      rcases hl with⟨rfl,rfl⟩ | ⟨z,q',rfl,hz⟩
      ·simp[Instr.sliceBounds]
      ·simp[Instr.sliceBounds,bnd R hs z q' l (.inl rfl) hz,CX (P:=C.P) (w:=w) h0 h1]
     ·have hy':=bnd R hs y q u (.inr (.inl rfl)) hy
      have e2:=CX (P:=C.P) (w:=w) (q:=q) (n:=u) (y:=b.size) (code:=.sliceAlen) (by omega) (by omega)
      rcases hl with⟨rfl,rfl⟩ | ⟨z,q',rfl,hz⟩
      ·simp[Instr.sliceBounds,hy',e2]
      ·have e3:=CX (P:=C.P) (w:=w) (q:=q') (n:=l) (y:=u.toNat) (code:=.sliceB) h0 (by omega)
       simp[Instr.sliceBounds,hy',e2,bnd R hs z q' l (.inl rfl) hz,e3]
    simp[execOp,ho,Instr.sliceAt,Instr.slice,e1,hx,hmx,hb,hr]
   ·exact hk.elim
  ·exact hk.elim
 ·rename_i e hd
  obtain⟨j,hj,hk⟩:=AQ.1 hk
  obtain⟨ag,sz,rows,hrel,hk⟩:=Hb hk
  obtain⟨hag,hk⟩:=AN.1 hk
  obtain⟨hsz,hk⟩:=AN.1 hk
  have hsz:=Nat.eq_of_beq_eq_true hsz
  obtain⟨l,hk,hl⟩:=I2 hk
  obtain⟨u,hk,hu⟩:=I2 hk
  have main:∃(out:List D) (m:Option Int),(m=none∧mx=none∨∃y q z,mx=some y∧hi=some z∧Aw ti s 3 y= .v (.d (.int q u))∧m=some u)∧(0≤l∧l≤u∧u≤C.M.lenI rows)∧(rows.take u.toNat).drop l.toNat=out∧
    k ⟨match m with | none=>.v (.d (.list ag sz out)) | some _=>.v (.c (.tl ag sz out)),[],[]⟩:=by
   cases mx with
   | none=>
    obtain⟨out,h0,h1,hk⟩:=hk
    exact⟨out,none,.inl ⟨rfl,rfl⟩,h0,h1,hk⟩
   | some y=>
    cases hi with
    | none=>exact hk.elim
    | some z=>
     obtain⟨q,v,hy,out,⟨h0,h1,h2,rfl⟩,h3,hk⟩:=Cr.1 hk
     exact⟨out,some v,.inr ⟨y,q,z,rfl,rfl,hy,rfl⟩,⟨h0,h1,h2⟩,h3,hk⟩
  obtain⟨out,m,hm,⟨h0,h1,h2⟩,hout,hk⟩:=main
  refine⟨_,hk,AL fun F σs σh g a w R hs _=>?_⟩
  have hx:=hrel (AY ti t x R (s:=s) (fun t ht=>hs t (by subst ht;simp[ho,Op.operands])))
  rw[C.M.lenI_eq]at h2
  have bhi:hi=none→u=rows.length:=by
   intro h
   rcases hu with⟨_,rfl⟩ | ⟨y,q,he,_⟩
   ·exact C.M.lenI_eq rows
   ·rw[h]at he;cases he
  generalize hv:a.eval x=v at hx
  cases hx with
  | list _ _ _ A cap b off U hcap hmax hfit ha hc hr=>
   have e1:=DG hti hi' w
   rw[hd]at e1
   have e4:=Eb hti hj w
   have lists:∀cap',u.toNat - l.toNat≤cap'→cap'≤maxLen→∀A',(l.toNat<u.toNat→A'=A.map (·.add (l.toNat*j.size)))→
     Ad w (BG (zone g σh) C.X) (.list ag sz out) (.slice A' (u.toNat - l.toNat) cap'):=by
    intro cap' hc1 hc2 A' hA'
    have hlen:out.length=u.toNat - l.toNat:=by rw[←hout];simp;omega
    have hget:∀(i:Nat) r,out[i]?=some r→rows[l.toNat+i]?=some r∧i<u.toNat - l.toNat:=by
     intro i r hr
     have hlt:=(List.getElem?_eq_some_iff.1 hr).1
     rw[←hout,List.getElem?_drop,List.getElem?_take]at hr
     split at hr
     ·exact⟨hr,by omega⟩
     ·simp at hr
    have hmem:∀r∈out,r∈rows:=by
     intro r hr
     rw[←hout]at hr
     exact List.mem_of_mem_take (List.mem_of_mem_drop hr)
    have:=Ad.list (w:=w) (Z:=BG (zone g σh) C.X) ag sz out A' cap' b (off+l.toNat*sz) (fun i q=>U (l.toNat+i) q) (by omega) hc2 (fun r hr=>hfit r (hmem r hr))
     (fun hne=>by
      have hpos:l.toNat<u.toNat:=by
       have:out.length≠0:=fun h=>hne (List.eq_nil_of_length_eq_zero h)
       omega
      rw[hA' hpos,ha (by rintro rfl;simp at h2;omega),hsz]
      simp[Bw])
     (fun i r q c hr' hcc=>by
      obtain⟨h3,_⟩:=hget i r hr'
      have:=hc (l.toNat+i) r q c h3 hcc
      rw[show off+((l.toNat+i)*sz+q)=off+l.toNat*sz+(i*sz+q)from by rw[Nat.add_mul];omega]at this
      exact this)
     (fun i r q c hr' hcc=>hr (l.toNat+i) r q c (hget i r hr').1 hcc)
    rw[hlen]at this
    exact this
   have hlo:∀top:Nat,l≤top→∀code,(match lo.map a.eval with | some v=>Instr.sliceBound v top code | none=>pure 0:Sem Nat).run C.P w= .ok l.toNat w:=by
    intro top htop code
    rcases hl with⟨rfl,rfl⟩ | ⟨z,q',rfl,hz⟩
    ·rfl
    ·simp[bnd R hs z q' l (.inl rfl) hz,CX (P:=C.P) (w:=w) h0 htop]
   rcases hm with⟨rfl,hmx⟩ | ⟨y,q,z,hmx,hhi,hy,rfl⟩
   ·-- no third bound
    have hb:(Instr.sliceBounds true rows.length cap (lo.map a.eval) (hi.map a.eval) none).run C.P w= .ok (l.toNat,u.toNat,cap) w:=by
     have e3:=hlo u.toNat (by omega)
     rcases hu with⟨hh,hu⟩ | ⟨z,q',hh,hz⟩
     ·have e5:=bhi hh
      subst hh
      subst e5
      simp only[Int.toNat_natCast]at e3
      rcases hl with⟨rfl,rfl⟩ | ⟨z,q',rfl,hz⟩
      ·simp[Instr.sliceBounds]
      ·simp[Instr.sliceBounds,bnd R hs z q' l (.inl rfl) hz,CX (P:=C.P) (w:=w) h0 h1]
     ·subst hh
      have hz':=bnd R hs z q' u (.inr (.inl rfl)) hz
      have e6:=CX (P:=C.P) (w:=w) (q:=q') (n:=u) (y:=cap) (code:=.sliceAcap) (by omega) (by omega)
      rcases hl with⟨rfl,rfl⟩ | ⟨z2,q2,rfl,hz2⟩
      ·simp[Instr.sliceBounds,hz',e6]
      ·simp[Instr.sliceBounds,hz',e6,bnd R hs z2 q2 l (.inl rfl) hz2,CX (P:=C.P) (w:=w) (q:=q2) (n:=l) (y:=u.toNat) (code:=.sliceB) h0 (by omega)]
    refine⟨.slice (if cap=l.toNat then A else A.map (·.add (l.toNat*j.size))) (u.toNat - l.toNat) (cap - l.toNat),?_,lists _ (by omega) (by omega) _ (fun h=>by rw[if_neg (by omega)])⟩
    simp[execOp,ho,Instr.sliceAt,Instr.slice,e1,hv,hmx,hb,e4]
   ·have hy':=bnd R hs y q u (.inr (.inr hmx)) hy
    obtain⟨z',q',hz0,hz⟩:∃z' q',hi=some z'∧Aw ti s 3 z'= .v (.d (.int q' u)):=by
     rcases hu with⟨hh,_⟩ | ⟨z,q',hh,hz⟩
     ·rw[hhi]at hh;cases hh
     ·exact⟨z,q',hh,hz⟩
    have hz':=bnd R hs z' q' u (.inr (.inl hz0)) hz
    have hb:(Instr.sliceBounds true rows.length cap (lo.map a.eval) (hi.map a.eval) (mx.map a.eval)).run C.P w= .ok (l.toNat,u.toNat,u.toNat) w:=by
     have e6:=CX (P:=C.P) (w:=w) (q:=q) (n:=u) (y:=cap) (code:=.slice3Acap) (by omega) (by omega)
     have e7:=CX (P:=C.P) (w:=w) (q:=q') (n:=u) (y:=u.toNat) (code:=.slice3B) (by omega) (by omega)
     rw[hmx,hz0]
     rcases hl with⟨rfl,rfl⟩ | ⟨z2,q2,rfl,hz2⟩
     ·simp[Instr.sliceBounds,hy',hz',e6,e7]
     ·simp[Instr.sliceBounds,hy',hz',e6,e7,bnd R hs z2 q2 l (.inl rfl) hz2,CX (P:=C.P) (w:=w) (q:=q2) (n:=l) (y:=u.toNat) (code:=.slice3C) h0 (by omega)]
    have hlen:out.length=u.toNat - l.toNat:=by rw[←hout];simp;omega
    refine⟨.slice (if u.toNat=l.toNat then A else A.map (·.add (l.toNat*j.size))) (u.toNat - l.toNat) (u.toNat - l.toNat),?_,lists _ (by omega) (by omega) _ (fun h=>by rw[if_neg (by omega)]),_,by rw[hlen]⟩
    simp[execOp,ho,Instr.sliceAt,Instr.slice,e1,hv,hb,e4]
 ·exact hk.elim
theorem WG (hti:BN C.P ti) (h1:Bu ti) (t:TypeId) (x y:Operand) (ho:o.op= .index t x y) (hk:Fh ti t (Aw ti s t x) (Aw ti s 3 y) k):∃out,k out∧Bk C o fresh s h out:=by
 unfold Fh at hk
 obtain⟨q,n,hy,hk⟩:=Cr.1 hk
 obtain⟨i,hi,hk⟩:=AQ.1 hk
 split at hk
 ·rename_i hd
  split at hk
  ·rename_i b hop
   obtain⟨z,⟨h0,hz⟩,hk⟩:=hk
   refine⟨_,hk,AL fun F σs σh g a w R hs _=>?_⟩
   have hx:=AY ti t x R (s:=s) (fun t ht=>hs t (by subst ht;simp[ho,Op.operands]))
   rw[hop]at hx
   have hx:=RV hx
   have hyy:=AY ti 3 y R (s:=s) (fun t ht=>hs t (by subst ht;simp[ho,Op.operands]))
   rw[hy]at hyy
   have hyy:=Gg hyy
   have e1:=DG hti hi w
   rw[hd]at e1
   obtain⟨u,hu,hz⟩:=Option.map_eq_some_iff.1 hz
   refine⟨.int .u8 z,?_,.int _ _⟩
   simp[execOp,ho,Instr.index,asIntOf,e1,hx,hyy,h0,hu,hz]
  ·exact hk.elim
 ·rename_i len e hd
  obtain⟨j,hj,hk⟩:=AQ.1 hk
  split at hk
  ·rename_i cs hop
   obtain⟨h3,r,h0,hr,hk⟩:=AN.1 hk
   have h3:=Nat.eq_of_beq_eq_true h3
   refine⟨_,hk,AL fun F σs σh g a w R hs _=>?_⟩
   have hx:=AY ti t x R (s:=s) (fun t ht=>hs t (by subst ht;simp[ho,Op.operands]))
   rw[hop]at hx
   have hyy:=AY ti 3 y R (s:=s) (fun t ht=>hs t (by subst ht;simp[ho,Op.operands]))
   rw[hy]at hyy
   have hyy:=Gg hyy
   have e1:=DG hti hi w
   rw[hd]at e1
   have e2:=Eb hti hj w
   obtain⟨hlt,rfl⟩:=F6 hr
   generalize hv:a.eval x=v at hx
   cases (show Ad w _ (.agg cs) v from hx)with
   | agg _ vs hsz hag hrel=>
    have hb:n.toNat*j.size+j.size≤(cs.map CV.d).length:=by
     have:=Nat.mul_le_mul_right j.size (show n.toNat+1≤len from hlt)
     rw[Nat.add_mul]at this
     simp
     omega
    obtain⟨u,hu,hru⟩:=Rl (g:=g) (h:=σh) hti h1 hj (cs:=cs.map CV.d) (vs:=vs) (off:=n.toNat*j.size) (by simp[hsz]) (fun q c u hc hu=>by
     simp only[List.getElem?_map,Option.map_eq_some_iff]at hc
     obtain⟨c',hc',rfl⟩:=hc
     exact⟨hrel q c' u hc' hu,hag c' (List.mem_of_getElem? hc')⟩) hb
    refine⟨u,?_,?_⟩
    ·have hn:n<(len:Int):=by omega
     simp[execOp,ho,Instr.index,asIntOf,e1,hv,hyy,h0,hn,e2,hu]
    ·rw[←List.map_drop,←List.map_take]at hru
     have e:V1.Ax (Aj j.desc) (((cs.drop (n.toNat*j.size)).take j.size).map CV.d)= .d (rowOf (Aj j.desc) ((cs.drop (n.toNat*j.size)).take j.size)):=by
      cases hrow:Aj j.desc with
      | true=>
       have:∀l:List D,Tz (l.map CV.d)=some l:=by
        intro l
        induction l with
        | nil=>rfl
        | cons x l ih=>simp[Tz,ih]
       unfold V1.Ax
       simp only[]
       rw[this]
       rfl
      | false=>
       have hone:=h1 e j hj hrow
       have hl:((cs.drop (n.toNat*j.size)).take j.size).length=1:=by
        simp at hb ⊢
        omega
       obtain⟨d,hd⟩:=List.length_eq_one_iff.1 hl
       rw[hd]
       rfl
     rw[e]at hru
     exact hru
  ·exact hk.elim
 ·exact hk.elim
end
end Go.AM
namespace Go.AM
open Go Go.RowKit
section
variable {C:Cx}{F:Nat→Prop}{s:AR}{h:Heap}{g:AW}{a:Act}{w w':World}{Z:Aq}
theorem Ac.grow (R:Ac C F s h g a w) (hg:w.grownBy w' none):Ac C F s h g a w':=by
 obtain⟨h1,h2,h3,h4,h5⟩:=hg
 have hblk:∀b,b<w.heap.size→w'.heap[b]?=w.heap[b]?:=fun b hb=>h5 b hb (by simp)
 have hcell:∀b o u,w.cell? ⟨b,o,none⟩=some u→w'.cell? ⟨b,o,none⟩=some u:=fun b o u hu=>
  (World.cell?_of_block (a:=⟨b,o,none⟩) (hblk b (World.block_lt_of_cell? w ⟨b,o,none⟩ hu))).trans hu
 refine R.step (fun _=>False) ⟨fun b o u hu hz=>⟨hcell b o u hu,hz⟩,fun _ _ _=>rfl,fun _ _ _=>rfl,fun _ hi=>hi,fun i k sz e _ hk=>⟨k,Nat.le_refl _,hk,fun _=>rfl⟩,fun _ hi=>hi,fun i _ hk=>⟨hk,rfl⟩⟩
  ⟨h1,h2,h3,h4,fun b hb _=>hblk b hb,fun b o u hu _=>hcell b o u hu⟩ (fun i _=>⟨rfl,rfl⟩) (fun i o b _ hi hb=>hblk b ((R.heap.objs i o hi).lt hb))
  (fun _ _ hf=>hf.elim) (fun _ _ _ _ hf=>hf.elim) (fun _ _ _ _ _ hf=>hf.elim) (fun _ hf=>hf.elim) (fun n hn=>R.free n hn)
theorem Ad.Jx {ag:Bool}{sz:Nat}{rows:List D}{A:Option Addr}{m cap:Nat}(hsz:0<sz) (r:Ad w Z (.list ag sz rows) (.slice A m cap)):
  m=rows.length∧cap≤maxLen∧m≤cap∧(rows≠[]→∃b o,A=some ⟨b,o,none⟩)∧(∀x∈rows,x.fits ag sz)∧∃news:List Value,news.length=rows.length*sz∧(∀u∈news,u.oneCell'=true)∧
   (∀b o,A=some ⟨b,o,none⟩→∀j u,news[j]?=some u→w.cell? ⟨b,o+j,none⟩=some u∧¬Z b (o+j))∧
   ∀(i:Nat) x (j:Nat) c,rows[i]?=some x→x.cells[j]?=some c→∃u,news[i*sz+j]?=some u∧Ad w Z c u:=by
 cases r with
 | list _ _ _ _ _ b o U hcap hmax hfit ha hc hr=>
  refine⟨rfl,hmax,hcap,fun hne=>⟨b,o,ha hne⟩,hfit,(List.range (rows.length*sz)).map (fun k=>U (k / sz) (k % sz)),by simp,?_,?_,?_⟩
  ·intro u hu
   obtain⟨k,hk,rfl⟩:=List.mem_map.1 hu
   have hk:=List.mem_range.1 hk
   have hi:k / sz<rows.length:=Nat.div_lt_of_lt_mul (by rw[Nat.mul_comm];exact hk)
   have hx:rows[k / sz]?=some rows[k / sz]:=List.getElem?_eq_getElem hi
   obtain⟨f1,f2,f3⟩:=hfit _ (List.getElem_mem hi)
   have hj:k % sz<rows[k / sz].cells.length:=by rw[f2];exact Nat.mod_lt _ hsz
   have hcc:=List.getElem?_eq_getElem hj
   exact (hr _ _ _ _ hx hcc).Bq (f3 _ (List.getElem_mem hj))
  ·intro b' o' hA j u hj
   rw[List.getElem?_map]at hj
   obtain⟨k,hk,rfl⟩:=Option.map_eq_some_iff.1 hj
   have hlt:j<rows.length*sz:=by simpa using (List.getElem?_eq_some_iff.1 hk).1
   have hkj:k=j:=by simpa [List.getElem?_range hlt] using hk.symm
   subst hkj
   have hi:k / sz<rows.length:=Nat.div_lt_of_lt_mul (by rw[Nat.mul_comm];exact hlt)
   have hne:rows≠[]:=by rintro rfl;simp at hi
   have hA2:=ha hne
   rw[hA]at hA2
   cases hA2
   have hx:rows[k / sz]?=some rows[k / sz]:=List.getElem?_eq_getElem hi
   obtain⟨f1,f2,f3⟩:=hfit _ (List.getElem_mem hi)
   have hj:k % sz<rows[k / sz].cells.length:=by rw[f2];exact Nat.mod_lt _ hsz
   have:=hc _ _ _ _ hx (List.getElem?_eq_getElem hj)
   rw[show k / sz*sz+k % sz=k from by rw[Nat.mul_comm];exact Nat.div_add_mod k sz]at this
   exact this
  ·intro i x j c hx hj
   obtain⟨f1,f2,f3⟩:=hfit _ (List.mem_of_getElem? hx)
   have hjl:j<sz:=by rw[←f2];exact (List.getElem?_eq_some_iff.1 hj).1
   have hil:=(List.getElem?_eq_some_iff.1 hx).1
   have hlt:i*sz+j<rows.length*sz:=by
    have:(i+1)*sz≤rows.length*sz:=Nat.mul_le_mul_right _ hil
    rw[Nat.add_mul]at this
    omega
   refine⟨U i j,?_,hr i x j c hx hj⟩
   rw[List.getElem?_map,List.getElem?_range hlt]
   have e1:(i*sz+j) / sz=i:=by rw[Nat.mul_comm,Nat.mul_add_div hsz,Nat.div_eq_of_lt hjl,Nat.add_zero]
   have e2:(i*sz+j) % sz=j:=by rw[Nat.mul_comm,Nat.mul_add_mod,Nat.mod_eq_of_lt hjl]
   simp[e1,e2]
theorem Gt {e:TypeId}{ag:Bool}{sz:Nat}{out:List D}{zs:List Value}{v:Value}(hsz:0<sz) (hown:w.ownsRow 0 e sz v out.length zs)
  (hfit:∀x∈out,x.fits ag sz) (hZ:∀b,blk v=some b→∀o,o<out.length*sz→¬Z b o)
  (hr:∀(i:Nat) x (j:Nat) c,out[i]?=some x→x.cells[j]?=some c→∃u,zs[i*sz+j]?=some u∧Ad w Z c u):Ad w Z (.list ag sz out) v:=by
 obtain⟨hl,h2⟩:=hown
 rcases h2 with⟨rfl,h0⟩ | ⟨q,cap,cur,rfl,_,hh,hnc,hcm,hcs,htake⟩
 ·have:out=[]:=List.eq_nil_of_length_eq_zero h0
  subst this
  exact Ff ag sz
 ·refine .list ag sz out (some ⟨q,0,none⟩) cap q 0 (fun i j=>zs.getD (i*sz+j) undef) hnc hcm hfit (fun _=>rfl) (fun i x j c hx hj=>?_) (fun i x j c hx hj=>?_)
  ·obtain⟨u,hu,_⟩:=hr i x j c hx hj
   have hlt:=(List.getElem?_eq_some_iff.1 hu).1
   have hg:zs.getD (i*sz+j) undef=u:=by simp[List.getD_eq_getElem?_getD,hu]
   rw[hg]
   refine⟨?_,by rw[Nat.zero_add];exact hZ q rfl _ (by omega)⟩
   have:cur[i*sz+j]?=some u:=by
    rw[←htake,List.getElem?_take]at hu
    split at hu
    ·simpa using hu
    ·cases hu
   simp[World.cell?,hh,this]
  ·obtain⟨u,hu,hru⟩:=hr i x j c hx hj
   simpa [List.getD_eq_getElem?_getD,hu] using hru
theorem MO {ag:Bool}{sz:Nat}{rows ys:List D}{xs news:List Value}(h1:xs.length=rows.length*sz) (hfit:∀x∈ys,x.fits ag sz) (hfit':∀x∈rows,x.fits ag sz)
  (hx:∀(i:Nat) x (j:Nat) c,rows[i]?=some x→x.cells[j]?=some c→∃u,xs[i*sz+j]?=some u∧Ad w Z c u)
  (hy:∀(i:Nat) x (j:Nat) c,ys[i]?=some x→x.cells[j]?=some c→∃u,news[i*sz+j]?=some u∧Ad w Z c u):
  ∀(i:Nat) x (j:Nat) c,(rows++ys)[i]?=some x→x.cells[j]?=some c→∃u,(xs++news)[i*sz+j]?=some u∧Ad w Z c u:=by
 intro i x j c hi hj
 by_cases hl:i<rows.length
 ·rw[List.getElem?_append_left hl]at hi
  obtain⟨u,hu,hr⟩:=hx i x j c hi hj
  exact⟨u,by rw[List.getElem?_append_left (List.getElem?_eq_some_iff.1 hu).1];exact hu,hr⟩
 ·rw[List.getElem?_append_right (by omega)]at hi
  obtain⟨u,hu,hr⟩:=hy _ x j c hi hj
  have hle:rows.length*sz≤i*sz:=Nat.mul_le_mul_right _ (by omega)
  refine⟨u,?_,hr⟩
  rw[List.getElem?_append_right (by omega),←hu]
  congr 1
  rw[h1,Nat.sub_mul]
  omega
theorem Gu {ag:Bool}{sz:Nat}{rows ys:List D}(h1:∀x∈rows,x.fits ag sz) (h2:∀x∈ys,x.fits ag sz):∀x∈rows++ys,x.fits ag sz:=by
 intro x hx
 rcases List.mem_append.1 hx with hx | hx
 ·exact h1 x hx
 ·exact h2 x hx
theorem DB {P:Program}{w:World}{t ty e:TypeId}{i:TypeInfo}(ht:P.underlying t=some (.slice e)) (hi:P.info? e=some i) {base A:Option Addr}{n cap c:Nat}(hn:n≤cap):
  (Builtin.append_ #[t,t] ty #[.slice base n cap,.slice A 0 c]).run P w= .ok (.slice base n cap) w:=by
 have hz:((some (TypeDesc.slice e)) matches some (.int _))=false:=rfl
 cases base<;>cases A<;>simp[Builtin.append_,underlying,typeInfo,sizeOf,ht,hi,Builtin.lenOf,hn,Builtin.firstCells,loadCells,loadCellsFrom,storeCells]
theorem Ac.plain (R:Ac C F s h g a w) (hg:w.grownBy w' none) {e:TypeId}{ag:Bool}{sz:Nat}{out:List D}{zs:List Value}{v:Value}(hsz:0<sz) (hown:w'.ownsRow w.heap.size e sz v out.length zs)
  (hfit:∀x∈out,x.fits ag sz) (hr:∀(i:Nat) x (j:Nat) c,out[i]?=some x→x.cells[j]?=some c→∃u,zs[i*sz+j]?=some u∧Ad w (BG (zone g h) C.X) c u):
  Ac C F s h g a w'∧Ad w' (BG (zone g h) C.X) (.list ag sz out) v:=by
 have R':=R.grow hg
 obtain⟨w1,w2,w3,w4,w5⟩:=hg
 have hX:∀b o,C.X b o→b<w.heap.size:=fun b o hx=>Nat.lt_of_lt_of_le (R.xs b o hx) R.frame.size
 refine⟨R',Gt hsz (e:=e) (zs:=zs) ?_ hfit ?_ ?_⟩
 ·obtain⟨h1,h2⟩:=hown
  refine⟨h1,?_⟩
  rcases h2 with h2 | ⟨q,cap,cur,h3,_,h4⟩
  ·exact .inl h2
  ·exact .inr ⟨q,cap,cur,h3,Nat.zero_le _,h4⟩
 ·intro b hb o _
  have hge:w.heap.size≤b:=by
   rcases hown.2 with⟨h3,_⟩ | ⟨q,cap,cur,h3,hq,_⟩
   ·rw[h3]at hb;simp[blk]at hb
   ·rw[h3]at hb;simp[blk]at hb;omega
  rintro (hz | hx)
  ·exact absurd (Uy R.heap hz) (by omega)
  ·exact absurd (hX b o hx) (by omega)
 ·intro i x j c hi hj
  obtain⟨u,hu,hru⟩:=hr i x j c hi hj
  refine⟨u,hu,hru.mono fun b o u hu hz=>⟨?_,hz⟩⟩
  exact (World.cell?_of_block (a:=⟨b,o,none⟩) (w5 b (World.block_lt_of_cell? w ⟨b,o,none⟩ hu) (by simp))).trans hu
theorem Ac.owned (R:Ac C F s h g a w) {n:Nat}(hf:F n) (hg:w.grownBy w' none) {e:TypeId}{ag:Bool}{sz:Nat}{out:List D}{zs:List Value}{v:Value}(hsz:0<sz) (hown:w'.ownsRow w.heap.size e sz v out.length zs)
  (hfit:∀x∈out,x.fits ag sz) (hr:∀(i:Nat) x (j:Nat) c,out[i]?=some x→x.cells[j]?=some c→∃u,zs[i*sz+j]?=some u∧Ad w (BG (zone g h) C.X) c u):
  Ac C (fun k=>F k∧k≠n) s (AO h (.loc n) (.tok out.length sz e)) (Al g (.loc n) v) a w'∧
   BD w' (BG (zone (Al g (.loc n) v) (AO h (.loc n) (.tok out.length sz e))) C.X) (Al g (.loc n) v) (AO h (.loc n) (.tok out.length sz e)) (.lst (.loc n) ag sz out) v:=by
 obtain⟨w1,w2,w3,w4,w5⟩:=hg
 obtain⟨hgn,hhn⟩:=R.free n hf
 have hX:∀b o,C.X b o→b<w.heap.size:=fun b o hx=>Nat.lt_of_lt_of_le (R.xs b o hx) R.frame.size
 have hblk:∀b,b<w.heap.size→w'.heap[b]?=w.heap[b]?:=fun b hb=>w5 b hb (by simp)
 have hcell:∀b o u,w.cell? ⟨b,o,none⟩=some u→w'.cell? ⟨b,o,none⟩=some u:=fun b o u hu=>
  (World.cell?_of_block (a:=⟨b,o,none⟩) (hblk b (World.block_lt_of_cell? w ⟨b,o,none⟩ hu))).trans hu
 have hvb:∀b,blk v=some b→w.heap.size≤b:=by
  intro b hb
  rcases hown.2 with⟨h3,_⟩ | ⟨q,cap,cur,h3,hq,_⟩
  ·rw[h3]at hb;simp[blk]at hb
  ·rw[h3]at hb;simp[blk]at hb;omega
 have hsl:Ho v:=by
  rcases hown.2 with⟨h3,_⟩ | ⟨q,cap,cur,h3,hq,_⟩<;>rw[h3]<;>trivial
 have hne:∀{i:Id} {u:Value},g i=u→u≠undef→i≠ .loc n:=by
  rintro i u hv hu rfl
  exact hu (hv▸hgn)
 have now:∀{i:Id},isTu (g i)→i≠ .loc n:=by
  rintro i hi rfl
  rw[hgn]at hi
  exact BZ hi
 have hzz:∀b o,BG (zone (Al g (.loc n) v) (AO h (.loc n) (.tok out.length sz e))) C.X b o→BG (zone g h) C.X b o∨(w.heap.size≤b∧blk v=some b∧out.length*sz≤o):=by
  rintro b o (⟨i,ob,hi,h1⟩ | hx)
  ·by_cases hin:i= .loc n
   ·subst hin
    simp[AO,Al]at hi h1
    subst hi
    have h1:B7 v b∧out.length*sz≤o:=h1
    have h2:=h1.1.V4 hsl
    exact .inr ⟨hvb b h2,h2,h1.2⟩
   ·simp only[AO,Al,if_neg hin]at hi h1
    exact .inl (.inl ⟨i,ob,hi,h1⟩)
  ·exact .inl (.inr hx)
 have E:Jy w (BG (zone g h) C.X) g h w' (BG (zone (Al g (.loc n) v) (AO h (.loc n) (.tok out.length sz e))) C.X) (Al g (.loc n) v) (AO h (.loc n) (.tok out.length sz e)):=by
  refine⟨fun b o u hu hz=>⟨hcell b o u hu,fun hz'=>?_⟩,fun i b hb=>if_neg (hne hb (by simp[undef])),fun i q hq=>if_neg (hne hq (by simp[undef])),fun i hi=>?_,fun i k sz' e' hi hk=>?_,fun i hi=>by simpa [Al,now hi] using hi,
   fun i hi hk=>⟨by simpa [AO,now hi] using hk,by simp[Al,now hi]⟩⟩
  ·have:=World.block_lt_of_cell? w ⟨b,o,none⟩ hu
   simp at this
   rcases hzz b o hz' with h1 | ⟨h1,_⟩
   ·exact hz h1
   ·omega
  ·have:i≠ .loc n:=by rintro rfl;rw[hgn]at hi;exact hi
   simpa [Al,this] using hi
  ·have:i≠ .loc n:=by rintro rfl;rw[hgn]at hi;exact hi
   exact⟨k,Nat.le_refl _,by simpa [AO,this] using hk,fun _=>by simp[Al,this]⟩
 have hown0:w'.ownsRow 0 e sz v out.length zs:=by
  obtain⟨h1,h2⟩:=hown
  refine⟨h1,?_⟩
  rcases h2 with h2 | ⟨q,cap,cur,h3,_,h4⟩
  ·exact .inl h2
  ·exact .inr ⟨q,cap,cur,h3,Nat.zero_le _,h4⟩
 refine⟨R.step (F':=fun k=>F k∧k≠n) (fun i=>i= .loc n) E ⟨w1,w2,w3,w4,fun b hb _=>hblk b hb,fun b o u hu _=>hcell b o u hu⟩ ?_ ?_ ?_ ?_ ?_ ?_ ?_,?_⟩
 ·intro i hi
  simp[AO,Al,hi]
 ·intro i o b _ hi hb
  exact hblk b ((R.heap.objs i o hi).lt hb)
 ·rintro i o rfl ho
  simp[AO]at ho
  subst ho
  refine⟨hsz,zs,?_⟩
  simpa [Al] using hown0
 ·rintro i o b p rfl ho hb
  simp[AO]at ho
  subst ho
  simp[Al]at hb
  exact .inr (hvb b (hb.Hs.blk.V4 hsl))
 ·rintro i j _ _ _ rfl rfl _ _ _ _
  rfl
 ·intro j hj
  exact absurd hj (by simp)
 ·rintro k ⟨hk,hkn⟩
  have:=R.free k hk
  simp[Al,AO,hkn,this]
 ·refine⟨Gt hsz hown0 hfit (fun b hb o ho hz=>?_) (fun i x j c hi hj=>?_),by simpa [Al] using hsl,fun k sz' e' hk=>?_⟩
  ·rcases hzz b o hz with (h1 | hx) | ⟨_,_,h1⟩
   ·exact absurd (Uy R.heap h1) (by have:=hvb b hb;omega)
   ·exact absurd (hX b o hx) (by have:=hvb b hb;omega)
   ·omega
  ·obtain⟨u,hu,hru⟩:=hr i x j c hi hj
   exact⟨u,hu,E.Gi hru⟩
  ·simp[AO]at hk
   obtain⟨rfl,rfl,rfl⟩:=hk
   exact⟨rfl,Nat.le_refl _,fun _=>by simp[Al]⟩
end
end Go.AM
namespace Go.AM
open Go Go.RowKit
section
variable {C:Cx}{F:Nat→Prop}{s:AR}{h:Heap}{g:AW}{a:Act}{w w':World}
theorem Ac.RL (R:Ac C F s h g a w) {i n sz:Nat}{e:TypeId}{ag:Bool}{out:List D}{zs:List Value}{v:Value}(hsz:0<sz) (hi:h (.loc i)=some (.tok n sz e))
  (hos:w'.os=w.os∧w'.tape=w.tape∧w'.output=w.output∧w.heap.size≤w'.heap.size)
  (hblk:∀b,b<w.heap.size→blk (g (.loc i))≠some b→w'.heap[b]?=w.heap[b]?)
  (hcell:∀b o u,w.cell? ⟨b,o,none⟩=some u→¬(blk (g (.loc i))=some b∧n*sz≤o)→w'.cell? ⟨b,o,none⟩=some u)
  (hown:w'.ownsRow 0 e sz v out.length zs) (hvb:∀b,blk v=some b→blk (g (.loc i))=some b∨w.heap.size≤b) (hlt:n<out.length)
  (hfit:∀x∈out,x.fits ag sz) (hr:∀(j:Nat) x (q:Nat) c,out[j]?=some x→x.cells[q]?=some c→∃u,zs[j*sz+q]?=some u∧Ad w (BG (zone g h) C.X) c u):
  Ac C F s (AO h (.loc i) (.tok out.length sz e)) (Al g (.loc i) v) a w'∧
   BD w' (BG (zone (Al g (.loc i) v) (AO h (.loc i) (.tok out.length sz e))) C.X) (Al g (.loc i) v) (AO h (.loc i) (.tok out.length sz e)) (.lst (.loc i) ag sz out) v:=by
 have hX:∀b o,C.X b o→b<w.heap.size:=fun b o hx=>Nat.lt_of_lt_of_le (R.xs b o hx) R.frame.size
 have hnm:n*sz≤out.length*sz:=Nat.mul_le_mul_right _ (Nat.le_of_lt hlt)
 have hzone:∀b o,blk (g (.loc i))=some b→n*sz≤o→zone g h b o:=fun b o hb ho=>⟨.loc i,_,hi,.inl hb,ho⟩
 have hgsl:Ho (g (.loc i)):=by
  obtain⟨_,xs,_,h2⟩:=R.heap.objs _ _ hi
  rcases h2 with⟨h3,_⟩ | ⟨q,cap,cur,h3,_⟩<;>rw[h3]<;>trivial
 have hzz:∀b o,BG (zone (Al g (.loc i) v) (AO h (.loc i) (.tok out.length sz e))) C.X b o→BG (zone g h) C.X b o∨w.heap.size≤b:=by
  rintro b o (⟨j,ob,hj,h1⟩ | hx)
  ·by_cases hin:j= .loc i
   ·subst hin
    simp[AO,Al]at hj h1
    subst hj
    have h1:B7 v b∧out.length*sz≤o:=h1
    rcases hvb b (h1.1.V4 (MC hown))with h2 | h2
    ·exact .inl (.inl (hzone b o h2 (Nat.le_trans hnm h1.2)))
    ·exact .inr h2
   ·simp only[AO,Al,if_neg hin]at hj h1
    exact .inl (.inl ⟨j,ob,hj,h1⟩)
  ·exact .inl (.inr hx)
 have E:Jy w (BG (zone g h) C.X) g h w' (BG (zone (Al g (.loc i) v) (AO h (.loc i) (.tok out.length sz e))) C.X) (Al g (.loc i) v) (AO h (.loc i) (.tok out.length sz e)):=by
  have ne:∀{j:Id} {u:Value},g j=u→¬Ho u→j≠ .loc i:=by
   rintro j u hu hs rfl
   exact hs (hu▸hgsl)
  refine⟨fun b o u hu hz=>⟨hcell b o u hu (fun hh=>hz (.inl (hzone b o hh.1 hh.2))),fun hz'=>?_⟩,fun j b hb=>if_neg (ne hb (by simp[Ho])),fun j q hq=>if_neg (ne hq (by simp[Ho])),fun j hj=>?_,fun j k sz' e' hj hk=>?_,fun j hj=>?_,fun j hj hk=>?_⟩
  ·have:=World.block_lt_of_cell? w ⟨b,o,none⟩ hu
   simp at this
   rcases hzz b o hz' with h1 | h1
   ·exact hz h1
   ·omega
  ·by_cases hin:j= .loc i
   ·subst hin
    simp only[Al,if_true]
    rcases hown.2 with⟨h3,_⟩ | ⟨q,cap,cur,h3,_⟩<;>rw[h3]<;>trivial
   ·simpa [Al,hin] using hj
  ·by_cases hin:j= .loc i
   ·subst hin
    simp[AO]at hk
    obtain⟨rfl,rfl,rfl⟩:=hk
    exact⟨n,Nat.le_of_lt hlt,hi,fun h=>by omega⟩
   ·exact⟨k,Nat.le_refl _,by simpa [AO,hin] using hk,fun _=>by simp[Al,hin]⟩
  ·have hin:j≠ .loc i:=by
    rintro rfl
    exact E0 hgsl hj
   simpa [Al,hin] using hj
  ·have hin:j≠ .loc i:=by
    rintro rfl
    simp[AO,isLive]at hk
   exact⟨by simpa [AO,hin] using hk,by simp[Al,hin]⟩
 have hvblk:Ho v:=by
  rcases hown.2 with⟨h3,_⟩ | ⟨q,cap,cur,h3,_⟩<;>rw[h3]<;>trivial
 refine⟨R.step (F':=F) (fun j=>j= .loc i) E ⟨hos.1,hos.2.1,hos.2.2.1,hos.2.2.2,fun b hb hz=>hblk b hb (fun hh=>hz (n*sz) (hzone b _ hh (Nat.le_refl _))),fun b o u hu hz=>hcell b o u hu (fun hh=>hz (hzone b o hh.1 hh.2))⟩ ?_ ?_ ?_ ?_ ?_ ?_ ?_,?_⟩
 ·intro j hj
  simp[AO,Al,hj]
 ·intro j o b hj ho hb
  refine hblk b ((R.heap.objs j o ho).lt hb) (fun hh=>hj (R.heap.sep j (.loc i) o _ b ho hi hb (.inl hh)))
 ·rintro j o rfl ho
  simp[AO]at ho
  subst ho
  refine⟨hsz,zs,?_⟩
  simpa [Al] using hown
 ·rintro j o b p rfl ho hb
  simp[AO]at ho
  subst ho
  simp[Al]at hb
  have hb:B7 v b∧out.length*sz≤p:=hb
  rcases hvb b (hb.1.V4 (MC hown))with h1 | h1
  ·exact .inl ⟨_,_,rfl,hi,.inl h1,Nat.le_trans hnm hb.2⟩
  ·exact .inr h1
 ·rintro j k _ _ _ rfl rfl _ _ _ _
  rfl
 ·intro j hj
  exact absurd hj (by simp)
 ·intro k hk
  have:=R.free k hk
  have hne:k≠i:=by rintro rfl;rw[this.2]at hi;cases hi
  simp[Al,AO,hne,this]
 ·refine⟨Gt hsz hown hfit (fun b hb o ho hz=>?_) (fun j x q c hj hq=>?_),by simpa [Al] using hvblk,fun k sz' e' hk=>?_⟩
  ·-- the cells below the new length are nobody's
   rcases hz with⟨j,ob,hj,h1⟩ | hx
   ·by_cases hin:j= .loc i
    ·subst hin
     simp[AO,Al]at hj h1
     subst hj
     have:=(show B7 v b∧out.length*sz≤o from h1).2
     omega
    ·simp only[AO,Al,if_neg hin]at hj h1
     rcases hvb b hb with h2 | h2
     ·exact hin (R.heap.sep j (.loc i) ob _ b hj hi h1.Hs (.inl h2))
     ·exact absurd ((R.heap.objs j ob hj).lt h1.Hs) (by omega)
   ·rcases hvb b hb with h2 | h2
    ·exact R.heap.apart (.loc i) _ b o hi (.inl h2) hx
    ·exact absurd (hX b o hx) (by omega)
  ·obtain⟨u,hu,hru⟩:=hr j x q c hj hq
   exact⟨u,hu,E.Gi hru⟩
  ·simp[AO]at hk
   obtain⟨rfl,rfl,rfl⟩:=hk
   exact⟨rfl,Nat.le_refl _,fun _=>by simp[Al]⟩
theorem WH {h:Heap}{i:Id}{o:AH}(hi:h i=some o):AO h i o=h:=by
 funext j
 unfold AO
 split
 ·subst_vars;exact hi.symm
 ·rfl
theorem WI {g:AW}{i:Id}:Al g i (g i)=g:=by
 funext j
 unfold Al
 split
 ·subst_vars;rfl
 ·rfl
end
section
variable {C:Cx}{ti:Types}{o:Oper}{fresh:Nat}{s:AR}{h:Heap}{k:Out→Prop}
theorem Dm (hti:BN C.P ti) {e:TypeId}{j:TI}(hj:ti e=some j):∃i,C.P.info? e=some i∧i.size=j.size∧i.bytes=j.bytes∧i.zero=some j.zero∧j.zero.cells.size=j.size:=by
 obtain⟨_,i,h1,h2,h3,h4,h5,_⟩:=hti e j hj
 exact⟨i,h1,h2,h3,h4,h5⟩
theorem Rm (hti:BN C.P ti) {t ty e:TypeId}{q j:TI}(hq:ti t=some q) (hd:q.desc= .slice e) (hj:ti e=some j) (hsz:0<j.size) {w:World}{Z:Aq}{ag:Bool}{rows ys:List D}{A B:Option Addr}{cap m c:Nat}
  (hr:Ad w Z (.list ag j.size rows) (.slice A rows.length cap)) (hcap:cap=rows.length) (hnil:rows=[]→A=none→cap=0) (hy:Ad w Z (.list ag j.size ys) (.slice B m c)) (hne:ys≠[])
  (hmax:rows.length+ys.length≤maxLen) (hbytes:(rows.length+ys.length)*j.bytes≤140737488355328):
  ∃v' w' zs,(Builtin.append_ #[t,t] ty #[.slice A rows.length cap,.slice B m c]).run C.P w= .ok v' w'∧w'.ownsRow w.heap.size e j.size v' (rows++ys).length zs∧w.grownBy w' none∧
   (∀x∈rows++ys,x.fits ag j.size)∧(∀(i:Nat) x (q:Nat) c,(rows++ys)[i]?=some x→x.cells[q]?=some c→∃u,zs[i*j.size+q]?=some u∧Ad w Z c u):=by
 obtain⟨hm,_,_,hB,hfy,news,n1,n2,n3,n4⟩:=hy.Jx hsz
 obtain⟨_,_,_,hA,hfr,olds,o1,o2,o3,o4⟩:=hr.Jx hsz
 obtain⟨i,i1,i2,i3,i4,i5⟩:=Dm hti hj
 have ht:C.P.underlying t=some (.slice e):=by rw[(hti t q hq).1,hd]
 obtain⟨b,o,rfl⟩:=hB hne
 subst hm
 have hl:(rows++ys).length=rows.length+ys.length:=List.length_append
 have fin:∀v' w',w'.ownsRow w.heap.size e j.size v' (rows.length+ys.length) (olds++news)→w.grownBy w' none→(Builtin.append_ #[t,t] ty #[.slice A rows.length cap,.slice (some ⟨b,o,none⟩) ys.length c]).run C.P w= .ok v' w'→
   ∃v' w' zs,(Builtin.append_ #[t,t] ty #[.slice A rows.length cap,.slice (some ⟨b,o,none⟩) ys.length c]).run C.P w= .ok v' w'∧w'.ownsRow w.heap.size e j.size v' (rows++ys).length zs∧w.grownBy w' none∧
   (∀x∈rows++ys,x.fits ag j.size)∧(∀(i:Nat) x (q:Nat) c,(rows++ys)[i]?=some x→x.cells[q]?=some c→∃u,zs[i*j.size+q]?=some u∧Ad w Z c u):=
  fun v' w' h1 h2 h3=>⟨v',w',olds++news,h3,by rw[hl];exact h1,h2,Gu hfr hfy,MO o1 hfy hfr o4 n4⟩
 cases A with
 | none=>
  have hr0:rows=[]:=by
   by_cases h:rows=[]
   ·exact h
   ·obtain⟨_,_,h'⟩:=hA h;cases h'
  subst hr0
  have hc0:=hnil rfl rfl
  subst hc0
  have ho:olds=[]:=List.eq_nil_of_length_eq_zero (by simpa using o1)
  subst ho
  obtain⟨v',w',hrun,r1,r2,_⟩:=run_append_own (P:=C.P) w w.heap.size t ty e i j.zero j.size j.bytes ht i1 i4 i2 i3 i5 hsz (.slice none 0 0) 0 [] (World.ownsRow_nil w _ _ _) ⟨b,o,none⟩ ys.length c news n1
   (fun j' u hu=>by have:=(n3 b o rfl j' u hu).1;simpa [Bw] using this) n2 (by simpa using hmax) (by simpa using hbytes) (Nat.le_refl _)
  exact fin v' w' (by simpa using r1) (by simpa [Value.ownBlock] using r2) (by simpa using hrun)
 | some A=>
  by_cases hrn:rows=[]
  ·subst hrn
   have ho:olds=[]:=List.eq_nil_of_length_eq_zero (by simpa using o1)
   subst ho
   obtain⟨v',w',hrun,r1,r2⟩:=run_append_arg_grows (P:=C.P) w t ty e i j.zero j.size j.bytes ht i1 i4 i2 i3 i5 hsz A 0 cap [] (by simp) (by simp) ⟨b,o,none⟩ ys.length c news n1
    (fun j' u hu=>by have:=(n3 b o rfl j' u hu).1;simpa [Bw] using this) (by subst hcap;have:ys.length≠0:=fun h=>hne (List.eq_nil_of_length_eq_zero h);simp;omega) (by simpa using hmax) (by simpa using hbytes)
   exact fin v' w' (by simpa using r1) r2 (by simpa using hrun)
  ·obtain⟨b',o',hA'⟩:=hA hrn
   cases hA'
   obtain⟨v',w',hrun,r1,r2⟩:=run_append_arg_grows (P:=C.P) w t ty e i j.zero j.size j.bytes ht i1 i4 i2 i3 i5 hsz ⟨b',o',none⟩ rows.length cap olds o1 (fun j' u hu=>by have:=(o3 b' o' rfl j' u hu).1;simpa [Bw] using this) ⟨b,o,none⟩ ys.length c news n1
    (fun j' u hu=>by have:=(n3 b o rfl j' u hu).1;simpa [Bw] using this) (by subst hcap;have:ys.length≠0:=fun h=>hne (List.eq_nil_of_length_eq_zero h);omega) hmax hbytes
   exact fin v' w' r1 r2 hrun
theorem Rn {C:Cx}{o:Oper}{fresh:Nat}{s:AR}{h:Heap}{ag:Bool}{sz:Nat}{e:TypeId}{out:List D}(hsz:0<sz)
  (hr:∀F σs σh g a w,Ac C F σs σh g a w→(∀t,Operand.tmp t∈o.op.operands.toList→σs t=s t)→
   ∃v' w' zs,(execOp a.eval o).run C.P w= .ok (.value v') w'∧w'.ownsRow w.heap.size e sz v' out.length zs∧w.grownBy w' none∧
   (∀x∈out,x.fits ag sz)∧(∀(i:Nat) x (q:Nat) c,out[i]?=some x→x.cells[q]?=some c→∃u,zs[i*sz+q]?=some u∧Ad w (BG (zone g σh) C.X) c u)):
  Bk C o fresh s h ⟨.v (.c (.lst (.loc fresh) ag sz out)),[],[(.loc fresh,.tok out.length sz e)]⟩:=by
 rintro F σs σh a w Q ⟨g,R⟩ ho hrd hF hd
 obtain⟨v',w',zs,hrun,r1,r2,r3,r4⟩:=hr F σs σh g a w R ho
 unfold Oper.wp
 rw[hrun]
 obtain⟨R',hl⟩:=R.owned (n:=fresh) (hF 0 (by omega)) r2 hsz r1 r3 r4
 exact⟨_,(R'.put hd (v:=.v (.c (.lst (.loc fresh) ag sz out))) hl).A0 (fun n hn=>⟨hn.1,fun e=>hn.2 (by omega)⟩)⟩
theorem P4 {C:Cx}{o:Oper}{fresh:Nat}{s:AR}{h:Heap}{ag:Bool}{sz:Nat}{out:List D}
  (hr:∀F σs σh g a w,Ac C F σs σh g a w→(∀t,Operand.tmp t∈o.op.operands.toList→σs t=s t)→
   ∃v' w',(execOp a.eval o).run C.P w= .ok (.value v') w'∧Ac C F σs σh g a w'∧Ad w' (BG (zone g σh) C.X) (.list ag sz out) v'):
  Bk C o fresh s h ⟨.v (.d (.list ag sz out)),[],[]⟩:=by
 rintro F σs σh a w Q ⟨g,R⟩ ho hrd hF hd
 obtain⟨v',w',hrun,R',hl⟩:=hr F σs σh g a w R ho
 unfold Oper.wp
 rw[hrun]
 exact⟨g,(R'.put hd (v:=.v (.d (.list ag sz out))) hl).A0 (fun n hn=>hn.1)⟩
theorem DU {P:Program}{o:Oper}{a:Act}{x y:Operand}{t:TypeId}{w:World}{r:Result Value}(ho:o.op= .call {callee:=.builtin .append,args:=#[x,y],argTypes:=#[t,t]})
  {v:Value} {w':World} (h:(Builtin.append_ #[t,t] o.type #[a.eval x,a.eval y]).run P w= .ok v w'):(execOp a.eval o).run P w= .ok (.value v) w':=by
 simp[execOp,ho,resolve,invoke,builtin,h]
theorem MP (hti:BN C.P ti) {t e:TypeId}{q j:TI}(hq:ti t=some q) (hd:q.desc= .slice e) (hj:ti e=some j) (hsz:0<j.size) (x y:Operand) (ho:o.op= .call {callee:=.builtin .append,args:=#[x,y],argTypes:=#[t,t]})
  {isNil:Bool} {rows ys:List D}
  (hx:∀{w:World} {Z:Aq} {g:AW} {h:Heap} {v:Value},Ar w Z g h (Aw ti s t x) v→(∃A,v= .slice A rows.length rows.length∧(isNil=true→rows=[]∧A=none))∧Ad w Z (.list (Aj j.desc) j.size rows) v)
  (hy:∀{w:World} {Z:Aq} {g:AW} {h:Heap} {v:Value},Ar w Z g h (Aw ti s t y) v→Ad w Z (.list (Aj j.desc) j.size ys) v)
  (hk:Lk C.M (Aj j.desc) j.size e j.bytes fresh isNil rows ys k):∃out,k out∧Bk C o fresh s h out:=by
 unfold Lk at hk
 obtain⟨hlk,out,rfl,own,hk⟩:=hk
 obtain⟨hmax,hbytes⟩:=(C.M.lock_iff _).1 hlk
 have ht:C.P.underlying t=some (.slice e):=by rw[(hti t q hq).1,hd]
 obtain⟨i,i1,i2,i3,i4,i5⟩:=Dm hti hj
 have opx:∀{F:Nat→Prop} {σs:AR} {σh:Heap} {g:AW} {a:Act} {w:World} (R:Ac C F σs σh g a w),(∀t,Operand.tmp t∈o.op.operands.toList→σs t=s t)→Ar w (BG (zone g σh) C.X) g σh (Aw ti s t x) (a.eval x):=
  fun R hs=>AY ti t x R (s:=s) (fun k hk=>hs k (by subst hk;simp[ho,Op.operands,Call.operands]))
 have opy:∀{F:Nat→Prop} {σs:AR} {σh:Heap} {g:AW} {a:Act} {w:World} (R:Ac C F σs σh g a w),(∀t,Operand.tmp t∈o.op.operands.toList→σs t=s t)→Ar w (BG (zone g σh) C.X) g σh (Aw ti s t y) (a.eval y):=
  fun R hs=>AY ti t y R (s:=s) (fun k hk=>hs k (by subst hk;simp[ho,Op.operands,Call.operands]))
 cases own with
 | true=>
  obtain⟨hne,hk⟩:=hk
  refine⟨_,hk,Rn hsz fun F σs σh g a w R hs=>?_⟩
  obtain⟨⟨A,hv,hnil⟩,hrx⟩:=hx (opx R hs)
  have hry:=hy (opy R hs)
  by_cases hys:ys=[]
  ·-- nil, and nothing
   subst hys
   rcases hne with hni | hni
   ·obtain⟨rfl,rfl⟩:=hnil hni
    generalize hyv:a.eval y=v at hry
    cases hry with
    | list _ _ _ B c b o' U hcap hmx hfit ha hc hr=>
     refine⟨.slice none 0 0,w,[],?_,?_,⟨rfl,rfl,rfl,Nat.le_refl _,fun _ _ _=>rfl⟩,by simp,by simp⟩
     ·refine DU (r:=.ok (.slice none 0 0) w) ho ?_
      rw[hv,hyv]
      exact DB (P:=C.P) ht i1 (Nat.le_refl _)
     ·exact World.ownsRow_nil w _ _ _
   ·exact absurd rfl hni
  ·generalize hyv:a.eval y=v at hry
   cases hry0:v with
   | slice B m c=>
    subst hry0
    have hrx':=hrx
    rw[hv]at hrx'
    obtain⟨v',w',zs,h1,h2,h3,h4,h5⟩:=Rm hti (ty:=o.type) hq hd hj hsz hrx' rfl (fun h1 h2=>by rw[h1];rfl) hry hys hmax hbytes
    refine⟨v',w',zs,DU (r:=.ok v' w') ho (by rw[hv,hyv];exact h1),h2,h3,h4,h5⟩
   | _=>subst hry0;cases hry
 | false=>
  refine⟨_,hk,P4 fun F σs σh g a w R hs=>?_⟩
  obtain⟨⟨A,hv,hnil⟩,hrx⟩:=hx (opx R hs)
  have hry:=hy (opy R hs)
  by_cases hys:ys=[]
  ·subst hys
   generalize hyv:a.eval y=v at hry
   cases hry with
   | list _ _ _ B c b o' U hcap hmx hfit ha hc hr=>
    refine⟨a.eval x,w,?_,R,by simpa using hrx⟩
    refine DU (r:=.ok (a.eval x) w) ho ?_
    rw[hv,hyv]
    exact DB (P:=C.P) ht i1 (Nat.le_refl _)
  ·generalize hyv:a.eval y=v at hry
   cases hry0:v with
   | slice B m c=>
    subst hry0
    have hrx':=hrx
    rw[hv]at hrx'
    obtain⟨v',w',zs,h1,h2,h3,h4,h5⟩:=Rm hti (ty:=o.type) hq hd hj hsz hrx' rfl (fun h1 h2=>by rw[h1];rfl) hry hys hmax hbytes
    obtain⟨r1,r2⟩:=R.plain h3 hsz h2 h4 h5
    exact⟨v',w',DU (r:=.ok v' w') ho (by rw[hv,hyv];exact h1),r1,r2⟩
   | _=>subst hry0;cases hry
end
end Go.AM
namespace Go.AM
open Go Go.RowKit
section
variable {C:Cx}{ti:Types}{o:Oper}{fresh:Nat}{s:AR}{h:Heap}{k:Out→Prop}
theorem P5 (hti:BN C.P ti) {t e:TypeId}{q j:TI}(hq:ti t=some q) (hd:q.desc= .slice e) (hj:ti e=some j) (hsz:0<j.size) (x y:Operand) (ho:o.op= .call {callee:=.builtin .append,args:=#[x,y],argTypes:=#[t,t]})
  {i:Nat} {rows ys:List D} (hx0:Aw ti s t x= .v (.c (.lst (.loc i) (Aj j.desc) j.size rows))) (hi:h (.loc i)=some (.tok rows.length j.size e))
  (hy:∀{w:World} {Z:Aq} {g:AW} {h:Heap} {v:Value},Ar w Z g h (Aw ti s t y) v→Ad w Z (.list (Aj j.desc) j.size ys) v)
  (hmax:rows.length+ys.length≤maxLen) (hbytes:(rows.length+ys.length)*j.bytes≤140737488355328):
  Bk C o fresh s h ⟨.v (.c (.lst (.loc i) (Aj j.desc) j.size (rows++ys))),[.loc i],[(.loc i,.tok (rows++ys).length j.size e)]⟩:=by
 rintro F σs σh a w Q ⟨g,R⟩ hs hrd hF hdst
 have hσi:σh (.loc i)=some (.tok rows.length j.size e):=(hrd _ (by simp)).trans hi
 have hx:=AY ti t x R (s:=s) (fun k hk=>hs k (by subst hk;simp[ho,Op.operands,Call.operands]))
 rw[hx0]at hx
 obtain⟨hrx,hsl,htok⟩:=hx
 obtain⟨_,_,hv⟩:=htok _ _ _ hσi
 have hv:=hv rfl
 have hry:=hy (AY ti t y R (s:=s) (fun k hk=>hs k (by subst hk;simp[ho,Op.operands,Call.operands])))
 have ht:C.P.underlying t=some (.slice e):=by rw[(hti t q hq).1,hd]
 obtain⟨ii,i1,i2,i3,i4,i5⟩:=Dm hti hj
 obtain⟨_,xs,hown⟩:=R.heap.objs _ _ hσi
 have hl:(rows++ys).length=rows.length+ys.length:=List.length_append
 -- the end: a run, and what it leaves
 have fin:∀v' w',(Builtin.append_ #[t,t] o.type #[a.eval x,a.eval y]).run C.P w= .ok v' w'→
   (Ac C F σs (AO σh (.loc i) (.tok (rows++ys).length j.size e)) (Al g (.loc i) v') a w'∧
   BD w' (BG (zone (Al g (.loc i) v') (AO σh (.loc i) (.tok (rows++ys).length j.size e))) C.X) (Al g (.loc i) v') (AO σh (.loc i) (.tok (rows++ys).length j.size e)) (.lst (.loc i) (Aj j.desc) j.size (rows++ys)) v')→
   o.wp C.P a w (fun a' w'=>Rel C (fun n=>F n∧¬(fresh≤n∧n<fresh+32)) (Dg σs o.dst (.v (.c (.lst (.loc i) (Aj j.desc) j.size (rows++ys))))) (BJ σh [(.loc i,.tok (rows++ys).length j.size e)]) a' w') Q:=by
  rintro v' w' hrun ⟨R',hlst⟩
  unfold Oper.wp
  rw[DU (r:=.ok v' w') ho hrun]
  exact⟨_,(R'.put hdst (v:=.v (.c (.lst (.loc i) (Aj j.desc) j.size (rows++ys)))) hlst).A0 (fun n hn=>hn.1)⟩
 generalize hyv:a.eval y=vy at hry fin
 by_cases hys:ys=[]
 ·subst hys
  cases hry with
  | list _ _ _ B c b o' U hcap hmx hfit ha hc hr=>
   obtain⟨hlx,h2⟩:=hown
   have hrun:(Builtin.append_ #[t,t] o.type #[a.eval x,.slice B 0 c]).run C.P w= .ok (g (.loc i)) w:=by
    rw[hv]
    rcases h2 with⟨h3,h4⟩ | ⟨qb,cap,cur,h3,_,h5,h6,_⟩
    ·rw[h3];exact DB (P:=C.P) ht i1 (Nat.le_refl _)
    ·rw[h3];exact DB (P:=C.P) ht i1 h6
   refine fin (g (.loc i)) w hrun ?_
   have e1:AO σh (.loc i) (.tok (rows++[]).length j.size e)=σh:=WH (by simpa using hσi)
   rw[e1,WI]
   refine⟨R,?_⟩
   rw[List.append_nil,←hv]
   exact⟨hrx,hsl,fun n sz' e' hn=>htok n sz' e' hn⟩
 ·cases vy with
  | slice B m c=>
   obtain⟨hm,_,_,hB,hfy,news,n1,n2,n3,n4⟩:=hry.Jx hsz
   obtain⟨bb,oo,rfl⟩:=hB hys
   subst hm
   have hmpos:0<ys.length:=by
    have:ys.length≠0:=fun h=>hys (List.eq_nil_of_length_eq_zero h)
    omega
   have hnews:∀(j':Nat) u,news[j']?=some u→w.cell? ((⟨bb,oo,none⟩:Addr).add j')=some u:=fun j' u hu=>by
    have:=(n3 bb oo rfl j' u hu).1
    simpa [Bw] using this
   generalize hgi:g (.loc i)=gi at hown hv
   rw[hv]at hrx fin
   obtain⟨hlx,h2⟩:=hown
   rcases h2 with⟨rfl,h4⟩ | ⟨qb,cap,cur,rfl,_,h5,h6,h7,h8,h9⟩
   ·-- the list is nil
    have hr0:rows=[]:=List.eq_nil_of_length_eq_zero h4
    subst hr0
    obtain⟨v',w',hrun,r1,r2,_⟩:=run_append_own (P:=C.P) w w.heap.size t o.type e ii j.zero j.size j.bytes ht i1 i4 i2 i3 i5 hsz (.slice none 0 0) 0 [] (World.ownsRow_nil w _ _ _) ⟨bb,oo,none⟩ ys.length c news n1 hnews n2 (by simpa using hmax) (by simpa using hbytes) (Nat.le_refl _)
    obtain⟨g1,g2,g3,g4,g5⟩:=r2
    refine fin v' w' (by simpa using hrun) (R.RL hsz hσi (zs:=news) ⟨g1,g2,g3,g4⟩ (fun b hb _=>g5 b hb (by simp[Value.ownBlock])) (fun b o u hu _=>?_) ?_ (fun b hb=>.inr ?_) (by simp;omega) (by simpa using hfy) (by simpa using n4))
    ·exact (World.cell?_of_block (a:=⟨b,o,none⟩) (g5 b (World.block_lt_of_cell? w ⟨b,o,none⟩ hu) (by simp[Value.ownBlock]))).trans hu
    ·obtain⟨p1,p2⟩:=r1
     refine⟨by simpa using p1,?_⟩
     rcases p2 with p2 | ⟨q',c',cu',p3,_,p4⟩
     ·exact .inl (by simpa using p2)
     ·exact .inr ⟨q',c',cu',by simpa using p3,Nat.zero_le _,by simpa using p4⟩
    ·rcases r1.2 with⟨p3,_⟩ | ⟨q',c',cu',p3,p4,_⟩
     ·rw[p3]at hb;simp[blk]at hb
     ·rw[p3]at hb;simp[blk]at hb;omega
   ·-- a row
    obtain⟨_,_,_,hA,hfr,olds,o1,o2,o3,o4⟩:=hrx.Jx hsz
    have hxs:∀(k:Nat) u,olds[k]?=some u→xs[k]?=some u:=by
     intro k u hu
     have hc:=(o3 qb 0 rfl k u hu).1
     have hk:=(List.getElem?_eq_some_iff.1 hu).1
     rw[o1]at hk
     have:cur[k]?=some u:=by simpa [World.cell?,h5] using hc
     rw[←h9,List.getElem?_take,if_pos hk]
     simpa using this
    have o4':∀(i:Nat) x (q:Nat) c,rows[i]?=some x→x.cells[q]?=some c→∃u,xs[i*j.size+q]?=some u∧Ad w (BG (zone g σh) C.X) c u:=by
     intro i x q c hx hq
     obtain⟨u,hu,hr⟩:=o4 i x q c hx hq
     exact⟨u,hxs _ u hu,hr⟩
    have hrow:=MO hlx hfy hfr o4' n4
    have hfit:=Gu hfr hfy
    have hownw:w.ownsRow 0 e j.size (.slice (some ⟨qb,0,none⟩) rows.length cap) rows.length xs:=⟨hlx,.inr ⟨qb,cap,cur,rfl,Nat.zero_le _,h5,h6,h7,h8,h9⟩⟩
    by_cases hroom:rows.length+ys.length≤cap
    ·-- in place
     obtain⟨v',w',hrun,r1,r2,_⟩:=run_append_own (P:=C.P) w 0 t o.type e ii j.zero j.size j.bytes ht i1 i4 i2 i3 i5 hsz _ rows.length xs hownw ⟨bb,oo,none⟩ ys.length c news n1 hnews n2 hmax hbytes (Nat.zero_le _)
     have hrun2:=run_append_room_cells (P:=C.P) w t o.type e ii ht i1 qb 0 rows.length cap ⟨bb,oo,none⟩ ys.length c news (by rw[i2];exact n1) hnews n2 hroom
      (fun k hk=>by
       have hlt:rows.length*ii.size+k<cur.size:=by
        rw[h8,i2]
        rw[n1]at hk
        have:=Nat.mul_le_mul_right j.size hroom
        rw[Nat.add_mul]at this
        omega
       simp[World.cell?,h5,hlt])
      (fun k hk=>by simp[World.frozen?,h5])
     rw[hrun]at hrun2
     obtain⟨rfl,rfl⟩:v'= .slice (some ⟨qb,0,none⟩) (rows.length+ys.length) cap∧w'=w.setCells qb (0+rows.length*ii.size) news:=by
      injection hrun2 with e1 e2
      exact⟨e1,e2⟩
     obtain⟨g1,g2,g3,g4,g5⟩:=r2
     refine fin _ _ hrun (R.RL hsz hσi (zs:=xs++news) ⟨g1,g2,g3,g4⟩ (fun b hb hne=>g5 b hb (by rw[hgi]at hne;simpa [Value.ownBlock,blk,eq_comm] using hne)) (fun b o' u hu hz=>?_) (by rw[hl];exact r1) (fun b hb=>.inl ?_) (by omega) hfit hrow)
     ·have:=World.cell?_setCells_out qb news (0+rows.length*ii.size) w ⟨b,o',none⟩ (fun hb _=>.inl ?_)
      ·rw[this];exact hu
      ·rw[hgi]at hz
       simp only at hb
       subst hb
       rw[i2,Nat.zero_add]
       by_cases hlo:o'<rows.length*j.size
       ·exact hlo
       ·exact absurd ⟨rfl,by omega⟩ hz
     ·rw[hgi];exact hb
    ·-- a new row
     obtain⟨v',w',hrun,r1,r2⟩:=run_append_arg_grows (P:=C.P) w t o.type e ii j.zero j.size j.bytes ht i1 i4 i2 i3 i5 hsz ⟨qb,0,none⟩ rows.length cap xs hlx
      (fun k u hu=>by
       have hk:=(List.getElem?_eq_some_iff.1 hu).1
       rw[←h9,List.getElem?_take]at hu
       split at hu
       ·have hu:cur[k]?=some u:=by simpa using hu
        simp[Bw,World.cell?,h5,hu]
       ·cases hu)
      ⟨bb,oo,none⟩ ys.length c news n1 hnews (by omega) hmax hbytes
     obtain⟨g1,g2,g3,g4,g5⟩:=r2
     refine fin v' w' hrun (R.RL hsz hσi (zs:=xs++news) ⟨g1,g2,g3,g4⟩ (fun b hb _=>g5 b hb (by simp)) (fun b o' u hu _=>?_) ?_ (fun b hb=>.inr ?_) (by omega) hfit hrow)
     ·exact (World.cell?_of_block (a:=⟨b,o',none⟩) (g5 b (World.block_lt_of_cell? w ⟨b,o',none⟩ hu) (by simp))).trans hu
     ·obtain⟨p1,p2⟩:=r1
      rw[hl]
      refine⟨p1,?_⟩
      rcases p2 with p2 | ⟨q',c',cu',p3,_,p4⟩
      ·exact .inl p2
      ·exact .inr ⟨q',c',cu',p3,Nat.zero_le _,p4⟩
     ·rcases r1.2 with⟨p3,_⟩ | ⟨q',c',cu',p3,p4,_⟩
      ·rw[p3]at hb;simp[blk]at hb
      ·rw[p3]at hb;simp[blk]at hb;omega
  | _=>cases hry
theorem WJ (hti:BN C.P ti) (t:TypeId) (x y:Operand) (ho:o.op= .call {callee:=.builtin .append,args:=#[x,y],argTypes:=#[t,t]}) (hk:J0 C.M ti t (Aw ti s t x) (Aw ti s t y) fresh h k):∃out,k out∧Bk C o fresh s h out:=by
 unfold J0 at hk
 obtain⟨q,hq,hk⟩:=AQ.1 hk
 split at hk
 ·rename_i e hd
  obtain⟨j,hj,hk⟩:=AQ.1 hk
  replace hk:=AN.1 hk
  obtain⟨hsz,hk⟩:=hk
  have hsz:0<j.size:=by simp[Nat.blt]at hsz;omega
  replace hk:=Hb hk
  obtain⟨ag,sz,ys,hy,hk⟩:=hk
  replace hk:=AN.1 hk
  obtain⟨hag,hk⟩:=hk
  replace hk:=AN.1 hk
  obtain⟨hs2,hk⟩:=hk
  have hag:Aj j.desc=ag:=by simpa using hag
  have hs2:sz=j.size:=Nat.eq_of_beq_eq_true hs2
  subst hag
  subst hs2
  split at hk
  ·rename_i ag' sz' hop
   refine MP hti hq hd hj hsz x y ho (fun r=>?_) hy hk
   rw[hop]at r
   rw[show _=_ from r]
   exact⟨⟨none,rfl,fun _=>⟨rfl,rfl⟩⟩,Ff _ _⟩
  ·rename_i ag' sz' rows hop
   replace hk:=AN.1 hk
   obtain⟨ha',hk⟩:=hk
   replace hk:=AN.1 hk
   obtain⟨hs',hk⟩:=hk
   have ha':Aj j.desc=ag':=by simpa using ha'
   have hs':sz'=j.size:=Nat.eq_of_beq_eq_true hs'
   subst ha'
   subst hs'
   refine MP hti hq hd hj hsz x y ho (fun r=>?_) hy hk
   rw[hop]at r
   obtain⟨r1,A,r2⟩:=r
   exact⟨⟨A,r2,fun h=>by cases h⟩,r1⟩
  ·rename_i i ag' sz' rows hop
   replace hk:=AN.1 hk
   obtain⟨ha',hk⟩:=hk
   replace hk:=AN.1 hk
   obtain⟨hs',hk⟩:=hk
   have ha':Aj j.desc=ag':=by simpa using ha'
   have hs':sz'=j.size:=Nat.eq_of_beq_eq_true hs'
   subst ha'
   subst hs'
   split at hk
   ·rename_i n sz2 e2 hi
    replace hk:=AN.1 hk
    obtain⟨h1,hk⟩:=hk
    replace hk:=AN.1 hk
    obtain⟨h2,rfl,hlk,out,rfl,hk⟩:=hk
    obtain⟨h3,h4⟩:=(C.M.lock_iff _).1 hlk
    have h1:=Nat.eq_of_beq_eq_true h1
    have h2:=Nat.eq_of_beq_eq_true h2
    subst h1
    subst h2
    exact⟨_,hk,P5 hti hq hd hj hsz x y ho hop hi hy h3 h4⟩
   ·exact hk.elim
  ·exact hk.elim
 ·exact hk.elim
end
end Go.AM
namespace Go.AM
open Go Go.RowKit
structure IP (w:World) (ag:Bool) (sz:Nat) (rows:List D) (xs:List Value) (T:Nat→Nat→Nat→Prop) (S:Nat→Prop):Prop where
 fits:∀r∈rows,r.fits ag sz
 len:xs.length=rows.length*sz
 cell:∀(i:Nat) r (j:Nat) c,rows[i]?=some r→r.cells[j]?=some c→∃u,xs[i*sz+j]?=some u∧CG w c u (T i j)
 bound:∀i j b,T i j b→∃r c,rows[i]?=some r∧r.cells[j]?=some c
 inj:∀i j i' j' b,T i j b→T i' j' b→i=i'∧j=j'
 sub:∀i j b,T i j b→S b
theorem IP.nil (w:World) (ag:Bool) (sz:Nat):IP w ag sz [] [] (fun _ _ _=>False) (fun _=>False):=
 ⟨by simp,by simp,by simp,by simp,by simp,by simp⟩
theorem IP.append {w:World}{ag:Bool}{sz:Nat}{rows ys:List D}{xs zs:List Value}{T T':Nat→Nat→Nat→Prop}{S S':Nat→Prop}(h:IP w ag sz rows xs T S) (h':IP w ag sz ys zs T' S') (hd:∀b,S b→S' b→False):
  IP w ag sz (rows++ys) (xs++zs) (fun i j b=>if i<rows.length then T i j b else T' (i - rows.length) j b) (fun b=>S b∨S' b):=by
 refine⟨Gu h.fits h'.fits,by rw[List.length_append,List.length_append,h.len,h'.len,Nat.add_mul],fun i r j c hi hj=>?_,fun i j b hb=>?_,fun i j i' j' b hb hb'=>?_,fun i j b hb=>?_⟩
 ·by_cases hl:i<rows.length
  ·rw[List.getElem?_append_left hl]at hi
   obtain⟨u,hu,hr⟩:=h.cell i r j c hi hj
   refine⟨u,by rw[List.getElem?_append_left (List.getElem?_eq_some_iff.1 hu).1];exact hu,?_⟩
   simp only[hl,if_true]
   exact hr
  ·rw[List.getElem?_append_right (by omega)]at hi
   obtain⟨u,hu,hr⟩:=h'.cell _ r j c hi hj
   have hle:rows.length*sz≤i*sz:=Nat.mul_le_mul_right _ (by omega)
   refine⟨u,?_,?_⟩
   ·rw[List.getElem?_append_right (by rw[h.len];omega),←hu]
    congr 1
    rw[h.len,Nat.sub_mul]
    omega
   ·simp only[hl,if_false]
    exact hr
 ·skip
  split at hb
  ·rename_i hl
   obtain⟨r,c,h1,h2⟩:=h.bound i j b hb
   exact⟨r,c,by rw[List.getElem?_append_left hl];exact h1,h2⟩
  ·rename_i hl
   obtain⟨r,c,h1,h2⟩:=h'.bound _ j b hb
   exact⟨r,c,by rw[List.getElem?_append_right (by omega)];exact h1,h2⟩
 ·skip
  split at hb<;>split at hb'
  ·exact h.inj _ _ _ _ b hb hb'
  ·exact (hd b (h.sub _ _ b hb) (h'.sub _ _ b hb')).elim
  ·exact (hd b (h.sub _ _ b hb') (h'.sub _ _ b hb)).elim
  ·obtain⟨e1,e2⟩:=h'.inj _ _ _ _ b hb hb'
   exact⟨by omega,e2⟩
 ·skip
  split at hb
  ·exact .inl (h.sub _ _ b hb)
  ·exact .inr (h'.sub _ _ b hb)
theorem IP.same {w w':World}{ag:Bool}{sz:Nat}{rows:List D}{xs:List Value}{T:Nat→Nat→Nat→Prop}{S:Nat→Prop}(h:IP w ag sz rows xs T S) (hb:∀b,S b→w'.heap[b]?=w.heap[b]?):IP w' ag sz rows xs T S:=
 {h with cell:=fun i r j c hi hj=>let ⟨u,hu,hr⟩:=h.cell i r j c hi hj;⟨u,hu,hr.same fun b hb'=>hb b (h.sub i j b hb')⟩}
section
variable {C:Cx}{F:Nat→Prop}{s:AR}{h:Heap}{g:AW}{a:Act}{w:World}
theorem IP.of_closed {X Z:Aq}(R:EY w X g h) {ag:Bool}{sz n:Nat}{cs:List CV}{ds:List D}{iss:List (List Id)}{vs:List Value}(hsz:0<sz) (hag:ag=false→sz=1) (hn:cs.length=n*sz)
  (hds:ds.length=cs.length) (his:iss.length=cs.length) (hvs:vs.length=cs.length) (hnd:iss.flatten.Nodup)
  (hc:∀(q:Nat) c d is,cs[q]?=some c→ds[q]?=some d→iss[q]?=some is→Bn h c d is) (hr:∀(q:Nat) c u,cs[q]?=some c→vs[q]?=some u→BD w Z g h c u):
  IP w ag sz (rowsOf ag sz n ds) vs (fun i j b=>i<n∧j<sz∧∃is,iss[i*sz+j]?=some is∧∃x∈is,B7 (g x) b) (fun b=>∃x∈iss.flatten,B7 (g x) b):=by
 have bound:∀i j,i<n→j<sz→i*sz+j<cs.length:=by
  intro i j hi hj
  rw[hn]
  have:=Nat.mul_le_mul_right sz (show i+1≤n from hi)
  rw[Nat.add_mul]at this
  omega
 have own:∀q,q<cs.length→∃d is u,ds[q]?=some d∧iss[q]?=some is∧vs[q]?=some u∧CG w d u (fun b=>∃x∈is,B7 (g x) b):=by
  intro q hq
  have p1:cs[q]?=some cs[q]:=by simp
  have p2:ds[q]?=some (ds[q]'(by omega)):=List.getElem?_eq_getElem (by omega)
  have p3:iss[q]?=some (iss[q]'(by omega)):=List.getElem?_eq_getElem (by omega)
  have p4:vs[q]?=some (vs[q]'(by omega)):=List.getElem?_eq_getElem (by omega)
  exact⟨_,_,_,p2,p3,p4,(hc q _ _ _ p1 p2 p3).rel R ((List.sublist_flatten_of_mem (List.mem_of_getElem? p3)).nodup hnd) (hr q _ _ p1 p4)⟩
 have hda:∀d∈ds,d.isAgg=false:=by
  intro d hd
  obtain⟨q,hq⟩:=List.mem_iff_getElem?.1 hd
  obtain⟨d',_,_,e1,_,_,ho⟩:=own q (by rw[←hds];exact (List.getElem?_eq_some_iff.1 hq).1)
  rw[hq]at e1
  cases e1
  exact ho.isAgg
 have row:∀i,i<n→(rowOf ag ((ds.drop (i*sz)).take sz)).cells=(ds.drop (i*sz)).take sz∧(rowOf ag ((ds.drop (i*sz)).take sz)).isAgg=ag:=by
  intro i hi
  refine Gs (fun d hd=>hda d (List.mem_of_mem_drop (List.mem_of_mem_take hd))) (fun e=>?_)
  have:=bound i (sz - 1) hi (by omega)
  have:=hag e
  simp
  omega
 refine⟨fun r hr'=>?_,by rw[hvs,hn,MA],fun i r j c hi hj=>?_,fun i j b hb=>?_,fun i j i' j' b hb hb'=>?_,fun i j b hb=>?_⟩
 ·obtain⟨i,hi⟩:=List.mem_iff_getElem?.1 hr'
  obtain⟨hlt,rfl⟩:=F6 hi
  obtain⟨r1,r2⟩:=row i hlt
  have:=bound i (sz - 1) hlt (by omega)
  exact⟨r2,by rw[r1];simp;omega,by rw[r1];exact fun d hd=>hda d (List.mem_of_mem_drop (List.mem_of_mem_take hd))⟩
 ·obtain⟨hlt,rfl⟩:=F6 hi
  rw[(row i hlt).1,List.getElem?_take]at hj
  split at hj
  ·rename_i hjs
   rw[List.getElem?_drop]at hj
   obtain⟨d,is,u,e1,e2,e3,ho⟩:=own (i*sz+j) (bound i j hlt hjs)
   rw[hj]at e1
   cases e1
   refine⟨u,e3,ho.congr fun b=>⟨fun hx=>⟨hlt,hjs,is,e2,hx⟩,fun⟨_,_,is',h2,hx⟩=>?_⟩⟩
   rw[e2]at h2
   cases h2
   exact hx
  ·cases hj
 ·obtain⟨hi,hj,is,e2,_⟩:=hb
  have hlt:=bound i j hi hj
  refine⟨_,ds[i*sz+j]'(by omega),by simp[rowsOf,hi];rfl,?_⟩
  rw[(row i hi).1,List.getElem?_take,if_pos hj,List.getElem?_drop]
  simp
 ·obtain⟨hi,hj,is,e2,x,hx,hb⟩:=hb
  obtain⟨hi',hj',is',e2',x',hx',hb'⟩:=hb'
  have wh:∀{q:Nat} {is:List Id} {x:Id},iss[q]?=some is→x∈is→∃ob,h x=some ob∧DF ob:=by
   intro q is x hq hx
   have hlt:=(List.getElem?_eq_some_iff.1 hq).1
   exact (hc q (cs[q]'(by omega)) (ds[q]'(by omega)) is (List.getElem?_eq_getElem (by omega)) (List.getElem?_eq_getElem (by omega)) hq).whole x hx
  obtain⟨ob,o1,o2⟩:=wh e2 hx
  obtain⟨ob',o1',o2'⟩:=wh e2' hx'
  have:=R.sep x x' ob ob' b o1 o1' (o2.Hs hb) (o2'.Hs hb')
  subst this
  have hq:=MJ hnd e2 e2' hx hx'
  have e:i=i':=by
   rcases Nat.lt_trichotomy i i' with hl | hl | hl
   ·have:=Nat.mul_le_mul_right sz (show i+1≤i' from hl)
    rw[Nat.add_mul]at this
    omega
   ·exact hl
   ·have:=Nat.mul_le_mul_right sz (show i'+1≤i from hl)
    rw[Nat.add_mul]at this
    omega
  subst e
  exact⟨rfl,by omega⟩
 ·obtain⟨_,_,is,e2,x,hx,hb⟩:=hb
  exact⟨x,List.mem_flatten.2 ⟨is,List.mem_of_getElem? e2,hx⟩,hb⟩
theorem Ac.fM (R:Ac C F s h g a w) {T0:List Id}(hT:∀i∈T0,∃ob,h i=some ob∧DF ob) {n:Nat}(hf:F n) {w':World}
  (hos:w'.os=w.os∧w'.tape=w.tape∧w'.output=w.output∧w.heap.size≤w'.heap.size)
  (hblk:∀b,b<w.heap.size→(∀i∈T0,¬B7 (g i) b)→w'.heap[b]?=w.heap[b]?)
  {kd:Kd} {ag:Bool} {sz:Nat} {out:List D} {v:Value} {zs:List Value} {T:Nat→Nat→Nat→Prop} {S:Nat→Prop} (hsz:0<sz) (hx:CK w' kd sz v out.length zs) (ho:IP w' ag sz out zs T S)
  (hS:∀b,S b→∃i∈T0,B7 (g i) b) (hv:∀b,blk v=some b→(∃i∈T0,B7 (g i) b)∨w.heap.size≤b) (hdis:∀i j b,T i j b→blk v≠some b) (hkf:kd.Jv=false:=by rfl):
  ∃g',Ac C (fun k=>F k∧k≠n) s (AO (BJ h (BV T0)) (.loc n) (.tree kd ag sz out none)) g' a w'∧
   BD w' (BG (zone g' (AO (BJ h (BV T0)) (.loc n) (.tree kd ag sz out none))) C.X) g' (AO (BJ h (BV T0)) (.loc n) (.tree kd ag sz out none)) (.ow (.loc n)) v:=by
 obtain⟨l,hl⟩:=B7.Yh (g:=g) T0
 refine R.V5 hT hf hos hblk (fun b=>blk v=some b∨∃i j,T i j b) ((blk v).toList++l) (fun b hb=>?_) (fun b hb=>?_) hx.Bq (fun Z' g' h' gv gt gg gb _=>?_)
 ·rcases hb with hb | ⟨i,j,hb⟩
  ·exact List.mem_append.2 (.inl (by simp[hb]))
  ·obtain⟨x,hx1,hx2⟩:=hS b (ho.sub i j b hb)
   exact List.mem_append.2 (.inr (hl x hx1 b hx2))
 ·rcases hb with hb | ⟨i,j,hb⟩
  ·exact hv b hb
  ·exact .inl (hS b (ho.sub i j b hb))
 ·subst gg
  let U:Nat→Nat→Value:=fun i j=>zs.getD (i*sz+j) undef
  refine⟨gt,hsz,ho.fits,zs,hx,(fun _ _ h=>by cases h),U,T,fun i r j c _ hr hj=>?_,fun i j b hb=>⟨fun _ _ h=>(by cases h),ho.bound i j b hb⟩,hdis,ho.inj,gb⟩
  obtain⟨u,hu,hrel⟩:=ho.cell i r j c hr hj
  have e1:U i j=u:=by simp[U,hu]
  rw[e1]
  exact⟨hu,(Ch.own hkf).2 hrel⟩
end
end Go.AM
namespace Go.AM
open Go Go.RowKit
def Gv (ds:List D):List CV:=(ds.flatMap D.cells).map CV.d
theorem WK {ds:List D}{sz:Nat}(h:∀d∈ds,d.cells.length=sz):(Gv ds).length=ds.length*sz:=by
 unfold Gv
 rw[List.length_map]
 induction ds with
 | nil=>simp
 | cons d ds ih=>simp[h d (by simp),ih (fun x hx=>h x (by simp[hx])),Nat.add_mul];omega
theorem OW {ds:List D}{sz:Nat}(h:∀d∈ds,d.cells.length=sz):∀(i:Nat) x (j:Nat) c,ds[i]?=some x→x.cells[j]?=some c→(Gv ds)[i*sz+j]?=some (.d c):=by
 induction ds with
 | nil=>intro i x j c hx;simp at hx
 | cons d ds ih=>
  intro i x j c hx hj
  have hd:=h d (by simp)
  match i with
  | 0=>
   simp at hx
   subst hx
   have hlt:=(List.getElem?_eq_some_iff.1 hj).1
   simp only[Gv,List.flatMap_cons,List.map_append,Nat.zero_mul,Nat.zero_add]
   rw[List.getElem?_append_left (by simpa using hlt)]
   simp[hj]
  | i+1=>
   simp at hx
   simp only[Gv,List.flatMap_cons,List.map_append]
   rw[List.getElem?_append_right (by simp[hd,Nat.add_mul];omega)]
   have:=ih (fun x hx=>h x (by simp[hx])) i x j c hx hj
   rw[←this]
   simp only[Gv,List.length_map,hd]
   congr 1
   rw[Nat.add_mul]
   omega
theorem Ro {ti:Types}{s:AR}{e:TypeId}{ag:Bool}{sz:Nat}{k:List D→Prop}:
  ∀(L:List (Nat×Operand)) (n:Nat) (k:List D→Prop),OH ti s e ag sz n L k→∃ds,k ds∧ds.length=L.length∧(∀d∈ds,d.isAgg=ag∧d.cells.length=sz)∧
   ∀(w:World) (Z:Aq) (g:AW) (h:Heap) (ev:Operand→Value),(∀t i p,(i,p)∈L→Ar w Z g h (Aw ti s t p) (ev p))→
    (∀(i:Nat) d,ds[i]?=some d→∃v,Ad w Z d v)∧
    ∀(cs:List CV) (vs:Array Value),E5 w Z g h cs vs→(n+L.length)*sz≤cs.length→
    ∃vs',Instr.fill (fun i=>some (i*sz,sz)) vs (L.map fun x=>(x.1,ev x.2))=some vs'∧E5 w Z g h (cs.take (n*sz)++Gv ds++cs.drop ((n+L.length)*sz)) vs'
 | [],n,k,hk=>⟨[],hk,rfl,by simp,fun w Z g h ev _=>⟨by simp,fun cs vs hc _=>⟨vs,rfl,by simpa [Gv] using hc⟩⟩⟩
 | (i,x)::L,n,k,hk=>by
  unfold OH at hk
  replace hk:=AN.1 hk
  obtain⟨hin,hk⟩:=hk
  have hin:=Nat.eq_of_beq_eq_true hin
  subst hin
  split at hk
  ·rename_i y hy
   split at hk
   ·rename_i d hd
    replace hk:=AN.1 hk
    obtain⟨hag,hk⟩:=hk
    replace hk:=AN.1 hk
    obtain⟨hsz,hk⟩:=hk
    have hag:d.isAgg=ag:=by simpa using hag
    have hsz:=Nat.eq_of_beq_eq_true hsz
    obtain⟨ds,k1,k2,k3,k4⟩:=Ro (k:=k) L (i+1) _ hk
    refine⟨d::ds,k1,by simp[k2],?_,fun w Z g h ev hev=>?_⟩
    ·intro x hx
     rcases List.mem_cons.1 hx with rfl | hx
     ·exact⟨hag,hsz⟩
     ·exact k3 x hx
    ·have hr:=hev e i x (by simp)
     rw[hy]at hr
     have hr:=Ak.norm hr
     rw[hd]at hr
     obtain⟨k5,k6⟩:=k4 w Z g h ev (fun t i' p hp=>hev t i' p (List.mem_cons_of_mem _ hp))
     refine⟨fun q d' hq=>?_,fun cs vs hc hb=>?_⟩
     ·match q with
      | 0=>simp at hq;subst hq;exact⟨_,hr⟩
      | q+1=>exact k5 q d' (by simpa using hq)
     ·obtain⟨c1,c2⟩:=Ak.cells hr
      have hcl:(V1.cells (.d d)).length=sz:=by simpa [V1.cells] using hsz
      have hb':i*sz+sz≤cs.length:=by
       simp[Nat.add_mul]at hb
       omega
      have step:=Lm (off:=i*sz) hc ⟨c1,c2⟩ (by rw[hcl];exact hb')
      rw[hcl]at step
      obtain⟨vs',h1,h2⟩:=k6 _ _ step (by
       simp[hsz,V1.cells,Nat.add_mul]at hb ⊢
       omega)
      refine⟨vs',?_,?_⟩
      ·simp only[List.map_cons,Instr.fill]
       rw[if_neg]
       ·exact h1
       ·rw[c1,hcl,hc.1]
        simp
        omega
      ·have e1:(cs.take (i*sz)++V1.cells (.d d)++cs.drop (i*sz+sz)).take ((i+1)*sz)=cs.take (i*sz)++V1.cells (.d d):=by
        rw[List.take_append_of_le_length (by simp[hsz,V1.cells,Nat.add_mul];omega),List.take_of_length_le (by simp[hsz,V1.cells,Nat.add_mul];omega)]
       have e2:(cs.take (i*sz)++V1.cells (.d d)++cs.drop (i*sz+sz)).drop ((i+1+L.length)*sz)=cs.drop ((i+(L.length+1))*sz):=by
        rw[List.drop_append,List.drop_of_length_le (by simp[hsz,V1.cells,Nat.add_mul];omega),List.nil_append,List.drop_drop]
        congr 1
        simp[hsz,V1.cells,Nat.add_mul]
        omega
       rw[e1,e2]at h2
       simpa [Gv,V1.cells,List.append_assoc] using h2
   ·exact hk.elim
  ·exact hk.elim
section
variable {C:Cx}{ti:Types}{o:Oper}{fresh:Nat}{s:AR}{h:Heap}{k:Out→Prop}
theorem MQ (w:World) (ob:Obj):w.grownBy (w.alloc ob) none:=World.grownBy_alloc w ob none
theorem Nx (hti:BN C.P ti) (t:TypeId) (len:Nat) (parts:Array (Nat×Operand)) (ho:o.op= .buildSlice t len parts) (hk:Cy ti s t len parts.toList k):∃out,k out∧Bk C o fresh s h out:=by
 unfold Cy at hk
 replace hk:=AQ.1 hk
 obtain⟨q,hq,hk⟩:=hk
 split at hk
 ·rename_i e hd
  replace hk:=AQ.1 hk
  obtain⟨j,hj,hk⟩:=hk
  replace hk:=AN.1 hk
  obtain⟨hle,hk⟩:=hk
  replace hk:=AN.1 hk
  obtain⟨hlen,hk⟩:=hk
  replace hk:=AN.1 hk
  obtain⟨hsz,hk⟩:=hk
  have hle:=Nat.le_of_ble_eq_true hle
  have hlen:=Nat.eq_of_beq_eq_true hlen
  have hsz:0<j.size:=by simp[Nat.blt]at hsz;omega
  obtain⟨ds,hk,hdl,hds,hfill⟩:=Ro (k:=fun ds=>k ⟨.v (.c (.tl (Aj j.desc) j.size ds)),[],[]⟩) _ _ _ hk
  refine⟨_,hk,?_⟩
  rintro F σs σh a w Q ⟨g,R⟩ hs hrd hF hdst
  have hev:∀t i p,(i,p)∈parts.toList→Ar w (BG (zone g σh) C.X) g σh (Aw ti s t p) (a.eval p):=fun t i p hp=>
   AY ti t p R (s:=s) (fun k hk=>hs k (by
    subst hk
    simp only[ho,Op.operands,List.mem_map]
    exact⟨(i,.tmp k),hp,rfl⟩))
  obtain⟨f1,f2⟩:=hfill w _ g σh a.eval hev
  obtain⟨ii,i1,i2,i3,i4,i5⟩:=Dm hti hj
  obtain⟨_,ii',j1,j2,_,_,j5,j6,j7⟩:=hti e j hj
  -- the row of zero cells
  let zs:Array Value:=(Array.range (len*j.size)).map (fun i=>j.zero.cells[i % j.zero.cells.size]!)
  have hz0:E5 w (BG (zone g σh) C.X) g σh (List.replicate (len*j.size) CV.un) zs:=by
   refine⟨by simp[zs],fun i c u hc hu=>?_⟩
   obtain rfl:=List.eq_of_mem_replicate (List.mem_of_getElem? hc)
   have hlt:i<len*j.size:=by
    have:=(Array.getElem?_eq_some_iff.1 hu).1
    simpa [zs] using this
   have hu':u=j.zero.cells[i % j.zero.cells.size]!:=by
    simp[zs,hlt]at hu
    exact hu.symm
   have hm:i % j.zero.cells.size<j.zero.cells.size:=Nat.mod_lt _ (by rw[j5];exact hsz)
   have hzc:∃c,j.zc[i % j.zero.cells.size]?=some c:=⟨_,List.getElem?_eq_getElem (by rw[j6,←j5];exact hm)⟩
   obtain⟨c,hc⟩:=hzc
   have:=j7 _ c _ hc (show j.zero.cells[i % j.zero.cells.size]?=some j.zero.cells[i % j.zero.cells.size]from by simp[hm])
   have:=BD.Bq (Fj (w:=w) (Z:=fun _ _=>False) (g:=g) (h:=σh) this)
   subst hu'
   show _=true
   simpa [hm] using this
  obtain⟨vs',h1,h2⟩:=f2 _ _ hz0 (by simp[hlen])
  have hflat:(List.replicate (len*j.size) CV.un).take (0*j.size)++Gv ds++(List.replicate (len*j.size) CV.un).drop ((0+parts.toList.length)*j.size)=Gv ds:=by
   simp[hlen]
  rw[hflat]at h2
  have hfl:=WK (ds:=ds) (sz:=j.size) (fun d hd=>(hds d hd).2)
  have hn:ds.length=len:=by rw[hdl,hlen]
  -- the run
  have e1:=DG hti hq w
  rw[hd]at e1
  have e2:=Eb hti hj w
  have e3:(zeroValue e).run C.P w= .ok j.zero w:=by simp[zeroValue,typeInfo,i1,i4]
  have hrun:(execOp a.eval o).run C.P w= .ok (.value (.slice (some ⟨w.heap.size,0,none⟩) len len)) (w.alloc (.cells vs' e)):=by
   have hnot:¬(len*j.size>2 ^ 24):=by omega
   have r0:∀f:Nat→Value,Array.map f (Array.range 0)=#[]:=fun f=>by apply Array.ext';simp
   have h1':Instr.fill (fun i=>some (i*j.size,j.size)) (Array.map (fun i=>j.zero.cells[i % j.zero.cells.size]!) (Array.range (len*j.size))) (List.map (fun x=>(x.1,a.eval x.2)) parts.toList)=some vs':=h1
   by_cases h0:len*j.size=0
   ·rw[h0,r0]at h1'
    simp[execOp,ho,Instr.buildSlice,e1,e2,h0,r0,h1',newRow]
   ·simp[execOp,ho,Instr.buildSlice,e1,e2,hnot,h0,e3,h1',newRow]
  unfold Oper.wp
  rw[hrun]
  have hown:(w.alloc (.cells vs' e)).ownsRow w.heap.size e j.size (.slice (some ⟨w.heap.size,0,none⟩) len len) ds.length vs'.toList:=by
   refine⟨by rw[Array.length_toList,h2.1,hfl],.inr ⟨w.heap.size,len,vs',by rw[hn],Nat.le_refl _,heap_alloc_new w _,by omega,?_,by rw[h2.1,hfl,hn],?_⟩⟩
   ·have:len≤len*j.size:=Nat.le_mul_of_pos_right _ hsz
    simp only[maxLen];omega
   ·rw[List.take_of_length_le]
    rw[Array.length_toList,h2.1,hfl]
    exact Nat.le_refl _
  have hrel:∀(i:Nat) x (q:Nat) c,ds[i]?=some x→x.cells[q]?=some c→∃u,vs'.toList[i*j.size+q]?=some u∧Ad w (BG (zone g σh) C.X) c u:=by
   intro i x q c hx hc
   have hg:=OW (sz:=j.size) (fun d hd=>(hds d hd).2) i x q c hx hc
   have hlt:=(List.getElem?_eq_some_iff.1 hg).1
   have hlt':i*j.size+q<vs'.size:=by rw[h2.1];exact hlt
   exact⟨vs'[i*j.size+q],by simp[hlt'],(h2.2 _ _ _ hg (by simp[hlt'])).1⟩
  have hfit:∀x∈ds,x.fits (Aj j.desc) j.size:=by
   intro x hx
   obtain⟨a1,a2⟩:=hds x hx
   refine⟨a1,a2,fun c hc=>?_⟩
   obtain⟨i,hi⟩:=List.mem_iff_getElem?.1 hx
   obtain⟨q,hq'⟩:=List.mem_iff_getElem?.1 hc
   have hg:=OW (sz:=j.size) (fun d hd=>(hds d hd).2) i x q c hi hq'
   have hlt':i*j.size+q<vs'.size:=by rw[h2.1];exact (List.getElem?_eq_some_iff.1 hg).1
   exact (h2.2 _ _ _ hg (show vs'[i*j.size+q]?=some vs'[i*j.size+q]from by simp[hlt'])).2
  obtain⟨r1,r2⟩:=R.plain (MQ w _) hsz hown hfit hrel
  exact⟨g,(r1.put hdst (v:=.v (.c (.tl (Aj j.desc) j.size ds))) ⟨r2,_,by rw[hn]⟩).A0 (fun n hn=>hn.1)⟩
 ·exact hk.elim
theorem OX {ti:Types}{s:AR}{e:TypeId}{sz:Nat}:
  ∀(L:List (Nat×Operand)) (n:Nat) (k:List CV→Prop),Jz ti s e sz n L k→∃ys,k ys∧ys.length=L.length*sz∧
   ∀(w:World) (Z:Aq) (g:AW) (h:Heap) (ev:Operand→Value),(∀t i p,(i,p)∈L→Ar w Z g h (Aw ti s t p) (ev p))→
    ∀(cs:List CV) (vs:Array Value),E5 w Z g h cs vs→(n+L.length)*sz≤cs.length→
    ∃vs',Instr.fill (fun i=>some (i*sz,sz)) vs (L.map fun x=>(x.1,ev x.2))=some vs'∧E5 w Z g h (cs.take (n*sz)++ys++cs.drop ((n+L.length)*sz)) vs'
 | [],n,k,hk=>⟨[],hk,by simp,fun w Z g h ev _ cs vs hc _=>⟨vs,rfl,by simpa using hc⟩⟩
 | (i,x)::L,n,k,hk=>by
  unfold Jz at hk
  replace hk:=AN.1 hk
  obtain⟨hin,hk⟩:=hk
  have hin:=Nat.eq_of_beq_eq_true hin
  subst hin
  split at hk
  ·rename_i y hy
   replace hk:=AN.1 hk
   obtain⟨hsz,hk⟩:=hk
   have hsz:=Nat.eq_of_beq_eq_true hsz
   obtain⟨ys,k1,k2,k4⟩:=OX L (i+1) _ hk
   refine⟨y.cells++ys,k1,by simp[k2,hsz,Nat.add_mul];omega,fun w Z g h ev hev cs vs hc hb=>?_⟩
   have hr:=hev e i x (by simp)
   rw[hy]at hr
   obtain⟨c1,c2⟩:=Ak.cells hr
   have hb':i*sz+sz≤cs.length:=by
    simp[Nat.add_mul]at hb
    omega
   have step:=Lm (off:=i*sz) hc ⟨c1,c2⟩ (by rw[hsz];exact hb')
   rw[hsz]at step
   obtain⟨vs',h1,h2⟩:=k4 w Z g h ev (fun t i' p hp=>hev t i' p (List.mem_cons_of_mem _ hp)) _ _ step (by
    simp[hsz,Nat.add_mul]at hb ⊢
    omega)
   refine⟨vs',?_,?_⟩
   ·simp only[List.map_cons,Instr.fill]
    rw[if_neg]
    ·exact h1
    ·rw[c1,hsz,hc.1]
     simp
     omega
   ·have e1:(cs.take (i*sz)++y.cells++cs.drop (i*sz+sz)).take ((i+1)*sz)=cs.take (i*sz)++y.cells:=by
     rw[List.take_append_of_le_length (by simp[hsz,Nat.add_mul];omega),List.take_of_length_le (by simp[hsz,Nat.add_mul];omega)]
    have e2:(cs.take (i*sz)++y.cells++cs.drop (i*sz+sz)).drop ((i+1+L.length)*sz)=cs.drop ((i+(L.length+1))*sz):=by
     rw[List.drop_append,List.drop_of_length_le (by simp[hsz,Nat.add_mul];omega),List.nil_append,List.drop_drop]
     congr 1
     simp[hsz,Nat.add_mul]
     omega
    rw[e1,e2]at h2
    simpa [List.append_assoc] using h2
  ·exact hk.elim
theorem GW (hti:BN C.P ti) (t:TypeId) (len:Nat) (parts:Array (Nat×Operand)) (ho:o.op= .buildSlice t len parts) {K:Bool→Nat→List CV→Prop}
  (hk:BC ti t fun q=>match q.desc with
   | .slice e=>BC ti e fun j=>B5 (Nat.ble (len*j.size) 16777216)<| B5 (Nat.beq parts.toList.length len)<| B5 (Nat.blt 0 j.size)<| Jz ti s e j.size 0 parts.toList (K (Aj j.desc) j.size)
   | _=>False):
  ∃e j ys,ti e=some j∧0<j.size∧K (Aj j.desc) j.size ys∧ys.length=len*j.size∧len*j.size≤16777216∧∀F σs σh g a w,Ac C F σs σh g a w→(∀t,Operand.tmp t∈o.op.operands.toList→σs t=s t)→
   ∃vs',(execOp a.eval o).run C.P w= .ok (.value (.slice (some ⟨w.heap.size,0,none⟩) len len)) (w.alloc (.cells vs' e))∧E5 w (BG (zone g σh) C.X) g σh ys vs':=by
 replace hk:=AQ.1 hk
 obtain⟨q,hq,hk⟩:=hk
 split at hk
 ·rename_i e hd
  replace hk:=AQ.1 hk
  obtain⟨j,hj,hk⟩:=hk
  replace hk:=AN.1 hk
  obtain⟨hle,hk⟩:=hk
  replace hk:=AN.1 hk
  obtain⟨hlen,hk⟩:=hk
  replace hk:=AN.1 hk
  obtain⟨hsz,hk⟩:=hk
  have hle:=Nat.le_of_ble_eq_true hle
  have hlen:=Nat.eq_of_beq_eq_true hlen
  have hsz:0<j.size:=by simp[Nat.blt]at hsz;omega
  obtain⟨ys,hk,hyl,f2⟩:=OX _ _ _ hk
  refine⟨e,j,ys,hj,hsz,hk,by rw[hyl,hlen],hle,?_⟩
  rintro F σs σh g a w R hs
  have hev:∀t i p,(i,p)∈parts.toList→Ar w (BG (zone g σh) C.X) g σh (Aw ti s t p) (a.eval p):=fun t i p hp=>
   AY ti t p R (s:=s) (fun k hk=>hs k (by
    subst hk
    simp only[ho,Op.operands,List.mem_map]
    exact⟨(i,.tmp k),hp,rfl⟩))
  have f2:=f2 w _ g σh a.eval hev
  obtain⟨ii,i1,i2,i3,i4,i5⟩:=Dm hti hj
  obtain⟨_,ii',j1,j2,_,_,j5,j6,j7⟩:=hti e j hj
  let zs:Array Value:=(Array.range (len*j.size)).map (fun i=>j.zero.cells[i % j.zero.cells.size]!)
  have hz0:E5 w (BG (zone g σh) C.X) g σh (List.replicate (len*j.size) CV.un) zs:=by
   refine⟨by simp[zs],fun i c u hc hu=>?_⟩
   obtain rfl:=List.eq_of_mem_replicate (List.mem_of_getElem? hc)
   have hlt:i<len*j.size:=by
    have:=(Array.getElem?_eq_some_iff.1 hu).1
    simpa [zs] using this
   have hu':u=j.zero.cells[i % j.zero.cells.size]!:=by
    simp[zs,hlt]at hu
    exact hu.symm
   have hm:i % j.zero.cells.size<j.zero.cells.size:=Nat.mod_lt _ (by rw[j5];exact hsz)
   have hzc:∃c,j.zc[i % j.zero.cells.size]?=some c:=⟨_,List.getElem?_eq_getElem (by rw[j6,←j5];exact hm)⟩
   obtain⟨c,hc⟩:=hzc
   have:=j7 _ c _ hc (show j.zero.cells[i % j.zero.cells.size]?=some j.zero.cells[i % j.zero.cells.size]from by simp[hm])
   have:=BD.Bq (Fj (w:=w) (Z:=fun _ _=>False) (g:=g) (h:=σh) this)
   subst hu'
   show _=true
   simpa [hm] using this
  obtain⟨vs',h1,h2⟩:=f2 _ _ hz0 (by simp[hlen])
  have hflat:(List.replicate (len*j.size) CV.un).take (0*j.size)++ys++(List.replicate (len*j.size) CV.un).drop ((0+parts.toList.length)*j.size)=ys:=by
   simp[hlen]
  rw[hflat]at h2
  have e1:=DG hti hq w
  rw[hd]at e1
  have e2:=Eb hti hj w
  have e3:(zeroValue e).run C.P w= .ok j.zero w:=by simp[zeroValue,typeInfo,i1,i4]
  have hrun:(execOp a.eval o).run C.P w= .ok (.value (.slice (some ⟨w.heap.size,0,none⟩) len len)) (w.alloc (.cells vs' e)):=by
   have hnot:¬(len*j.size>2 ^ 24):=by omega
   have r0:∀f:Nat→Value,Array.map f (Array.range 0)=#[]:=fun f=>by apply Array.ext';simp
   have h1':Instr.fill (fun i=>some (i*j.size,j.size)) (Array.map (fun i=>j.zero.cells[i % j.zero.cells.size]!) (Array.range (len*j.size))) (List.map (fun x=>(x.1,a.eval x.2)) parts.toList)=some vs':=h1
   by_cases h0:len*j.size=0
   ·rw[h0,r0]at h1'
    simp[execOp,ho,Instr.buildSlice,e1,e2,h0,r0,h1',newRow]
   ·simp[execOp,ho,Instr.buildSlice,e1,e2,hnot,h0,e3,h1',newRow]
  exact⟨vs',hrun,h2⟩
 ·exact hk.elim
theorem MR (hti:BN C.P ti) (t:TypeId) (len:Nat) (parts:Array (Nat×Operand)) (ho:o.op= .buildSlice t len parts) (hk:Gq ti s t len parts.toList fresh k):∃out,k out∧Bk C o fresh s h out:=by
 obtain⟨e,j,ys,hj,hsz,hk,hyl,hle,H⟩:=GW (K:=fun _ _ cs=>k ⟨.v (.c (.sl (.loc fresh) len)),[],[(.loc fresh,.cells cs)]⟩) hti t len parts ho hk
 refine⟨_,hk,?_⟩
 rintro F σs σh a w Q ⟨g,R⟩ hs hrd hF hdst
 obtain⟨vs',hrun,h2⟩:=H F σs σh g a w R hs
 unfold Oper.wp
 rw[hrun]
 have R':=R.alloc (n:=fresh) (hF 0 (by omega)) vs' e ys h2.1 h2.2
 exact⟨_,(R'.put hdst (v:=.v (.c (.sl (.loc fresh) len))) ⟨⟨w.heap.size,by simp[Al]⟩,by simp[Al,gS]⟩).A0 (fun n hn=>⟨hn.1,fun e=>hn.2 (by omega)⟩)⟩
theorem WL (hti:BN C.P ti) (t:TypeId) (x y:Operand) (ok:Bool) (ho:o.op= .lookup t x y ok) (hk:J1 ti t (Aw ti s t x) (Aw ti s 0 y) ok k):∃out,k out∧Bk C o fresh s h out:=by
 unfold J1 at hk
 replace hk:=AQ.1 hk
 obtain⟨q,hq,hk⟩:=hk
 split at hk
 ·rename_i kt et hd
  replace hk:=AQ.1 hk
  obtain⟨kk,hkk,hk⟩:=hk
  replace hk:=AQ.1 hk
  obtain⟨j,hj,hk⟩:=hk
  replace hk:=AN.1 hk
  obtain⟨hpk,hk⟩:=hk
  replace hk:=AN.1 hk
  obtain⟨hz0,hk⟩:=hk
  split at hk
  ·rename_i hop
   obtain⟨ii,i1,i2,i3,i4,i5⟩:=Dm hti hj
   obtain⟨_,ii',j1,j2,_,_,j5,j6,j7⟩:=hti et j hj
   have run:∀F σs σh g a w,Ac C F σs σh g a w→(∀t,Operand.tmp t∈o.op.operands.toList→σs t=s t)→
     (execOp a.eval o).run C.P w= .ok (.value (if ok then .tuple #[j.zero,.bool false]else j.zero)) w:=by
    intro F σs σh g a w R hs
    have hx:=AY ti t x R (s:=s) (fun t ht=>hs t (by subst ht;simp[ho,Op.operands]))
    rw[hop]at hx
    have hx:a.eval x= .map none:=hx
    have e1:=DG hti hq w
    rw[hd]at e1
    have e2:=DG hti hkk w
    have e3:(zeroValue et).run C.P w= .ok j.zero w:=by simp[zeroValue,typeInfo,i1,i4]
    have e5:∀n v,(Instr.checkKey true (n+1) kt v).run C.P w= .ok () w:=by
     intro n v
     have:plainKey kk.desc=true:=hpk
     unfold plainKey at this
     split at this
     ·rename_i hk2;rw[hk2]at e2;simp[Instr.checkKey,e2]
     ·rename_i hk2;rw[hk2]at e2;simp[Instr.checkKey,e2]
     ·cases this
    have e4:∀v,(Instr.checkKey true 10000 kt v).run C.P w= .ok () w:=e5 9999
    simp[execOp,ho,Instr.lookup,e1,hx,e4,Instr.findKey,e2,Instr.findNow,e3]
   have rel:∀(w:World) (Z:Aq) (g:AW) (h:Heap),Ak w Z g h (V1.Ax (Aj j.desc) j.zc) j.zero:=by
    intro w Z g h
    have hc:∀(q:Nat) c u,j.zc[q]?=some c→j.zero.cells[q]?=some u→BD w Z g h c u:=fun q c u h1 h2=>Fj (j7 q c u h1 h2)
    have hl:j.zero.cells.size=j.zc.length:=by rw[j5,j6]
    have hz1:=hz0
    unfold MH at hz1
    split at hz1
    ·rename_i cs hcs
     rw[hcs]at hc hl ⊢
     exact (Ak.Ax hl hc).1 hz1
    ·cases hz1
    ·rename_i v h1 h2
     have hrow:Aj j.desc=false:=by cases hh:Aj j.desc<;>simp[hh,EP]at hz1 ⊢
     have hcell:j.zero.cells=#[j.zero]:=by
      cases hz:j.zero<;>first | rfl | exact absurd hz (h1 _)
     exact (Ak.Ax hl hc).2 hrow _ hcell
   cases ok with
   | true=>
    refine⟨_,hk,AL fun F σs σh g a w R hs _=>⟨_,run F σs σh g a w R hs,?_⟩⟩
    refine⟨#[j.zero,.bool false],rfl,rfl,fun q c u hc hu=>?_⟩
    match q with
    | 0=>simp at hc hu;subst hc;subst hu;exact rel _ _ _ _
    | 1=>simp at hc hu;subst hc;subst hu;exact .bool _
    | q+2=>simp at hc
   | false=>exact⟨_,hk,AL fun F σs σh g a w R hs _=>⟨_,run F σs σh g a w R hs,rel _ _ _ _⟩⟩
  ·exact hk.elim
 ·exact hk.elim
end
end Go.AM
namespace Go.AM
open Go Go.RowKit
def XB (h:Heap) (len fresh:Nat) (k:Out→Prop) (ag:Bool) (sz:Nat) (cs:List CV):Prop:=
 T4 h cs fun ds is=>B5 (nodupB is)<| B5 (Nat.ble len maxLen)<| ∃ys,rowsOf ag sz len ds=ys∧k ⟨.v (.c (.ow (.loc fresh))),is,BV is++[(.loc fresh,.tree .row ag sz ys none)]⟩
def Rp (ti:Types) (s:AR) (t:TypeId) (len:Nat) (parts:List (Nat×Operand)) (fresh:Nat) (h:Heap) (k:Out→Prop):Prop:=
 BC ti t fun q=>match q.desc with
 | .slice e=>BC ti e fun j=>B5 (Nat.ble (len*j.size) 16777216)<| B5 (Nat.beq parts.length len)<| B5 (Nat.blt 0 j.size)<| Jz ti s e j.size 0 parts (XB h len fresh k (Aj j.desc) j.size)
 | _=>False
def Gw (ti:Types) (s:AR) (t:TypeId) (len:Nat) (parts:List (Nat×Operand)) (fresh:Nat) (h:Heap) (k:Out→Prop):Prop:=MK h (fun h'=>Rp ti s t len parts fresh h') k
section
variable {C:Cx}{ti:Types}{o:Oper}{fresh:Nat}{s:AR}{h:Heap}{k:Out→Prop}
theorem Ad.own {w:World}{Z:Aq}{x:D}{v:Value}(r:Ad w Z x v) (h1:E2 x=false) (h2:x.isAgg=false):CG w x v (fun _=>False):=by
 cases r with
 | int k n=>exact .int k n
 | bool b=>exact .bool b
 | str s=>exact .str s
 | nil=>exact .nil
 | agg=>cases h2
 | _=>cases h1
theorem IP.one {w:World}{ag:Bool}{sz:Nat}{rows:List D}{xs:List Value}{T:Nat→Nat→Nat→Prop}{S:Nat→Prop}(hsz:0<sz) (h:IP w ag sz rows xs T S):∀u∈xs,u.oneCell'=true:=by
 intro u hu
 obtain⟨k,hk⟩:=List.mem_iff_getElem?.1 hu
 have hlt:=(List.getElem?_eq_some_iff.1 hk).1
 rw[h.len]at hlt
 have hi:k / sz<rows.length:=Nat.div_lt_of_lt_mul (by rw[Nat.mul_comm];exact hlt)
 have hx:rows[k / sz]?=some rows[k / sz]:=List.getElem?_eq_getElem hi
 have hj:k % sz<rows[k / sz].cells.length:=by rw[(h.fits _ (List.getElem_mem hi)).2.1];exact Nat.mod_lt _ hsz
 obtain⟨u',hu',hr⟩:=h.cell _ _ _ _ hx (List.getElem?_eq_getElem hj)
 rw[show k / sz*sz+k % sz=k from by rw[Nat.mul_comm];exact Nat.div_add_mod k sz,hk]at hu'
 cases hu'
 exact hr.Bq
theorem MS (hti:BN C.P ti) (h1:Bu ti) (t:TypeId) (len:Nat) (parts:Array (Nat×Operand)) (ho:o.op= .buildSlice t len parts) (hk:Gw ti s t len parts.toList fresh h k):∃out,k out∧Bk C o fresh s h out:=by
 obtain⟨gs,hk⟩:=hk
 refine E4 hk (fun h' k' hk'=>?_)
 clear hk
 obtain⟨e,j,cs,hj,hsz,hk',hyl,hle,H⟩:=GW (C:=C) (K:=XB h' len fresh k') hti t len parts ho hk'
 obtain⟨ds,iss,hk2,q1,q2,q3⟩:=J4 hk'
 replace hk2:=AN.1 hk2
 obtain⟨hnd,hk2⟩:=hk2
 replace hk2:=AN.1 hk2
 obtain⟨hmx,ys,rfl,hk2⟩:=hk2
 have hnd:=Dl.1 hnd
 have hmx:=Nat.le_of_ble_eq_true hmx
 refine⟨_,hk2,?_⟩
 rintro F σs σh a w Q ⟨g,R⟩ hs hrd hF hdst
 obtain⟨vs,hrun,h2⟩:=H F σs σh g a w R hs
 have hc:∀(q:Nat) c d is,cs[q]?=some c→ds[q]?=some d→iss[q]?=some is→Bn σh c d is:=fun q c d is e1 e2 e3=>
  (q3 q c d is e1 e2 e3).at fun x hx=>hrd x (List.mem_flatten.2 ⟨is,List.mem_of_getElem? e3,hx⟩)
 have hw:∀x∈iss.flatten,∃ob,σh x=some ob∧DF ob:=by
  intro x hx
  obtain⟨is,h6,h7⟩:=List.mem_flatten.1 hx
  obtain⟨q,hq⟩:=List.mem_iff_getElem?.1 h6
  have hlt:=(List.getElem?_eq_some_iff.1 hq).1
  exact (hc q (cs[q]'(by omega)) (ds[q]'(by omega)) is (List.getElem?_eq_getElem (by omega)) (List.getElem?_eq_getElem (by omega)) hq).whole x h7
 have hlt:∀b,(∃i∈iss.flatten,B7 (g i) b)→b<w.heap.size:=by
  rintro b ⟨i,hi,hb⟩
  obtain⟨ob,o1,o2⟩:=hw i hi
  exact (R.heap.objs i ob o1).lt (o2.Hs hb)
 have ho:=IP.of_closed (vs:=vs.toList) R.heap hsz (fun e=>h1 _ _ hj e) hyl q1 q2 (by simpa using h2.1) hnd hc (fun q x u h3 h4=>h2.2 q x u h3 (by simpa using h4))
 have hl1:vs.size=len*j.size:=by rw[h2.1,hyl]
 have hho:CK (w.alloc (.cells vs e)) .row j.size (.slice (some ⟨w.heap.size,0,none⟩) len len) (rowsOf (Aj j.desc) j.size len ds).length vs.toList:=by
  rw[MA]
  refine⟨e,by simp[hl1],.inr ⟨w.heap.size,len,vs,rfl,Nat.zero_le _,heap_alloc_new w _,Nat.le_refl _,hmx,hl1,?_⟩⟩
  exact List.take_of_length_le (by simp[hl1])
 have ho':=ho.same (w':=w.alloc (.cells vs e)) fun b hb=>Below.heap_alloc w _ b (hlt b hb)
 obtain⟨g',R',hrel⟩:=R.fM (T0:=iss.flatten) (v:=.slice (some ⟨w.heap.size,0,none⟩) len len) (kd:=.row) (w':=w.alloc (.cells vs e)) hw (hF 0 (by omega)) ⟨rfl,rfl,rfl,by simp⟩ (fun b hb _=>Below.heap_alloc w _ b hb) hsz
  hho
  ho' (fun b hb=>hb) (fun b hb=>.inr (by simp[blk]at hb;omega)) (fun i j b hb he=>by
   have:=hlt b (ho.sub i j b hb)
   simp[blk]at he
   omega)
 unfold Oper.wp
 rw[hrun]
 rw[show BJ σh (BV iss.flatten++[(.loc fresh,.tree .row (Aj j.desc) j.size (rowsOf (Aj j.desc) j.size len ds) none)])=AO (BJ σh (BV iss.flatten)) (.loc fresh) (.tree .row (Aj j.desc) j.size (rowsOf (Aj j.desc) j.size len ds) none)from E3]
 exact⟨g',(R'.put hdst (v:=.v (.c (.ow (.loc fresh)))) hrel).A0 (fun n hn=>⟨hn.1,fun e=>hn.2 (by omega)⟩)⟩
end
end Go.AM
namespace Go.AM
open Go Go.RowKit
section
variable {C:Cx}{ti:Types}{o:Oper}{fresh:Nat}{s:AR}{h:Heap}{k:Out→Prop}
def Fo (mn:Bool) (x y:AV) (k:Out→Prop):Prop:=
 GV x fun q a=>GV y fun q' b=>B5 (decide (q=q'))<| ∃z:Int,(match mn with
  | true=>if b<a then b else a
  | false=>if b>a then b else a)=z∧k ⟨.v (.d (.int q z)),[],[]⟩
theorem OY (mn:Bool) (t t':TypeId) (x y:Operand) (ho:o.op= .call {callee:=.builtin (if mn then .min else .max),args:=#[x,y],argTypes:=#[t,t']}) (hk:Fo mn (Aw ti s t x) (Aw ti s t' y) k):∃out,k out∧Bk C o fresh s h out:=by
 unfold Fo at hk
 obtain⟨q,a0,hx,hk⟩:=Cr.1 hk
 obtain⟨q',b0,hy,hk⟩:=Cr.1 hk
 replace hk:=AN.1 hk
 obtain⟨hq,z,hz,hk⟩:=hk
 have hq:=of_decide_eq_true hq
 subst hq
 refine⟨_,hk,AL fun F σs σh g a w R hs _=>?_⟩
 have hxv:=AY ti t x R (s:=s) (fun t ht=>hs t (by subst ht;simp[ho,Op.operands,Call.operands]))
 have hyv:=AY ti t' y R (s:=s) (fun t ht=>hs t (by subst ht;simp[ho,Op.operands,Call.operands]))
 rw[hx]at hxv
 rw[hy]at hyv
 have hxv:=Gg hxv
 have hyv:=Gg hyv
 refine⟨.int q z,?_,.int _ _⟩
 cases mn with
 | true=>
  subst hz
  have:=run_min_int2 (P:=C.P) (w:=w) #[t,t'] o.type q q a0 b0
  simp[execOp,ho,resolve,hxv,hyv,invoke,builtin,this]
 | false=>
  subst hz
  have:=run_max_int2 (P:=C.P) (w:=w) #[t,t'] o.type q q a0 b0
  simp[execOp,ho,resolve,hxv,hyv,invoke,builtin,this]
end
end Go.AM
namespace Go.AM
open Go Go.RowKit
theorem Ny (ro:Option Nat):(Bg ro).round=ro:=by cases ro<;>rfl
theorem Dn (ro:Option Nat) (f:FuncId):(Bg ro).fn f:=by cases ro<;>trivial
theorem C0 (ro:Option Nat):(Bg ro).depth.isSome=true→1≤(0:Nat):=by cases ro<;>intro h<;>cases h
theorem FH {ro:Option Nat}{n:Nat}{P:Program}{f:FuncId}{args:Array Value}{w:World}{R:Ending→World→Prop}(h:Calls P f args w R):CallsIn (Bg ro) n P f args w R:=by
 cases ro with
 | none=>exact callsIn_wide.2 h
 | some l=>exact CallsIn.inRound l (callsIn_wide.2 h)
theorem P6 {ro:Option Nat}{n:Nat}{P:Program}{row:String}{args:Array Value}{w:World}{R:Value→World→Prop}(h:Rows P row args w R):RowsIn (Bg ro) n P row args w R:=by
 intro c cs _
 obtain⟨v,w',hr,hs⟩:=h c cs
 refine⟨v,w',hr,?_⟩
 cases ro with
 | none=>exact stepsIn_wide.2 hs
 | some l=>exact stepsIn_wide.2 hs
theorem Nz {ro:Option Nat}{n m:Nat}{P:Program}{l:Nat}{f:FuncId}{tmps:Array Value}{assign body:Code}{w:World}{R:Ending→World→Prop}(h:RoundIn Fence.wide m P l f tmps assign body w R):RoundIn (Bg ro) n P l f tmps assign body w R:=by
 refine⟨Dn ro f,fun c cs _=>?_⟩
 have:=h.2 c cs (room_wide _)
 cases ro with
 | none=>exact this
 | some l=>exact this
theorem I3 {ro:Option Nat}{P:Program}{o:Oper}{a:Act}{w:World}{next:Act→World→Prop}{Q:Exit→Act→World→Prop}(hd:∀c,o.op≠ .defer c) (h:o.wp P a w next Q):o.wpIn (Bg ro) 0 P a w next Q:=by
 refine⟨fun f _=>Dn ro f,?_⟩
 rw[Oper.semAt_eq _ _ _ hd]
 unfold Oper.wp at h
 cases hr:(execOp a.eval o).run P w with
 | ok n w'=>
  rw[hr]at h
  cases n with
  | value v=>exact h
  | skip=>exact h
  | enter f args=>
   refine⟨C0 ro,FH (h.mono ?_)⟩
   intro e w'' he
   cases e<;>exact he
  | row r args=>exact⟨C0 ro,P6 h⟩
  | defer d=>exact h
  | _=>exact h.elim
 | halt q w'=>
  rw[hr]at h
  cases q with
  | panic v=>exact h
  | _=>exact h.elim
structure EF (B:Nat→Prop) (w w':World):Prop where
 os:w'.os=w.os
 tape:w'.tape=w.tape
 output:w'.output=w.output
 size:w.heap.size≤w'.heap.size
 block:∀b,b<w.heap.size→¬B b→w'.heap[b]?=w.heap[b]?
theorem EF.cell {B:Nat→Prop}{w w':World}(A:EF B w w') {b o:Nat}{u:Value}(h:w.cell? ⟨b,o,none⟩=some u) (hb:¬B b):w'.cell? ⟨b,o,none⟩=some u:=by
 have hlt:=World.block_lt_of_cell? w ⟨b,o,none⟩ h
 have:=A.block b hlt hb
 simp only[World.cell?]at h ⊢
 rw[this];exact h
section
variable {C C':Cx}{F:Nat→Prop}{s:AR}{h h':Heap}{g:AW}{a a':Act}{w w':World}
theorem Ac.RM (R:Ac C F s h g a w) {B:Nat→Prop}(A:EF B w w') (hM:C'.M=C.M) (hnt:C'.nt=C.nt) (hh0:∀i o,h' i=some o→h i=some o∨o= .gone)
  (hB:∀b o,B b→BG (zone g h) C.X b o) (hBo:∀i ob b,h' i=some ob→FG (g i) ob b→¬B b)
  (hX:∀b o,C'.X b o→BG (zone g h) C.X b o∨w.heap.size≤b) (hX1:∀b o,C'.X b o→b<w'.heap.size) (hX2:∀i ob b o,h' i=some ob→FG (g i) ob b→¬C'.X b o)
  (hw0:C'.w0=w') (hZ0:∀b o,zone g h' b o→C'.Z0 b o) (hg0:∀j,Cd (C'.g0 (.ext j)) (g (.ext j))) (ht:a'.tmps=a.tmps) (hd:a'.defers=C'.D.map Gk)
  (hF:∀n,F n→h' (.loc n)=none):Ac C' F s h' g a' w':=by
 have hh:∀i ob b,h' i=some ob→FG (g i) ob b→h i=some ob:=by
  intro i ob b hi hb
  rcases hh0 i ob hi with h1 | rfl
  ·exact h1
  ·exact hb.elim
 have hzs:∀b o,zone g h' b o→zone g h b o:=fun b o ⟨i,ob,hi,hz⟩=>⟨i,ob,hh i ob b hi hz.Hs,hz⟩
 have E:Jy w (BG (zone g h) C.X) g h w' (BG (zone g h') C'.X) g h':=by
  refine⟨fun b o u hu hn=>⟨A.cell hu (fun hb=>hn (hB b o hb)),?_⟩,fun _ _ _=>rfl,fun _ _ _=>rfl,fun _ h=>h,fun i n sz e _ hi=>⟨n,Nat.le_refl _,(hh0 _ _ hi).resolve_right (by simp),fun _=>rfl⟩,fun _ h=>h,fun i _ hl=>⟨?_,rfl⟩⟩
  ·rintro (hz | hz)
   ·exact hn (.inl (hzs b o hz))
   ·rcases hX b o hz with hz | hz
    ·exact hn hz
    ·have:=World.block_lt_of_cell? w ⟨b,o,none⟩ hu
     simp at this
     omega
  ·cases ho:h' i with
   | none=>rw[ho]at hl;cases hl
   | some ob=>
    rw[ho]at hl
    rcases hh0 i ob ho with h1 | rfl
    ·rw[h1];exact hl
    ·cases hl
 refine⟨by rw[ht,hnt];exact R.size,hd,fun t=>by rw[ht];exact E.Tq (R.slots t),⟨fun i ob hi=>?_,fun i j oi oj b hi hj bi bj=>R.heap.sep i j oi oj b (hh i oi b hi bi) (hh j oj b hj bj) bi bj,hX2⟩,by rw[hw0];exact Bj.refl _ _,hg0,
  fun i ob b o hi hz=>.inl (hZ0 b o ⟨i,ob,hi,hz⟩),by rw[hw0];exact hX1,fun n hn=>⟨(R.free n hn).1,hF n hn⟩⟩
 rcases hh0 i ob hi with h1 | rfl
 ·refine (R.heap.objs i ob h1).nF E fun b hb=>?_
  exact A.block b ((R.heap.objs i ob h1).lt hb) (hBo i ob b hi hb)
 ·trivial
structure D6 (C C':Cx):Prop where
 M:C'.M=C.M
 nt:C'.nt=C.nt
 ro:C'.ro=C.ro
 X:∀b o,C.X b o→C'.X b o
 frame:Bj C.Z0 C.w0 C'.w0
 Z0:∀b o,C'.Z0 b o→C.Z0 b o∨C.w0.heap.size≤b
 ext:∀j,Cd (C.g0 (.ext j)) (C'.g0 (.ext j))
 same:C.ro≠none→C'.D=C.D
 marks:∃ds,C'.D=ds++C.D∧∀r∈ds,C.w0.heap.size≤r∧∀o,C'.X r o
theorem D6.refl (C:Cx):D6 C C:=⟨rfl,rfl,rfl,fun _ _ h=>h,Bj.refl _ _,fun _ _ h=>.inl h,fun _=>.refl _,fun _=>rfl,[],rfl,by simp⟩
theorem Bj.then {Z Z':Aq}{a b c:World}(h:Bj Z a b) (k:Bj Z' b c) (hz:∀p o,Z' p o→Z p o∨a.heap.size≤p):Bj Z a c:=by
 refine⟨k.os.trans h.os,k.tape.trans h.tape,k.output.trans h.output,Nat.le_trans h.size k.size,fun p hp hn=>?_,fun p o u hu hn=>?_⟩
 ·refine (k.block p (Nat.lt_of_lt_of_le hp h.size) fun o ho=>?_).trans (h.block p hp hn)
  rcases hz p o ho with h1 | h1
  ·exact hn o h1
  ·omega
 ·refine k.cell p o u (h.cell p o u hu hn) fun ho=>?_
  rcases hz p o ho with h1 | h1
  ·exact hn h1
  ·have:=World.block_lt_of_cell? a ⟨p,o,none⟩ hu
   simp at this
   omega
theorem D6.trans {A B C:Cx}(h:D6 A B) (k:D6 B C):D6 A C:=by
 obtain⟨ds,e1,h1⟩:=h.marks
 obtain⟨es,e2,h2⟩:=k.marks
 refine⟨k.M.trans h.M,k.nt.trans h.nt,k.ro.trans h.ro,fun b o hx=>k.X b o (h.X b o hx),h.frame.then k.frame h.Z0,fun b o hz=>?_,fun j=>(h.ext j).trans (k.ext j),fun hr=>(k.same (by rw[h.ro];exact hr)).trans (h.same hr),es++ds,by rw[e2,e1,List.append_assoc],fun r hr=>?_⟩
 ·rcases k.Z0 b o hz with h3 | h3
  ·exact h.Z0 b o h3
  ·exact .inr (Nat.le_trans h.frame.size h3)
 ·rcases List.mem_append.1 hr with h3 | h3
  ·exact⟨Nat.le_trans h.frame.size (h2 r h3).1,(h2 r h3).2⟩
  ·exact⟨(h1 r h3).1,fun o=>k.X r o ((h1 r h3).2 o)⟩
theorem D6.down (L:D6 C C') (R:Ac C' F s h g a w):Bj C.Z0 C.w0 w∧(∀j,Cd (C.g0 (.ext j)) (g (.ext j)))∧∀i ob b o,h i=some ob→Bf (g i) ob b o→C.Z0 b o∨C.w0.heap.size≤b:=by
 refine⟨L.frame.then R.frame L.Z0,fun j=>(L.ext j).trans (R.ext j),fun i ob b o hi hz=>?_⟩
 rcases R.within i ob b o hi hz with h1 | h1
 ·exact L.Z0 b o h1
 ·exact .inr (Nat.le_trans L.frame.size h1)
theorem Ac.kept (R:Ac C F s h g a w) {b:Nat}{o:Obj}(hb:C.w0.heap[b]?=some o) (hz:∀p,¬C.Z0 b p):w.heap[b]?=some o∧∀p,¬zone g h b p:=by
 have hlt:b<C.w0.heap.size:=(Array.getElem?_eq_some_iff.1 hb).1
 refine⟨(R.frame.block b hlt hz).trans hb,?_⟩
 rintro p ⟨i,ob,hi,h1⟩
 rcases R.within i ob b p hi h1 with h2 | h2
 ·exact hz p h2
 ·omega
end
theorem CV.Cg (c:CV):c.BL (fun i=>i)=c:=by cases c<;>simp[CV.BL]
theorem map_id' {α:Type}{f:α→α}{l:List α}(h:∀x∈l,f x=x):l.map f=l:=by
 induction l with
 | nil=>rfl
 | cons x l ih=>simp[h x (by simp),ih (fun y hy=>h y (by simp[hy]))]
theorem V1.Cg (c:V1):c.BL (fun i=>i)=c:=by
 cases c with
 | d x=>rfl
 | c x=>simp[V1.BL,CV.Cg]
 | agg cs=>simp only[V1.BL];congr 1;exact map_id' fun x _=>CV.Cg x
theorem AV.Cg (c:AV):c.BL (fun i=>i)=c:=by
 cases c with
 | u=>rfl
 | v y=>simp[AV.BL,V1.Cg]
 | t ys=>simp only[AV.BL];congr 1;exact map_id' fun y _=>V1.Cg y
theorem AH.Cg (c:AH):c.BL (fun i=>i)=c:=by
 have hc:∀cs:List CV,cs.map (CV.BL fun i=>i)=cs:=fun cs=>map_id' fun x _=>CV.Cg x
 cases c with
 | cells cs=>simp only[AH.BL,hc]
 | tok=>rfl
 | map kt et es=>simp only[AH.BL];congr 1;exact map_id' fun x _=>by simp[V1.Cg]
 | arr=>simp only[AH.BL,hc]
 | tree kd ag sz rows foc=>cases foc<;>simp[AH.BL,hc]
 | gone=>rfl
 | rnd r sl=>simp only[AH.BL];congr 1;exact map_id' fun x _=>by simp[AV.Cg]
 | rndX j=>rfl
theorem Ac.Tr {C:Cx}{F:Nat→Prop}{s:AR}{h:Heap}{g:AW}{a:Act}{w:World}(R:Ac C F s h g a w) {n:Nat}(hf:F n) (L:Loop) (r:Unit→RF) (sl:List (Nat×AV))
  (h1:L.state= .ready) (h2:L.pending=none) (h3:L.params=(r ()).params) (h4:L.assign=(r ()).assign) (h5:L.body=(r ()).body) (h6:L.tmps.size=(r ()).nt)
  (h7:∀t,Ar w (BG (zone g h) C.X) g h (Ab sl t) (L.tmps.getD t undef)):
  Ac C (fun k=>F k∧k≠n) s (AO h (.loc n) (.rnd r sl)) (Al g (.loc n) (.map (some w.heap.size))) a (w.alloc (.loop L)):=by
 have hX:∀b o,C.X b o→b<w.heap.size:=fun b o hx=>Nat.lt_of_lt_of_le (R.xs b o hx) R.frame.size
 obtain⟨hgn,hhn⟩:=R.free n hf
 have hne:∀{i:Id} {v:Value},g i=v→v≠undef→i≠ .loc n:=by
  rintro i v hv hu rfl
  exact hu (hv▸hgn)
 have E:Jy w (BG (zone g h) C.X) g h (w.alloc (.loop L)) (BG (zone (Al g (.loc n) (.map (some w.heap.size))) (AO h (.loc n) (.rnd r sl))) C.X)
   (Al g (.loc n) (.map (some w.heap.size))) (AO h (.loc n) (.rnd r sl)):=by
  have now:∀{i:Id},isTu (g i)→i≠ .loc n:=by
   rintro i hi rfl
   rw[hgn]at hi
   exact BZ hi
  refine⟨fun b o u hu hz=>?_,fun i b hb=>?_,fun i q hq=>?_,fun i hi=>?_,fun i k sz e' hi hk=>?_,fun i hi=>by simpa [Al,now hi] using hi,
   fun i hi hk=>⟨by simpa [AO,now hi] using hk,by simp[Al,now hi]⟩⟩
  ·have hlt:=World.block_lt_of_cell? w ⟨b,o,none⟩ hu
   refine⟨(World.cell?_alloc_lt w _ ⟨b,o,none⟩ hlt).trans hu,?_⟩
   rintro (⟨i,ob,hi,h1⟩ | hx)
   ·by_cases hin:i= .loc n
    ·subst hin
     simp only[AO,if_true,Option.some.injEq]at hi
     subst hi
     have:=B7.map (q:=w.heap.size) (by simpa [Al,Bf] using h1)
     simp at hlt
     omega
    ·simp only[AO,Al,if_neg hin]at hi h1
     exact hz (.inl ⟨i,ob,hi,h1⟩)
   ·exact hz (.inr hx)
  ·exact if_neg (hne hb (by simp[undef]))
  ·exact if_neg (hne hq (by simp[undef]))
  ·have:i≠ .loc n:=by rintro rfl;rw[hgn]at hi;exact hi
   simpa [Al,this] using hi
  ·have:i≠ .loc n:=by rintro rfl;rw[hgn]at hi;exact hi
   refine⟨k,Nat.le_refl _,by simpa [AO,this] using hk,fun _=>by simp[Al,this]⟩
 refine R.step (F':=fun k=>F k∧k≠n) (fun i=>i= .loc n) E ?_ ?_ ?_ ?_ ?_ ?_ ?_ ?_
 ·exact⟨rfl,rfl,rfl,by simp,fun b hb _=>Below.heap_alloc w _ b hb,fun b o u hu _=>(World.cell?_alloc_lt w _ ⟨b,o,none⟩ (World.block_lt_of_cell? w ⟨b,o,none⟩ hu)).trans hu⟩
 ·intro i hi
  simp[AO,Al,hi]
 ·intro i o b _ hi hb
  exact Below.heap_alloc w _ b ((R.heap.objs i o hi).lt hb)
 ·rintro i o rfl ho
  simp[AO]at ho
  subst ho
  exact⟨w.heap.size,L,by simp[Al],heap_alloc_new w _,h1,h2,h3,h4,h5,h6,fun t=>E.Tq (h7 t)⟩
 ·rintro i o b p rfl ho hb
  simp[AO]at ho
  subst ho
  have:=B7.map (q:=w.heap.size) (by simpa [Al,Bf] using hb)
  exact .inr (by omega)
 ·rintro i j _ _ _ rfl rfl _ _ _ _
  rfl
 ·intro j hj
  exact absurd hj (by simp)
 ·rintro k ⟨hk,hkn⟩
  have:=R.free k hk
  simp[Al,AO,hkn,this]
def Ec:Option Nat→Code
 | none=>.ret
 | some id=>.exit id
abbrev Jump:=Option (Option Nat)
structure OZ (l:Nat) (L:Loop) (w:World) (X:Aq) (g:AW) (pre:List AH) (jump:Jump) (post new:List AH) (w':World) (g':AW):Prop where
 heap:EY w' X g' (Bi post new)
 frame:Bj (fun b o=>zone g (Av pre) b o∨b=l) w w'
 record:w'.heap[l]?=some (.loop {L with state:=if jump.isNone then .ready else .done,pending:=jump.map Ec})
 ext:∀j,Cd (g (.ext j)) (g' (.ext j))
 within:∀i ob b o,Bi post new i=some ob→Bf (g' i) ob b o→zone g (Av pre) b o∨w.heap.size≤b
 none:∀k,new.length≤k→g' (.loc k)=undef
def EG (ps:Array Tmp) (vals tmps:Array Value):Array Value:=(ps.zip vals).foldl (fun t (p,v)=>t.setIfInBounds p v) tmps
def DI (P:Program) (I:Inv) (r:RF) (sl:List (Nat×AV)) (args:List V1) (pre:List AH) (Q:Jump→List AH→List AH→Prop):Prop:=
 args.length=r.params.size∧
 ∀(l:Nat) (L:Loop) w X g (vals:Array Value),(∀b o,X b o→b<w.heap.size)→(∀o,X l o)→w.heap[l]?=some (.loop L)→L.state= .ready→L.pending= .none→L.params=r.params→L.assign=r.assign→L.body=r.body→L.tmps.size=r.nt→
  I.at w (BG (zone g (Av pre)) X)→EY w X g (Av pre)→(∀n,g (.loc n)=undef)→vals.size=args.length→
  (∀(j:Nat) x v,args[j]?=some x→vals[j]?=some v→Ak w (BG (zone g (Av pre)) X) g (Av pre) x v)→
  (∀t,Ar w (BG (zone g (Av pre)) X) g (Av pre) (Ab sl t) (L.tmps.getD t undef))→
  RoundIn Fence.wide 0 P l L.fn (EG L.params vals L.tmps) L.assign L.body w fun e w'=>
   ∃jump g' post new,Q jump post new∧e= .returned (.bool jump.isNone)∧OZ l L w X g pre jump post new w' g'
def Dp (j:Jump) (r:Unit→RF) (sl:List (Nat×AV)):AH:=
 match j with
 | none=>.rnd r sl
 | some x=>.rndX x
theorem UD {P:Program}{I:Inv}{r:Unit→RF}{sl:List (Nat×AV)}{args:List V1}{pre:List AH}{Q:Jump→List AH→List AH→Prop}(hK:DI P I (r ()) sl args pre Q)
  (hQ:∀j post new,Q j post new→CC pre post∧new.length≤31) {w:World} {X:Aq} {g:AW} {vals:Array Value} (hX:∀b o,X b o→b<w.heap.size)
  (hI:I.at w (BG (zone g (Av (pre++[.rnd r sl]))) X)) (RH:EY w X g (Av (pre++[.rnd r sl]))) (hgl:∀n,g (.loc n)=undef) (hsz:vals.size=args.length)
  (hargs:∀(j:Nat) x v,args[j]?=some x→vals[j]?=some v→Ak w (BG (zone g (Av (pre++[.rnd r sl]))) X) g (Av (pre++[.rnd r sl])) x v):
  ∃l L,g (.ext pre.length)= .map (some l)∧w.heap[l]?=some (.loop L)∧L.params.size=args.length∧
   RoundIn Fence.wide 0 P l L.fn (EG L.params vals L.tmps) L.assign L.body w fun e w'=>
    ∃v g' res post new,(∃j post0,Q j post0 new∧res= .v (.d (.bool j.isNone))∧post=post0++[Dp j r sl])∧e= .returned v∧Fg w X g (pre++[.rnd r sl]) res post new v w' g':=by
 let n:=pre.length
 let hs:Heap:=Av pre
 let hb:Heap:=Av (pre++[.rnd r sl])
 have hrec:hb (.ext n)=some (.rnd r sl):=by
  show (pre++[AH.rnd r sl])[n]?=_
  simp[n]
 obtain⟨l,L,hv,hl,l1,l2,l3,l4,l5,l6,l7⟩:=RH.objs _ _ hrec
 have sub:∀i o,hs i=some o→hb i=some o∧i≠ .ext n:=by
  intro i o hi
  cases i with
  | loc k=>simp[hs,Av]at hi
  | ext j=>
   have hi:pre[j]?=some o:=hi
   have hlt:=(List.getElem?_eq_some_iff.1 hi).1
   refine⟨?_,by simp[n];omega⟩
   show (pre++_)[j]?=some o
   rw[List.getElem?_append_left hlt];exact hi
 have cas:∀i o,hb i=some o→hs i=some o∨(i= .ext n∧o= .rnd r sl):=by
  intro i o hi
  cases i with
  | loc k=>simp[hb,Av]at hi
  | ext j=>
   have hi:(pre++[AH.rnd r sl])[j]?=some o:=hi
   by_cases hj:j<n
   ·rw[List.getElem?_append_left hj]at hi;exact .inl hi
   ·rw[List.getElem?_append_right (by omega)]at hi
    have:j - pre.length=0:=by
     rcases Nat.eq_zero_or_pos (j - pre.length)with h | h
     ·exact h
     ·rw[List.getElem?_eq_none (by simp;omega)]at hi;cases hi
    rw[this]at hi
    exact .inr ⟨by congr 1;omega,by simpa using hi.symm⟩
 have lz:∀b,B7 (g (.ext n)) b↔b=l:=fun b=>by
  rw[hv]
  exact⟨fun h=>h.map.symm,fun h=>by subst h;exact .inl rfl⟩
 let X2:Aq:=fun b o=>X b o∨b=l
 have zs:∀b o,zone g hs b o→zone g hb b o:=fun b o ⟨i,ob,hi,h1⟩=>⟨i,ob,(sub i ob hi).1,h1⟩
 have z1:∀b o,BG (zone g hs) X2 b o→BG (zone g hb) X b o:=by
  rintro b o (h | h | h)
  ·exact .inl (zs b o h)
  ·exact .inr h
  ·exact .inl ⟨.ext n,_,hrec,(lz b).2 h⟩
 have z2:∀b o,BG (zone g hb) X b o→BG (zone g hs) X2 b o:=by
  rintro b o (⟨i,ob,hi,h1⟩ | h)
  ·rcases cas i ob hi with hi | ⟨rfl,rfl⟩
   ·exact .inl ⟨i,ob,hi,h1⟩
   ·exact .inr (.inr ((lz b).1 h1))
  ·exact .inr (.inl h)
 have tk:∀i k sz e,hs i=some (.tok k sz e)→hb i=some (.tok k sz e):=fun i k sz e hi=>(sub i _ hi).1
 have live:∀i,isLive (hs i)=true→isLive (hb i)=true:=fun i hi=>by
  cases hc:hs i with
  | none=>rw[hc]at hi;cases hi
  | some o=>rw[(sub i o hc).1];rw[hc]at hi;exact hi
 have notl:∀i o b,hs i=some o→FG (g i) o b→b≠l:=by
  rintro i o b hi hb rfl
  exact (sub i o hi).2 (RH.sep i (.ext n) o _ b (sub i o hi).1 hrec hb ((lz b).2 rfl))
 have RS:EY w X2 g hs:=by
  refine⟨fun i o hi=>?_,fun i j oi oj b hi hj bi bj=>RH.sep i j oi oj b (sub i oi hi).1 (sub j oj hj).1 bi bj,fun i oi b o hi bi hx=>?_⟩
  ·exact BX.pull (r:=fun i=>i) (g:=g) (h:=hb) z1 (fun _=>rfl) tk live (by rw[AH.Cg];exact RH.objs i o (sub i o hi).1)
  ·rcases hx with hx | hx
   ·exact RH.apart i oi b o (sub i oi hi).1 bi hx
   ·exact notl i oi b hi bi hx
 refine⟨l,L,hv,hl,by rw[l3];exact hK.1.symm,?_⟩
 refine (hK.2 l L w X2 g vals (fun b o hx=>?_) (fun o=>.inr rfl) hl l1 l2 l3 l4 l5 l6 (hI.mono z1) RS hgl hsz (fun j x v hx hvv=>?_) (fun t=>?_)).mono ?_
 ·rcases hx with hx | rfl
  ·exact hX b o hx
  ·exact (Array.getElem?_eq_some_iff.1 hl).1
 ·exact Ak.pull (r:=fun i=>i) (g:=g) (h:=hb) z1 (fun _=>rfl) tk live (by rw[V1.Cg];exact hargs j x v hx hvv)
 ·exact Ar.pull (r:=fun i=>i) (g:=g) (h:=hb) z1 (fun _=>rfl) tk live (by rw[AV.Cg];exact l7 t)
 rintro e w' ⟨jump,g',post,new,hq,rfl,RP⟩
 obtain⟨hk,hnew⟩:=hQ jump post new hq
 have plen:post.length=pre.length:=EE hk
 have hgn:g' (.ext n)= .map (some l):=by
  rw[(RP.ext n).eq (by rw[hv];rintro⟨_,_,h,_⟩;cases h)];exact hv
 let hs2:Heap:=Bi post new
 let hb2:Heap:=Bi (post++[Dp jump r sl]) new
 have hrec2:hb2 (.ext n)=some (Dp jump r sl):=by
  show (post++[Dp jump r sl])[n]?=_
  simp[n,plen]
 have sub2:∀i o,hs2 i=some o→hb2 i=some o∧i≠ .ext n:=by
  intro i o hi
  cases i with
  | loc k=>exact⟨hi,by simp⟩
  | ext j=>
   have hi:post[j]?=some o:=hi
   have hlt:=(List.getElem?_eq_some_iff.1 hi).1
   refine⟨?_,by simp[n];omega⟩
   show (post++_)[j]?=some o
   rw[List.getElem?_append_left hlt];exact hi
 have cas2:∀i o,hb2 i=some o→hs2 i=some o∨(i= .ext n∧o=Dp jump r sl):=by
  intro i o hi
  cases i with
  | loc k=>exact .inl hi
  | ext j=>
   have hi:(post++[Dp jump r sl])[j]?=some o:=hi
   by_cases hj:j<n
   ·rw[List.getElem?_append_left (by omega)]at hi;exact .inl hi
   ·rw[List.getElem?_append_right (by omega)]at hi
    have:j - post.length=0:=by
     rcases Nat.eq_zero_or_pos (j - post.length)with h | h
     ·exact h
     ·rw[List.getElem?_eq_none (by simp;omega)]at hi;cases hi
    rw[this]at hi
    exact .inr ⟨by congr 1;omega,by simpa using hi.symm⟩
 have lz2:∀b o,Bf (g' (.ext n)) (Dp jump r sl) b o↔b=l:=fun b o=>by
  have:Bf (g' (.ext n)) (Dp jump r sl) b o↔B7 (g' (.ext n)) b:=by cases jump<;>exact Iff.rfl
  rw[this,hgn]
  exact⟨fun h=>h.map.symm,fun h=>by subst h;exact .inl rfl⟩
 have ob2:∀b,FG (g' (.ext n)) (Dp jump r sl) b↔b=l:=fun b=>by
  have:FG (g' (.ext n)) (Dp jump r sl) b↔B7 (g' (.ext n)) b:=by cases jump<;>exact Iff.rfl
  rw[this,hgn]
  exact⟨fun h=>h.map.symm,fun h=>by subst h;exact .inl rfl⟩
 have y1:∀b o,BG (zone g' hs2) X2 b o→BG (zone g' hb2) X b o:=by
  rintro b o (⟨i,ob,hi,h1⟩ | h | h)
  ·exact .inl ⟨i,ob,(sub2 i ob hi).1,h1⟩
  ·exact .inr h
  ·exact .inl ⟨.ext n,_,hrec2,(lz2 b o).2 h⟩
 have y2:∀b o,BG (zone g' hb2) X b o→BG (zone g' hs2) X2 b o:=by
  rintro b o (⟨i,ob,hi,h1⟩ | h)
  ·rcases cas2 i ob hi with hi | ⟨rfl,rfl⟩
   ·exact .inl ⟨i,ob,hi,h1⟩
   ·exact .inr (.inr ((lz2 b o).1 h1))
  ·exact .inr (.inl h)
 have tk2:∀i k sz e,hb2 i=some (.tok k sz e)→hs2 i=some (.tok k sz e):=by
  intro i k sz e hi
  rcases cas2 i _ hi with h | ⟨_,h⟩
  ·exact h
  ·cases jump<;>cases h
 have live2:∀i,isLive (hb2 i)=true→isLive (hs2 i)=true:=by
  intro i hi
  cases hc:hb2 i with
  | none=>rw[hc]at hi;cases hi
  | some o=>
   rw[hc]at hi
   rcases cas2 i o hc with h | ⟨_,rfl⟩
   ·rw[h];exact hi
   ·cases jump<;>cases hi
 have gext:∀i,¬isTu (g i)→g i≠undef→g' i=g i:=by
  intro i ht hu
  cases i with
  | ext j=>exact (RP.ext j).eq ht
  | loc k=>exact absurd (hgl k) hu
 have E:Jy w (BG (zone g hb) X) g hb w' (BG (zone g' hb2) X) g' hb2:=by
  refine⟨fun b o u hu hn=>⟨RP.frame.cell b o u hu ?_,fun hy=>?_⟩,fun i b hb=>gext i (fun ht=>Rd (hb▸ht)) (by rw[hb];simp[undef]),fun i q hq=>gext i (fun ht=>Re (hq▸ht)) (by rw[hq];simp[undef]),fun i hi=>?_,fun i k sz e hi hn=>?_,fun i hi=>?_,fun i hi hn=>?_⟩
  ·rintro (h | rfl)
   ·exact hn (.inl (zs b o h))
   ·exact hn (z1 _ _ (.inr (.inr rfl)))
  ·rcases y2 b o hy with⟨i,ob,hi,h1⟩ | h1
   ·rcases RP.within i ob b o hi h1 with h2 | h2
    ·exact hn (.inl (zs b o h2))
    ·have:=World.block_lt_of_cell? w ⟨b,o,none⟩ hu
     simp at this
     omega
   ·exact hn (z1 _ _ (.inr h1))
  ·rw[gext i (E0 hi) (by rintro e;rw[e]at hi;exact hi)];exact hi
  ·have hgi:=gext i (E0 hi) (by rintro e;rw[e]at hi;exact hi)
   have hn:=tk2 i k sz e hn
   cases i with
   | loc q=>rw[hgl q]at hi;exact hi.elim
   | ext j=>
    obtain⟨o0,h6,h7⟩:=DT hk hn
    cases o0<;>simp[sameKind]at h7
    obtain⟨rfl,rfl,rfl⟩:=h7
    exact⟨_,Nat.le_refl _,(sub (.ext j) _ h6).1,fun _=>hgi⟩
  ·cases i with
   | ext j=>exact (RP.ext j).isTu hi
   | loc q=>rw[hgl q]at hi;exact (BZ hi).elim
  ·cases i with
   | loc q=>rw[hgl q]at hi;exact (BZ hi).elim
   | ext j=>
    refine⟨?_,(RP.ext j).gval⟩
    have hn:=live2 _ hn
    cases ho:hs2 (.ext j)with
    | none=>rw[ho]at hn;cases hn
    | some ob=>
     rw[ho]at hn
     obtain⟨o0,h6,h7⟩:=DT hk ho
     rw[(sub (.ext j) _ h6).1]
     exact I1 h7 hn
 have frame:Bj (zone g hb) w w':=RP.frame.weaken fun b o h=>by
  rcases h with h | rfl
  ·exact zs b o h
  ·exact⟨.ext n,_,hrec,(lz _).2 rfl⟩
 have outl:∀i ob b,hs2 i=some ob→FG (g' i) ob b→b≠l:=by
  rintro i ob b hi hb rfl
  exact RP.heap.apart i ob b 0 hi hb (.inr rfl)
 refine⟨.bool jump.isNone,g',_,_,new,⟨jump,post,hq,rfl,rfl⟩,rfl,⟨⟨fun i o hi=>?_,fun i j oi oj b hi hj bi bj=>?_,fun i oi b o hi bi hx=>?_⟩,Ad.bool _,frame,fun j=>RP.ext j,fun i ob b o hi hz=>?_,RP.none⟩⟩
 ·rcases cas2 i o hi with h | ⟨rfl,rfl⟩
  ·exact BX.pull (r:=fun i=>i) (g:=g') (h:=hs2) y2 (fun _=>rfl) tk2 live2 (by rw[AH.Cg];exact RP.heap.objs i o h)
  ·have hloop:=RP.record
   cases jump with
   | none=>exact⟨l,_,hgn,hloop,rfl,rfl,l3,l4,l5,l6,fun t=>E.Tq (l7 t)⟩
   | some x=>exact⟨l,_,hgn,hloop,rfl,by cases x<;>rfl⟩
 ·rcases cas2 i oi hi with h1 | ⟨rfl,rfl⟩<;>rcases cas2 j oj hj with h2 | ⟨rfl,rfl⟩
  ·exact RP.heap.sep i j oi oj b h1 h2 bi bj
  ·exact absurd ((ob2 b).1 bj) (outl i oi b h1 bi)
  ·exact absurd ((ob2 b).1 bi) (outl j oj b h2 bj)
  ·rfl
 ·rcases cas2 i oi hi with h1 | ⟨rfl,rfl⟩
  ·exact RP.heap.apart i oi b o h1 bi (.inl hx)
  ·have:=(ob2 b).1 bi
   subst this
   exact RH.apart (.ext n) _ b o hrec ((lz b).2 rfl) hx
 ·rcases cas2 i ob hi with h1 | ⟨rfl,rfl⟩
  ·rcases RP.within i ob b o h1 hz with h2 | h2
   ·exact .inl (zs b o h2)
   ·exact .inr h2
  ·have:=(lz2 b o).1 hz
   subst this
   exact .inl ⟨.ext n,_,hrec,(lz _).2 rfl⟩
end Go.AM
namespace Go.AM
open Go Go.RowKit
def rI (M:BO) (d:TypeDesc) (x y:D) (k:Bool→Prop):Prop:=
 match x,y with
 | .int q a,.int q' b=>match d with
  | .int _=>B5 (decide (q=q')) (M.split (M.eqI a b) k)
  | _=>False
 | .str a,.str b=>match d with
  | .string=>M.split (M.eqS a b) k
  | _=>False
 | .bool a,.bool b=>match d with
  | .bool=>k (Yt a b)
  | _=>False
 | _,_=>False
def XC:AV→Bool
 | .v (.d (.agg _))=>true
 | _=>false
section
variable {C:Cx}{ti:Types}{o:Oper}{fresh:Nat}{s:AR}{h:Heap}{k:Out→Prop}
def XD:AV→Bool
 | .v (.d (.int _ _))=>true
 | _=>false
end
end Go.AM
namespace Go.AM
open Go Go.RowKit
def Yn:D→D→Option Bool
 | .int q a,.int q' b=>match decide (q=q')with
  | true=>some (a==b)
  | false=>none
 | .str a,.str b=>some (a==b)
 | _,_=>none
def GX (e:Bool) (key:D):List D→Option (Option D)
 | []=>some none
 | .agg (k::vs)::r=>match Yn key k with
  | some true=>some (some (rowOf e vs))
  | some false=>GX e key r
  | none=>none
 | _::_=>none
def P7 (key:D) (ws:List D):List D→Option (List D)
 | []=>some [.agg (key::ws)]
 | .agg (k::vs)::r=>match Yn key k with
  | some true=>some (.agg (key::ws)::r)
  | some false=>match P7 key ws r with
   | some r'=>some (.agg (k::vs)::r')
   | none=>none
  | none=>none
 | _::_=>none
structure Kq (w:World) (Z:Aq) (e:Bool) (sz:Nat) (row:D) (en:MapEntry):Prop where
 ok:∃k cs,row= .agg (k::cs)∧cs.length+1=sz∧(∀c∈k::cs,c.isAgg=false)∧Ad w Z k en.key∧Ad w Z (rowOf e cs) en.val
 val:Uv e en.val
 size:en.val.cells.size+1=sz
def Dq (w:World) (Z:Aq) (e:Bool) (sz:Nat):List D→List MapEntry→Prop
 | [],[]=>True
 | r::rs,m::ms=>Kq w Z e sz r m∧Dq w Z e sz rs ms
 | _,_=>False
theorem Dq.len {w:World}{Z:Aq}{e:Bool}{sz:Nat}:∀{rows:List D}{ms:List MapEntry},Dq w Z e sz rows ms→ms.length=rows.length
 | [],[],_=>rfl
 | r::rs,m::ms,h=>by simp[Dq.len h.2]
 | [],_::_,h=>h.elim
 | _::_,[],h=>h.elim
theorem Dq.get {w:World}{Z:Aq}{e:Bool}{sz:Nat}:∀{rows:List D}{ms:List MapEntry},Dq w Z e sz rows ms→∀(i:Nat) r m,rows[i]?=some r→ms[i]?=some m→Kq w Z e sz r m
 | [],[],_,i,r,m,h1,_=>by simp at h1
 | r::rs,m::ms,h,i,r',m',h1,h2=>by
  match i with
  | 0=>simp at h1 h2;subst h1;subst h2;exact h.1
  | i+1=>simp at h1 h2;exact Dq.get h.2 i r' m' h1 h2
 | [],_::_,h,_,_,_,_,_=>h.elim
 | _::_,[],h,_,_,_,_,_=>h.elim
theorem Dq.Yl {w:World}{Z:Aq}{e:Bool}{sz:Nat}:∀{rows:List D}{ms:List MapEntry},ms.length=rows.length→(∀(i:Nat) r m,rows[i]?=some r→ms[i]?=some m→Kq w Z e sz r m)→Dq w Z e sz rows ms
 | [],[],_,_=>trivial
 | r::rs,m::ms,hl,h=>⟨h 0 r m rfl rfl,Dq.Yl (by simpa using hl) fun i r' m' h1 h2=>h (i+1) r' m' (by simpa using h1) (by simpa using h2)⟩
 | [],_::_,h,_=>by simp at h
 | _::_,[],h,_=>by simp at h
theorem Dq.mono {w w':World}{Z Z':Aq}{e:Bool}{sz:Nat}(hD:∀{x v},Ad w Z x v→Ad w' Z' x v):∀{rows:List D}{ms:List MapEntry},Dq w Z e sz rows ms→Dq w' Z' e sz rows ms
 | [],[],_=>trivial
 | r::rs,m::ms,h=>⟨⟨let ⟨k,cs,h1,h2,h3,h4,h5⟩:=h.1.ok;⟨k,cs,h1,h2,h3,hD h4,hD h5⟩,h.1.val,h.1.size⟩,Dq.mono hD h.2⟩
 | [],_::_,h=>h.elim
 | _::_,[],h=>h.elim
theorem Dq.append {w:World}{Z:Aq}{e:Bool}{sz:Nat}{r:D}{m:MapEntry}(h1:Kq w Z e sz r m):∀{rows:List D}{ms:List MapEntry},Dq w Z e sz rows ms→Dq w Z e sz (rows++[r]) (ms++[m])
 | [],[],_=>⟨h1,trivial⟩
 | _::_,_::_,h=>⟨h.1,Dq.append h1 h.2⟩
 | [],_::_,h=>h.elim
 | _::_,[],h=>h.elim
theorem J8 {sz:Nat}:∀{m:List MapEntry},(∀e∈m,e.val.cells.size+1=sz)→∀(i:Nat) en (j:Nat),m[i]?=some en→j<sz→(m.flatMap fun e=>e.key::e.val.cells.toList)[i*sz+j]?=(en.key::en.val.cells.toList)[j]?
 | [],_,i,en,j,h,_=>by simp at h
 | e::m,hs,i,en,j,h,hj=>by
  have he:=hs e (by simp)
  have hl:(e.key::e.val.cells.toList).length=sz:=by simp;omega
  rw[List.flatMap_cons]
  match i with
  | 0=>
   simp at h
   subst h
   rw[List.getElem?_append_left (by omega)]
   simp
  | i+1=>
   have:(i+1)*sz+j=sz+(i*sz+j):=by rw[Nat.add_mul];omega
   rw[this,List.getElem?_append_right (by omega),hl]
   rw[show sz+(i*sz+j) - sz=i*sz+j by omega]
   exact J8 (fun x hx=>hs x (by simp[hx])) i en j (by simpa using h) hj
theorem XE {w:World}{Z:Aq}{e:Bool}{cs:List D}{v:Value}(hv:Uv e v) (hs:v.cells.size=cs.length) (ha:∀c∈cs,c.isAgg=false) (h:∀(j:Nat) c u,cs[j]?=some c→v.cells[j]?=some u→Ad w Z c u):Ad w Z (rowOf e cs) v:=by
 cases e with
 | true=>
  obtain⟨vs,rfl⟩:=hv
  exact .agg cs vs hs ha h
 | false=>
  have hc:=Dy hv
  rw[hc]at hs
  match cs,hs with
  | [d],_=>exact h 0 d v rfl (by rw[hc];rfl)
theorem P8 {w:World}{Z:Aq}{g:AW}{h:Heap}{e:Bool}{sz:Nat}{rows:List D}{gv:Value}(r:BX w Z g h (.tree (.fmap e) true sz rows none) gv):
  isTu gv∧0<sz∧∃b m clock,gval gv= .map (some b)∧w.heap[b]?=some (.map m clock)∧(∀en∈m,en.born<clock)∧Dq w Z e sz rows m.toList∧∀b',B7 gv b'↔b'=b:=by
 obtain⟨ht,h0,hf,xs,hx,_,U,T,h1,h2,h3,h4,h5⟩:=r
 obtain⟨b,m,clock,hv,hh,hn,hb,hs,hok,rfl⟩:=hx
 have nT:∀i j b',¬T i j b':=by
  intro i j b' hT
  obtain⟨_,r,c,p1,p2⟩:=h2 i j b' hT
  exact ((Ch.fz rfl).1 (h1 i r j c (fun _ _ h=>by cases h) p1 p2).2).2 b' hT
 refine⟨ht,h0,b,m,clock,hv,hh,hb,Dq.Yl (by simpa using hn) fun i r en hr hm=>?_,fun b'=>?_⟩
 ·have hmem:en∈m:=Array.mem_toList_iff.1 (List.mem_of_getElem? hm)
  obtain⟨f1,f2,f3⟩:=hf r (List.mem_of_getElem? hr)
  have hsz:=hs en hmem
  match r,f1 with
  | .agg l,_=>
   have f2:l.length=sz:=f2
   match l,f2 with
   | [],f2=>simp at f2;omega
   | k::cs,f2=>
    have cell:∀(j:Nat) c u,(k::cs)[j]?=some c→(en.key::en.val.cells.toList)[j]?=some u→Ad w Z c u:=by
     intro j c u hc hu
     have hj:j<sz:=by rw[←f2];exact (List.getElem?_eq_some_iff.1 hc).1
     obtain⟨p1,p2⟩:=h1 i _ j c (fun _ _ h=>by cases h) hr hc
     have:=J8 (sz:=sz) (fun e he=>hs e (Array.mem_toList_iff.1 he)) i en j hm hj
     rw[show Kk m=m.toList.flatMap fun e=>e.key::e.val.cells.toList from rfl,this,hu]at p1
     cases p1
     exact ((Ch.fz rfl).1 p2).1.1
    refine⟨⟨k,cs,rfl,by simpa using f2,f3,cell 0 k _ rfl rfl,XE (hok en hmem) (by simp at f2;omega) (fun c hc=>f3 c (by simp[D.cells,hc])) fun j c u hc hu=>cell (j+1) c u (by simpa using hc) (by simpa using hu)⟩,hok en hmem,hsz⟩
 ·rw[h5,hv]
  constructor
  ·rintro (h | ⟨i,j,h⟩)
   ·simp[blk]at h;exact h.symm
   ·exact (nT i j b' h).elim
  ·rintro rfl
   exact .inl rfl
theorem U3 {w:World}{Z:Aq}{g:AW}{h:Heap}{e:Bool}{sz:Nat}{rows:List D}{gv:Value}{b:Nat}{m:Array MapEntry}{clock:Nat}(ht:isTu gv) (h0:0<sz) (hv:gval gv= .map (some b)) (hh:w.heap[b]?=some (.map m clock))
  (hb:∀en∈m,en.born<clock) (he:Dq w Z e sz rows m.toList) (hbl:∀b',B7 gv b'↔b'=b):BX w Z g h (.tree (.fmap e) true sz rows none) gv:=by
 have hl:=he.len
 have pick:∀(i:Nat) r,rows[i]?=some r→∃en,m.toList[i]?=some en∧Kq w Z e sz r en:=by
  intro i r hr
  have hlt:=(List.getElem?_eq_some_iff.1 hr).1
  have hm:m.toList[i]?=some (m.toList[i]'(by omega)):=List.getElem?_eq_getElem (by omega)
  exact⟨_,hm,he.get i r _ hr hm⟩
 have pick':∀en∈m,∃r,Kq w Z e sz r en:=by
  intro en hen
  obtain⟨i,hi⟩:=List.mem_iff_getElem?.1 (Array.mem_toList_iff.2 hen)
  have hlt:=(List.getElem?_eq_some_iff.1 hi).1
  exact⟨_,he.get i (rows[i]'(by omega)) en (List.getElem?_eq_getElem (by omega)) hi⟩
 have hs:∀en∈m,en.val.cells.size+1=sz:=fun en hen=>let ⟨_,h⟩:=pick' en hen;h.size
 refine⟨ht,h0,fun r hr=>?_,Kk m,⟨b,m,clock,hv,hh,by simpa using hl,hb,hs,fun en hen=>let ⟨_,h⟩:=pick' en hen;h.val,rfl⟩,(fun _ _ h=>by cases h),fun i j=>(Kk m).getD (i*sz+j) undef,fun _ _ _=>False,fun i r j c _ hr hc=>?_,fun _ _ _ h=>h.elim,fun _ _ _ h=>h.elim,fun _ _ _ _ _ h=>h.elim,fun b'=>?_⟩
 ·obtain⟨i,hi⟩:=List.mem_iff_getElem?.1 hr
  obtain⟨en,_,hen⟩:=pick i r hi
  obtain⟨k,cs,rfl,q2,q3,_⟩:=hen.ok
  exact⟨rfl,by simpa [D.cells] using q2,q3⟩
 ·obtain⟨en,hm,hen⟩:=pick i r hr
  obtain⟨k,cs,rfl,q2,q3,q4,q5⟩:=hen.ok
  have hc:(k::cs)[j]?=some c:=hc
  have hj:j<sz:=by have:=(List.getElem?_eq_some_iff.1 hc).1;simp at this;omega
  have hfl:=J8 (sz:=sz) (fun e he=>hs e (Array.mem_toList_iff.1 he)) i en j hm hj
  have hfl:(Kk m)[i*sz+j]?=(en.key::en.val.cells.toList)[j]?:=hfl
  have hsz:=hen.size
  have hjl:j<(en.key::en.val.cells.toList).length:=by simp;omega
  have hu:=List.getElem?_eq_getElem hjl
  have hag:(rowOf e cs).cells=cs:=by
   cases e with
   | true=>rfl
   | false=>
    have hv:=Dy hen.val
    rw[hv]at hsz
    match cs,(show cs.length=1 by simp at hsz;omega)with
    | [d],_=>
     have:=q3 d (by simp)
     show d.cells=[d]
     cases d<;>first | rfl | simp[D.isAgg]at this
  have hcell:=q5.cellsOf
  refine⟨by simp[hfl,hu],(Ch.fz rfl).2 ⟨⟨?_,q3 c (List.mem_of_getElem? hc)⟩,fun _ h=>h⟩⟩
  show Ad w Z c ((Kk m).getD (i*sz+j) undef)
  rw[show (Kk m).getD (i*sz+j) undef=(en.key::en.val.cells.toList)[j]by simp[hfl,hu]]
  match j with
  | 0=>simp at hc;subst hc;exact q4
  | j+1=>
   have hc':cs[j]?=some c:=by simpa using hc
   have hu':en.val.cells[j]?=some (en.key::en.val.cells.toList)[j+1]:=by
    simp at hjl
    simp[hjl]
   exact (hcell.2 j c _ (by rw[hag];exact hc') hu').1
 ·rw[hbl,hv]
  simp[blk,eq_comm]
theorem MT {P:Program}{w:World}{r:Nat}{es:Array MapEntry}{clock:Nat}(hb:w.heap[r]?=some (.map es clock)):(getObj r).run P w= .ok (.map es clock) w:=by simp[getObj,Sem.run,hb]
theorem MU {P:Program}{w:World}{r:Nat}{es:Array MapEntry}{clock:Nat}(o:Obj) (hb:w.heap[r]?=some (.map es clock)):(setObj r o).run P w= .ok () {w with heap:=w.heap.setIfInBounds r o}:=by simp[setObj,Sem.run,hb]
theorem Ac.fO {C:Cx}{F:Nat→Prop}{s:AR}{h:Heap}{g:AW}{a:Act}{w:World}(R:Ac C F s h g a w) {id:Id}{e:Bool}{sz:Nat}{rows rows':List D}(hid:h id=some (.tree (.fmap e) true sz rows none)) {b:Nat}
  (hv:gval (g id)= .map (some b)) {m m':Array MapEntry} {clock clock':Nat} (hh:w.heap[b]?=some (.map m clock)) (hb:∀en∈m',en.born<clock')
  (he:Dq w (BG (zone g h) C.X) e sz rows' m'.toList):Ac C F s (AO h id (.tree (.fmap e) true sz rows' none)) g a {w with heap:=w.heap.setIfInBounds b (.map m' clock')}:=by
 obtain⟨ht,h0,b0,m0,c0,hv0,hh0,_,_,hbl⟩:=P8 (R.heap.objs id _ hid)
 rw[hv]at hv0
 cases hv0
 have hlt:b<w.heap.size:=(Array.getElem?_eq_some_iff.1 hh).1
 let w':World:={w with heap:=w.heap.setIfInBounds b (.map m' clock')}
 have hother:∀b',b'≠b→w'.heap[b']?=w.heap[b']?:=fun b' hb'=>by
  show (w.heap.setIfInBounds b (.map m' clock'))[b']?=_
  rw[Array.getElem?_setIfInBounds]
  simp[Ne.symm hb']
 have hself:w'.heap[b]?=some (.map m' clock'):=by
  show (w.heap.setIfInBounds b (.map m' clock'))[b]?=_
  rw[Array.getElem?_setIfInBounds]
  simp[hlt]
 have hcell:∀b' o u,w.cell? ⟨b',o,none⟩=some u→w'.cell? ⟨b',o,none⟩=some u:=by
  intro b' o u hu
  have hne:b'≠b:=by
   rintro rfl
   simp[World.cell?,hh]at hu
  simpa [World.cell?,hother b' hne] using hu
 have hz:∀b' o,zone g (AO h id (.tree (.fmap e) true sz rows' none)) b' o→zone g h b' o:=by
  rintro b' o ⟨i,ob,hi,h1⟩
  by_cases hin:i=id
  ·subst hin
   simp[AO]at hi
   subst hi
   exact⟨i,_,hid,h1⟩
  ·simp only[AO,if_neg hin]at hi
   exact⟨i,ob,hi,h1⟩
 have E:Jy w (BG (zone g h) C.X) g h w' (BG (zone g (AO h id (.tree (.fmap e) true sz rows' none))) C.X) g (AO h id (.tree (.fmap e) true sz rows' none)):=by
  refine⟨fun b' o u hu hn=>⟨hcell b' o u hu,?_⟩,fun _ _ _=>rfl,fun _ _ _=>rfl,fun _ hi=>hi,fun i k sz' e' _ hk=>?_,fun _ hi=>hi,fun i hi hk=>?_⟩
  ·rintro (hx | hx)
   ·exact hn (.inl (hz b' o hx))
   ·exact hn (.inr hx)
  ·have hin:i≠id:=by rintro rfl;simp[AO]at hk
   exact⟨k,Nat.le_refl _,by simpa [AO,hin] using hk,fun _=>rfl⟩
  ·by_cases hin:i=id
   ·subst hin
    exact⟨by rw[hid];rfl,rfl⟩
   ·exact⟨by simpa [AO,hin] using hk,rfl⟩
 refine R.step (fun i=>i=id) E ⟨rfl,rfl,rfl,by simp,fun b' _ hzn=>hother b' ?_,fun b' o u hu _=>hcell b' o u hu⟩ ?_ ?_ ?_ ?_ ?_ ?_ ?_
 ·rintro rfl
  exact hzn 0 ⟨id,_,hid,(hbl _).2 rfl⟩
 ·intro i hi
  simp[AO,hi]
 ·intro i o b' hi ho hb'
  refine hother b' ?_
  rintro rfl
  exact hi (R.heap.sep i id o _ _ ho hid hb' ((hbl _).2 rfl))
 ·rintro i o rfl ho
  simp[AO]at ho
  subst ho
  exact U3 ht h0 hv hself hb (he.mono E.Gi) hbl
 ·rintro i o b' p rfl ho hb'
  simp[AO]at ho
  subst ho
  exact .inl ⟨_,_,rfl,hid,hb'⟩
 ·rintro i j _ _ _ rfl rfl _ _ _ _
  rfl
 ·rintro j rfl
  exact .refl _
 ·intro k hk
  obtain⟨h1,h2⟩:=R.free k hk
  have hin:Id.loc k≠id:=by rintro rfl;rw[h2]at hid;simp at hid
  exact⟨h1,by simp[AO,hin,h2]⟩
def I4 (d:TypeDesc) (x:D):Bool:=
 match x with
 | .int _ _=>match d with
  | .int _=>true
  | _=>false
 | .str _=>match d with
  | .string=>true
  | _=>false
 | _=>false
theorem D7 {w:World}{Z:Aq}{d:TypeDesc}{x y:D}{u v:Value}{q:Bool}(hk:I4 d x=true) (hx:Ad w Z x u) (hy:Ad w Z y v) (h:Yn x y=some q):Instr.sameNow d u v=some q∧(q=true→Instr.sameBits 10000 v u=true):=by
 cases x<;>simp[I4]at hk
 ·cases hx
  cases y<;>simp[Yn]at h
  cases hy
  split at hk<;>try cases hk
  split at h
  ·rename_i hq
   have hq:=of_decide_eq_true hq
   subst hq
   cases h
   refine⟨by simp[Instr.sameNow],fun he=>?_⟩
   rw[eq_of_beq he,Instr.sameBits]
   simp
  ·cases h
 ·cases hx
  cases y<;>simp[Yn]at h
  cases hy
  split at hk<;>try cases hk
  subst h
  refine⟨by simp[Instr.sameNow],fun he=>?_⟩
  rw[Instr.sameBits]
  rw[beq_toListBytes]at he ⊢
  rw[eq_of_beq he]
  exact beq_self_eq_true _
theorem Rq {w:World}{Z:Aq}{e:Bool}{sz:Nat}{d:TypeDesc}{key:D}{kv:Value}(hk:I4 d key=true) (hkv:Ad w Z key kv):∀{rows:List D}{ms:List MapEntry}{r:Option D}(i:Nat),Dq w Z e sz rows ms→GX e key rows=some r→
  (r=none∧Instr.findNow d kv ms i=some none)∨∃(y:D) (j:Nat) (en:MapEntry),r=some y∧Instr.findNow d kv ms i=some (some (j,en.val))∧Ad w Z y en.val
 | [],[],r,i,_,h=>by cases h;exact .inl ⟨rfl,rfl⟩
 | r0::rs,m::ms,r,i,he,h=>by
  obtain⟨k,cs,rfl,q2,q3,q4,q5⟩:=he.1.ok
  unfold GX at h
  split at h
  ·rename_i heq
   cases h
   exact .inr ⟨_,i,m,rfl,by simp[Instr.findNow,(D7 hk hkv q4 heq).1],q5⟩
  ·rename_i heq
   rcases Rq hk hkv (i+1) he.2 h with⟨h1,h2⟩ | ⟨y,j,en,h1,h2,h3⟩
   ·exact .inl ⟨h1,by simp[Instr.findNow,(D7 hk hkv q4 heq).1,h2]⟩
   ·exact .inr ⟨y,j,en,h1,by simp[Instr.findNow,(D7 hk hkv q4 heq).1,h2],h3⟩
  ·cases h
 | [],_::_,_,_,h,_=>h.elim
 | _::_,[],_,_,h,_=>h.elim
theorem U4 {w:World}{Z:Aq}{e:Bool}{sz:Nat}{d:TypeDesc}{key:D}{ws:List D}{kv val:Value}(hk:I4 d key=true) (hkv:Ad w Z key kv) (hnew:∀b,Kq w Z e sz (.agg (key::ws)) ⟨kv,val,b⟩):
  ∀{rows:List D} {ms:List MapEntry} {rows':List D} (i:Nat),Dq w Z e sz rows ms→P7 key ws rows=some rows'→
  (Instr.findNow d kv ms i=some none∧∀b,Dq w Z e sz rows' (ms++[⟨kv,val,b⟩]))∨
   ∃(j:Nat) (en:MapEntry),ms[j]?=some en∧Instr.findNow d kv ms i=some (some (i+j,en.val))∧Instr.sameBits 10000 en.key kv=true∧Dq w Z e sz rows' (ms.set j {en with key:=kv,val:=val})
 | [],[],rows',i,_,h=>by
  cases h
  exact .inl ⟨rfl,fun b=>⟨hnew b,trivial⟩⟩
 | r0::rs,m::ms,rows',i,he,h=>by
  obtain⟨k,cs,rfl,q2,q3,q4,q5⟩:=he.1.ok
  unfold P7 at h
  split at h
  ·rename_i heq
   cases h
   obtain⟨s1,s2⟩:=D7 hk hkv q4 heq
   exact .inr ⟨0,m,rfl,by simp[Instr.findNow,s1],s2 rfl,⟨⟨(hnew m.born).ok,(hnew m.born).val,(hnew m.born).size⟩,he.2⟩⟩
  ·rename_i heq
   split at h
   ·rename_i r' hr'
    cases h
    obtain⟨s1,s2⟩:=D7 hk hkv q4 heq
    rcases U4 hk hkv hnew (i+1) he.2 hr' with⟨h1,h2⟩ | ⟨j,en,h1,h2,h3,h4⟩
    ·exact .inl ⟨by simp[Instr.findNow,s1,h1],fun b=>⟨he.1,h2 b⟩⟩
    ·exact .inr ⟨j+1,en,by simpa using h1,by simp[Instr.findNow,s1,h2];omega,h3,⟨he.1,h4⟩⟩
   ·cases h
  ·cases h
 | [],_::_,_,_,h,_=>h.elim
 | _::_,[],_,_,h,_=>h.elim
def U5 (x:AV) (h:Heap) (K:Id→Bool→Nat→List D→Prop):Prop:=
 match x with
 | .v (.c (.ow id))=>match h id with
  | some (.tree kd ag sz rows foc)=>match kd with
   | .fmap e=>match ag with
    | true=>match foc with
     | none=>K id e sz rows
     | some _=>False
    | false=>False
   | _=>False
  | _=>False
 | _=>False
def IQ (M:BO) (ti:Types) (t:TypeId) (x key:AV) (ok:Bool) (h:Heap) (k:Out→Prop):Prop:=
 BC ti t fun q=>match q.desc with
 | .map kt et=>BC ti kt fun kk=>BC ti et fun j=>B5 (MH j)<| match key with
  | .v (.d key)=>B5 (I4 kk.desc key)<| U5 x h fun id e sz rows=>B5 (e==Aj j.desc)<| ∃r,(M.lock fun _=>GX e key rows=some r)∧(match r with
   | some y=>(match ok with
    | true=>k ⟨.t [.d y,.d (.bool true)],[id],[]⟩
    | false=>k ⟨.v (.d y),[id],[]⟩)
   | none=>(match ok with
    | true=>k ⟨.t [V1.Ax (Aj j.desc) j.zc,.d (.bool false)],[id],[]⟩
    | false=>k ⟨.v (V1.Ax (Aj j.desc) j.zc),[id],[]⟩))
  | _=>False
 | _=>False
def IT (M:BO) (ti:Types) (t:TypeId) (x key y:AV) (h:Heap) (k:Out→Prop):Prop:=
 BC ti t fun q=>match q.desc with
 | .map kt et=>BC ti kt fun kk=>BC ti et fun j=>match key with
  | .v (.d key)=>B5 (I4 kk.desc key)<| EM y fun y=>match y.norm with
   | .d d=>B5 (d.isAgg==Aj j.desc)<| B5 (Nat.beq d.cells.length j.size)<| U5 x h fun id e sz rows=>B5 (e==Aj j.desc)<| B5 (Nat.beq sz (j.size+1))<|
    ∃rows',(M.lock fun _=>P7 key d.cells rows=some rows')∧k ⟨.u,[id],[(id,.tree (.fmap e) true sz rows' none)]⟩
   | _=>False
  | _=>False
 | _=>False
def Gx (ti:Types) (t:TypeId) (fresh:Nat) (k:Out→Prop):Prop:=
 BC ti t fun q=>match q.desc with
 | .map _ et=>BC ti et fun j=>k ⟨.v (.c (.ow (.loc fresh))),[],[(.loc fresh,.tree (.fmap (Aj j.desc)) true (j.size+1) [] none)]⟩
 | _=>False
section
variable {C:Cx}{ti:Types}{o:Oper}{fresh:Nat}{s:AR}{h:Heap}{k:Out→Prop}
theorem Oa {x:AV}{K:Id→Bool→Nat→List D→Prop}(hk:U5 x h K):∃id e sz rows,K id e sz rows∧h id=some (.tree (.fmap e) true sz rows none)∧
  ∀{w:World} {Z:Aq} {g:AW} {σh:Heap} {u:Value},σh id=h id→Ar w Z g σh x u→u=gval (g id):=by
 unfold U5 at hk
 split at hk
 ·rename_i id
  split at hk
  ·rename_i kd ag sz rows foc hid
   split at hk
   ·rename_i e
    split at hk
    ·split at hk
     ·refine⟨id,e,sz,rows,hk,hid,fun hσ hr=>hr.2.2 (by rw[hσ,hid];rfl)⟩
     ·exact hk.elim
    ·exact hk.elim
   ·exact hk.elim
  ·exact hk.elim
 ·exact hk.elim
theorem Kr {P:Program}{w:World}{kt:TypeId}{d:TypeDesc}{key:D}{Z:Aq}{u:Value}(hd:P.underlying kt=some d) (hk:I4 d key=true) (hu:Ad w Z key u) (b:Bool) (n:Nat):(Instr.checkKey b (n+1) kt u).run P w= .ok () w:=by
 have e2:=run_underlying hd w
 cases key<;>simp[I4]at hk
 all_goals
  split at hk<;>try cases hk
  simp[Instr.checkKey,e2]
theorem cF {j:TI}{et:TypeId}{P:Program}(hti:BN P ti) (hj:ti et=some j) (hz0:MH j=true):∀(w:World) (Z:Aq) (g:AW) (h:Heap),Ak w Z g h (V1.Ax (Aj j.desc) j.zc) j.zero:=by
 obtain⟨_,ii',j1,j2,_,_,j5,j6,j7⟩:=hti et j hj
 intro w Z g h
 have hc:∀(q:Nat) c u,j.zc[q]?=some c→j.zero.cells[q]?=some u→BD w Z g h c u:=fun q c u h1 h2=>Fj (j7 q c u h1 h2)
 have hl:j.zero.cells.size=j.zc.length:=by rw[j5,j6]
 have hz1:=hz0
 unfold MH at hz1
 split at hz1
 ·rename_i cs hcs
  rw[hcs]at hc hl ⊢
  exact (Ak.Ax hl hc).1 hz1
 ·cases hz1
 ·rename_i v h1 h2
  have hrow:Aj j.desc=false:=by cases hh:Aj j.desc<;>simp[hh,EP]at hz1 ⊢
  have hcell:j.zero.cells=#[j.zero]:=by
   cases hz:j.zero<;>first | rfl | exact absurd hz (h1 _)
  exact (Ak.Ax hl hc).2 hrow _ hcell
theorem UE (hti:BN C.P ti) (t:TypeId) (x y:Operand) (ok:Bool) (ho:o.op= .lookup t x y ok) (hk:IQ C.M ti t (Aw ti s t x) (Aw ti s 0 y) ok h k):∃out,k out∧Bk C o fresh s h out:=by
 unfold IQ at hk
 obtain⟨q,hq,hk⟩:=AQ.1 hk
 split at hk
 ·rename_i kt et hd
  obtain⟨kk,hkk,hk⟩:=AQ.1 hk
  obtain⟨j,hj,hk⟩:=AQ.1 hk
  obtain⟨hz0,hk⟩:=AN.1 hk
  split at hk
  ·rename_i key hop
   obtain⟨hkey,hk⟩:=AN.1 hk
   obtain⟨id,e,sz,rows,hk,hid,hrel⟩:=Oa hk
   obtain⟨he,hk⟩:=AN.1 hk
   obtain rfl:e=Aj j.desc:=by simpa using he
   obtain⟨r,hl,hk⟩:=hk
   have hfind:=(C.M.lock_iff _).1 hl
   have run:∀F σs σh g a w,Ac C F σs σh g a w→(∀t,Operand.tmp t∈o.op.operands.toList→σs t=s t)→(∀i∈[id],σh i=h i)→
     ∃v b,(execOp a.eval o).run C.P w= .ok (.value (if ok then .tuple #[v,.bool b]else v)) w∧(match r with | some y=>Ad w (BG (zone g σh) C.X) y v∧b=true | none=>v=j.zero∧b=false):=by
    intro F σs σh g a w R hs hrd
    have hx:=AY ti t x R (s:=s) (fun t ht=>hs t (by subst ht;simp[ho,Op.operands]))
    have hy:=AY ti 0 y R (s:=s) (fun t ht=>hs t (by subst ht;simp[ho,Op.operands]))
    rw[hop]at hy
    have hy:Ad w _ key (a.eval y):=hy
    have hσ:=hrd id (by simp)
    have hv:=hrel hσ hx
    obtain⟨ht,h0,b,m,clock,g1,g2,_,g4,_⟩:=P8 (R.heap.objs id _ (hσ.trans hid))
    rw[g1]at hv
    have e1:=DG hti hq w
    rw[hd]at e1
    have e2:=DG hti hkk w
    obtain⟨ii,i1,i2,i3,i4,i5⟩:=Dm hti hj
    have e3:(zeroValue et).run C.P w= .ok j.zero w:=by simp[zeroValue,typeInfo,i1,i4]
    have e4:∀b,(Instr.checkKey b 10000 kt (a.eval y)).run C.P w= .ok () w:=fun b=>Kr (hti kt kk hkk).1 hkey hy b 9999
    have e5:=MT (P:=C.P) g2
    rcases Rq hkey hy 0 g4 hfind with⟨rfl,h2⟩ | ⟨y',j',en,rfl,h2,h3⟩
    ·exact⟨j.zero,false,by simp[execOp,ho,Instr.lookup,e1,hv,e5,e4,Instr.findKey,e2,h2,e3],rfl,rfl⟩
    ·exact⟨en.val,true,by simp[execOp,ho,Instr.lookup,e1,hv,e5,e4,Instr.findKey,e2,h2],h3,rfl⟩
   cases r with
   | some y'=>
    cases ok with
    | true=>
     refine⟨_,hk,AL fun F σs σh g a w R hs hrd=>?_⟩
     obtain⟨v,b,e1,e2,rfl⟩:=run F σs σh g a w R hs hrd
     refine⟨_,e1,#[v,.bool true],rfl,rfl,fun q c u hc hu=>?_⟩
     match q with
     | 0=>simp at hc hu;subst hc;subst hu;exact e2
     | 1=>simp at hc hu;subst hc;subst hu;exact .bool _
     | q+2=>simp at hc
    | false=>
     refine⟨_,hk,AL fun F σs σh g a w R hs hrd=>?_⟩
     obtain⟨v,b,e1,e2,rfl⟩:=run F σs σh g a w R hs hrd
     exact⟨_,e1,e2⟩
   | none=>
    have rel:=cF hti hj hz0
    cases ok with
    | true=>
     refine⟨_,hk,AL fun F σs σh g a w R hs hrd=>?_⟩
     obtain⟨v,b,e1,rfl,rfl⟩:=run F σs σh g a w R hs hrd
     refine⟨_,e1,#[j.zero,.bool false],rfl,rfl,fun q c u hc hu=>?_⟩
     match q with
     | 0=>simp at hc hu;subst hc;subst hu;exact rel _ _ _ _
     | 1=>simp at hc hu;subst hc;subst hu;exact .bool _
     | q+2=>simp at hc
    | false=>
     refine⟨_,hk,AL fun F σs σh g a w R hs hrd=>?_⟩
     obtain⟨v,b,e1,rfl,rfl⟩:=run F σs σh g a w R hs hrd
     exact⟨_,e1,rel _ _ _ _⟩
  ·exact hk.elim
 ·exact hk.elim
theorem Rr (hti:BN C.P ti) (t:TypeId) (ho:o.op= .makeMap t none) (hk:Gx ti t fresh k):∃out,k out∧Bk C o fresh s h out:=by
 unfold Gx at hk
 obtain⟨q,hq,hk⟩:=AQ.1 hk
 split at hk
 ·rename_i kt et hd
  obtain⟨j,hj,hk⟩:=AQ.1 hk
  refine⟨_,hk,?_⟩
  rintro F σs σh a w Q ⟨g,R⟩ hs hrd hF hdst
  have hrun:(execOp a.eval o).run C.P w= .ok (.value (.map (some w.heap.size))) (w.alloc (.map #[] 0)):=by
   simp[execOp,ho,Instr.makeMap]
  obtain⟨g',R',hrel⟩:=R.V5 (T0:=[]) (n:=fresh) (w':=w.alloc (.map #[] 0)) (by simp) (hF 0 (by omega)) ⟨rfl,rfl,rfl,by simp⟩ (fun b hb _=>Below.heap_alloc w _ b hb) (kd:=.fmap (Aj j.desc)) (ag:=true) (sz:=j.size+1) (out:=[])
   (v:=.map (some w.heap.size)) (fun b=>b=w.heap.size) [w.heap.size] (by simp) (fun b hb=>.inr (by omega)) rfl
   (fun Z' g' h' gv gt gg gb _=>U3 gt (by omega) gg (heap_alloc_new w _) (by simp) trivial gb)
  unfold Oper.wp
  rw[hrun]
  exact⟨g',(R'.put hdst (v:=.v (.c (.ow (.loc fresh)))) hrel).A0 (fun n hn=>⟨hn.1,fun e=>hn.2 (by omega)⟩)⟩
 ·exact hk.elim
theorem UF (hti:BN C.P ti) (t:TypeId) (x y z:Operand) (ho:o.op= .mapUpdate t x y z) (hd:o.dst=none) (hk:IT C.M ti t (Aw ti s t x) (Aw ti s 0 y) (Aw ti s 0 z) h k):∃out,k out∧Bk C o fresh s h out:=by
 unfold IT at hk
 obtain⟨q,hq,hk⟩:=AQ.1 hk
 split at hk
 ·rename_i kt et hdd
  obtain⟨kk,hkk,hk⟩:=AQ.1 hk
  obtain⟨j,hj,hk⟩:=AQ.1 hk
  split at hk
  ·rename_i key hop
   obtain⟨hkey,hk⟩:=AN.1 hk
   obtain⟨yv,hyv,hk⟩:=CW.1 hk
   split at hk
   ·rename_i d hnorm
    obtain⟨hag,hk⟩:=AN.1 hk
    obtain⟨hcl,hk⟩:=AN.1 hk
    obtain⟨id,e,sz,rows,hk,hid,hrel⟩:=Oa hk
    obtain⟨he,hk⟩:=AN.1 hk
    obtain⟨hsz,hk⟩:=AN.1 hk
    obtain rfl:e=Aj j.desc:=by simpa using he
    obtain rfl:=Nat.eq_of_beq_eq_true hsz
    have hcl:=Nat.eq_of_beq_eq_true hcl
    have hag:d.isAgg=Aj j.desc:=by simpa using hag
    obtain⟨rows',hl,hk⟩:=hk
    have hput:=(C.M.lock_iff _).1 hl
    refine⟨_,hk,?_⟩
    rintro F σs σh a w Q ⟨g,R⟩ hs hrd hF hdst
    have hx:=AY ti t x R (s:=s) (fun t ht=>hs t (by subst ht;simp[ho,Op.operands]))
    have hy:=AY ti 0 y R (s:=s) (fun t ht=>hs t (by subst ht;simp[ho,Op.operands]))
    have hz:=AY ti 0 z R (s:=s) (fun t ht=>hs t (by subst ht;simp[ho,Op.operands]))
    rw[hop]at hy
    have hy:Ad w (BG (zone g σh) C.X) key (a.eval y):=hy
    rw[hyv]at hz
    have hz:Ak w (BG (zone g σh) C.X) g σh yv (a.eval z):=hz
    have hz:=hz.norm
    rw[hnorm]at hz
    have hz:Ad w (BG (zone g σh) C.X) d (a.eval z):=hz
    have hσ:=hrd id (by simp)
    have hv:=hrel hσ hx
    obtain⟨ht,h0,b,m,clock,g1,g2,g3,g4,_⟩:=P8 (R.heap.objs id _ (hσ.trans hid))
    rw[g1]at hv
    obtain⟨c1,c2⟩:=hz.cellsOf
    have hcells:rowOf (Aj j.desc) d.cells=d:=by
     rw[←hag]
     cases d<;>rfl
    have hnew:∀bn,Kq w (BG (zone g σh) C.X) (Aj j.desc) (j.size+1) (.agg (key::d.cells)) ⟨a.eval y,a.eval z,bn⟩:=fun bn=>by
     refine⟨⟨key,d.cells,rfl,by omega,fun c hc=>?_,hy,by rw[hcells];exact hz⟩,?_,by show (a.eval z).cells.size+1=_;rw[c1,hcl]⟩
     ·rcases List.mem_cons.1 hc with rfl | hc
      ·cases c<;>first | rfl | simp[I4]at hkey
      ·obtain⟨q,hq'⟩:=List.mem_iff_getElem?.1 hc
       have hlt:=(List.getElem?_eq_some_iff.1 hq').1
       exact (c2 q c ((a.eval z).cells[q]'(by omega)) hq' (by simp)).2
     ·show Uv (Aj j.desc) (a.eval z)
      rw[←hag]
      cases hda:d.isAgg with
      | true=>
       cases d<;>simp[D.isAgg]at hda
       obtain⟨vs,hvs⟩:=MN (g:=g) (h:=σh) (y:=.d (.agg _)) rfl hz
       exact⟨vs,hvs⟩
      | false=>exact hz.Bq hda
    have e1:=DG hti hq w
    rw[hdd]at e1
    have e2:=DG hti hkk w
    have e4:∀b,(Instr.checkKey b 10000 kt (a.eval y)).run C.P w= .ok () w:=fun b=>Kr (hti kt kk hkk).1 hkey hy b 9999
    have e5:=MT (P:=C.P) g2
    have fin:∀(m':Array MapEntry) (clock':Nat),(∀en∈m',en.born<clock')→Dq w (BG (zone g σh) C.X) (Aj j.desc) (j.size+1) rows' m'.toList→(execOp a.eval o).run C.P w= .ok .skip {w with heap:=w.heap.setIfInBounds b (.map m' clock')}→
      o.wp C.P a w (fun a' w'=>Rel C (fun n=>F n∧¬(fresh≤n∧n<fresh+32)) (Dg σs o.dst .u) (BJ σh [(id,.tree (.fmap (Aj j.desc)) true (j.size+1) rows' none)]) a' w') Q:=by
     intro m' clock' f1 f2 f3
     unfold Oper.wp
     rw[f3]
     have R':=R.fO (hσ.trans hid) g1 g2 f1 f2
     exact⟨g,(R'.put (dst:=o.dst) (v:=.u) (u:=undef) (fun d e=>by rw[hd]at e;cases e) trivial).A0 (fun n hn=>hn.1)⟩
    rcases U4 hkey hy hnew 0 g4 hput with⟨h1,h2⟩ | ⟨q',en,h1,h2,h3,h4⟩
    ·refine fin (m.push ⟨a.eval y,a.eval z,clock⟩) (clock+1) (fun en hen=>?_) (by simpa using h2 clock) ?_
     ·rcases Array.mem_push.1 hen with hen | rfl
      ·have:=g3 en hen;omega
      ·exact Nat.lt_succ_self _
     ·have:=MU (P:=C.P) (.map (m.push ⟨a.eval y,a.eval z,clock⟩) (clock+1)) g2
      simp[execOp,ho,Instr.mapUpdate,e1,hv,e5,e4,Instr.findKey,e2,h1,this]
    ·have hlt:=(List.getElem?_eq_some_iff.1 h1).1
     have hlt':q'<m.size:=by simpa using hlt
     have hmod:(m.modify q' fun e=>{e with key:=a.eval y,val:=a.eval z}).toList=m.toList.set q' {en with key:=a.eval y,val:=a.eval z}:=by
      apply List.ext_getElem?
      intro i
      rw[Array.getElem?_toList,Array.getElem?_modify,List.getElem?_set]
      by_cases hi:q'=i
      ·subst hi
       have:m[q']?=some en:=by simpa using h1
       have h9:m[q']=en:=(Array.getElem?_eq_some_iff.1 this).2
       simp[this,hlt',h9]
      ·simp[hi]
     refine fin (m.modify q' fun e=>{e with key:=a.eval y,val:=a.eval z}) clock (fun en' hen=>?_) (by rw[hmod];exact h4) ?_
     ·have hen:=Array.mem_toList_iff.2 hen
      rw[hmod]at hen
      rcases List.mem_or_eq_of_mem_set hen with hen | rfl
      ·exact g3 en' (Array.mem_toList_iff.1 hen)
      ·exact g3 en (Array.mem_toList_iff.1 (List.mem_of_getElem? h1))
     ·have:=MU (P:=C.P) (.map (m.modify q' fun e=>{e with key:=a.eval y,val:=a.eval z}) clock) g2
      have hq'':m[q']?=some en:=by simpa using h1
      simp only[Nat.zero_add]at h2
      simp[execOp,ho,Instr.mapUpdate,e1,hv,e5,e4,Instr.findKey,e2,h2,hq'',Instr.keyThatStays,h3,this]
   ·exact hk.elim
  ·exact hk.elim
 ·exact hk.elim
def Yx (P:Program) (n:FuncId):Prop:=∃fn,P.funcs[n]?=some fn∧(fn.name== "runtime.NumGoroutine")=false∧fn.body.isNone=true∧Extern.findNext fn=none∧Extern.find fn=some add64Entry
def cG (M:BO) (f:AV) (args:List AV) (k:Out→Prop):Prop:=
 match f with
 | .v (.c (.fn n cap))=>match cap with
  | []=>match Ix args with
   | some xs=>match xs with
    | [.d (.int .u64 x),.d (.int .u64 y),.d (.int .u64 c)]=>(M.lock fun _=>Yx M.P n∧0≤x∧0≤y∧0≤c∧c≤1)∧∃z u:Int,(x+y+c) % 18446744073709551616=z∧(x+y+c) / 18446744073709551616=u∧k ⟨.t [.d (.int .u64 z),.d (.int .u64 u)],[],[]⟩
    | _=>False
   | none=>False
  | _=>False
 | _=>False
end
end Go.AM
namespace Go.AM
open Go Go.RowKit
section
variable {C:Cx}{F:Nat→Prop}{s:AR}{h:Heap}{g:AW}{a:Act}{w:World}{ti:Types}
theorem U6 {Z:Aq}{ag:Bool}{sz:Nat}{rows:List D}{gv:Value}(r:BX w Z g h (.tree .flat ag sz rows none) gv):
  isTu gv∧0<sz∧(∀r∈rows,r.fits ag sz)∧∃xs,CK w .flat sz (gval gv) rows.length xs∧
   (∀(i:Nat) r (j:Nat) c,rows[i]?=some r→r.cells[j]?=some c→∃u,xs[i*sz+j]?=some u∧Ad w Z c u)∧∀b,B7 gv b↔blk (gval gv)=some b:=by
 obtain⟨ht,h0,hf,xs,hx,_,U,T,h1,h2,h3,h4,h5⟩:=r
 have nT:∀i j b',¬T i j b':=by
  intro i j b' hT
  obtain⟨_,r,c,p1,p2⟩:=h2 i j b' hT
  exact ((Ch.fz rfl).1 (h1 i r j c (fun _ _ h=>by cases h) p1 p2).2).2 b' hT
 refine⟨ht,h0,hf,xs,hx,fun i r j c hr hc=>?_,fun b=>?_⟩
 ·obtain⟨p1,p2⟩:=h1 i r j c (fun _ _ h=>by cases h) hr hc
  exact⟨_,p1,((Ch.fz rfl).1 p2).1.1⟩
 ·rw[h5]
  exact⟨fun h=>h.elim id fun⟨i,j,h⟩=>(nT i j b h).elim,.inl⟩
theorem U7 {Z:Aq}{ag:Bool}{sz:Nat}{rows:List D}{gv:Value}(ht:isTu gv) (h0:0<sz) (hf:∀r∈rows,r.fits ag sz) {xs:List Value}(hx:CK w .flat sz (gval gv) rows.length xs)
  (hc:∀(i:Nat) r (j:Nat) c,rows[i]?=some r→r.cells[j]?=some c→∃u,xs[i*sz+j]?=some u∧Ad w Z c u) (hb:∀b,B7 gv b↔blk (gval gv)=some b):BX w Z g h (.tree .flat ag sz rows none) gv:=by
 refine⟨ht,h0,hf,xs,hx,(fun _ _ h=>by cases h),fun i j=>xs.getD (i*sz+j) undef,fun _ _ _=>False,fun i r j c _ hr hj=>?_,(fun _ _ _ h=>h.elim),(fun _ _ _ h=>h.elim),(fun _ _ _ _ _ h=>h.elim),fun b=>?_⟩
 ·obtain⟨u,hu,hd⟩:=hc i r j c hr hj
  have e1:xs.getD (i*sz+j) undef=u:=by simp[hu]
  show xs[i*sz+j]?=some (xs.getD (i*sz+j) undef)∧Ch w Z .flat c (xs.getD (i*sz+j) undef) _
  rw[e1]
  exact⟨hu,(Ch.fz rfl).2 ⟨⟨hd,(hf r (List.mem_of_getElem? hr)).2.2 c (List.mem_of_getElem? hj)⟩,fun _ h=>h⟩⟩
 ·rw[hb]
  exact⟨.inl,fun h=>h.elim id fun⟨_,_,h⟩=>h.elim⟩
theorem Ac.Wt (R:Ac C F s h g a w) {id:Id}{ag:Bool}{sz k:Nat}{rows:List D}{r:D}(hid:h id=some (.tree .flat ag sz rows none)) (hr:rows[k]?=some r)
  {b o:Nat} (hb:blk (gval (g id))=some b) {ds:List D} {vals:List Value} (hl:vals.length=ds.length) (ho:o+ds.length≤r.cells.length)
  (hd:∀(j:Nat) x u,ds[j]?=some x→vals[j]?=some u→Ad w (BG (zone g h) C.X) x u) (hda:∀d∈ds,d.isAgg=false) {rows':List D} (hrows:rows.set k (rowOf ag (r.cells.take o++ds++r.cells.drop (o+ds.length)))=rows'):
  ∃c e,w.heap[b]?=some (.cells c e (0,0))∧k*sz+o+vals.length≤c.size∧
   Ac C F s (AO h id (.tree .flat ag sz rows' none)) g a (w.setRow b (c.toList.take (k*sz+o)++vals++c.toList.drop (k*sz+o+vals.length)).toArray):=by
 obtain⟨ht,h0,hf,xs,hx,hcell,hbl⟩:=U6 (R.heap.objs id _ hid)
 obtain⟨f1,f2,f3⟩:=hf r (List.mem_of_getElem? hr)
 have hk:=(List.getElem?_eq_some_iff.1 hr).1
 obtain⟨b',c,e,e1,e2,e3,e4,e5⟩:=hx.block rfl (by omega)
 rw[hb]at e1
 cases e1
 have hlt:k*sz+sz≤rows.length*sz:=by
  have:=Nat.mul_le_mul_right sz (show k+1≤rows.length from hk)
  rw[Nat.add_mul]at this
  omega
 have hsp:k*sz+o+vals.length≤c.size:=by omega
 let c':Array Value:=(c.toList.take (k*sz+o)++vals++c.toList.drop (k*sz+o+vals.length)).toArray
 have hc':c'.size=c.size:=by simp[c'];omega
 have hget:∀j,c'[j]?=if k*sz+o≤j∧j<k*sz+o+vals.length then vals[j - (k*sz+o)]? else c[j]?:=by
  intro j
  have:=DA c.toList vals (k*sz+o) (by simpa using hsp) j
  simp only[c',List.getElem?_toArray]
  rw[this]
  simp
 have hxs:∀j,xs[j]?=if j<rows.length*sz then c[j]? else none:=by
  intro j
  rw[←e4,List.getElem?_take]
  split
  ·simp
  ·rfl
 have hxs':∀j,(c'.toList.take (rows.length*sz))[j]?=if j<rows.length*sz then c'[j]? else none:=by
  intro j
  rw[List.getElem?_take]
  split
  ·simp
  ·rfl
 let row:List D:=r.cells.take o++ds++r.cells.drop (o+ds.length)
 have hrl:row.length=sz:=by simp[row];omega
 have hra:∀d∈row,d.isAgg=false:=by
  intro d hd'
  simp only[row,List.mem_append]at hd'
  rcases hd' with (hd' | hd') | hd'
  ·exact f3 d (List.mem_of_mem_take hd')
  ·exact hda d hd'
  ·exact f3 d (List.mem_of_mem_drop hd')
 obtain⟨rc,ra⟩:=Gs (ag:=ag) hra (fun e'=>by
  subst e'
  have:r.cells=[r]:=by
   cases r<;>first | rfl | simp[D.isAgg]at f1
  rw[this]at f2
  rw[hrl,←f2];rfl)
 have hlen:rows'.length=rows.length:=by rw[←hrows];simp
 have hf':∀r∈rows',r.fits ag sz:=by
  intro r' hr'
  rw[←hrows]at hr'
  rcases List.mem_or_eq_of_mem_set hr' with hr' | rfl
  ·exact hf r' hr'
  ·exact⟨ra,by rw[rc];exact hrl,by rw[rc];exact hra⟩
 refine⟨c,e,e2,hsp,R.Yj hid (fun o'=>(hbl b).2 hb) (fun _ _ hz=>hz) (fun _=>rfl) (fun _ _ _ h=>by cases h) e2 (fun E=>?_)⟩
 refine U7 ht h0 hf' (xs:=c'.toList.take (rows.length*sz)) (by rw[hlen];exact e5 c' hc') (fun i r' j x hi hj=>?_) hbl
 have hil:i<rows.length:=by rw[←hlen];exact (List.getElem?_eq_some_iff.1 hi).1
 have hjl:j<sz:=by rw[←(hf' r' (List.mem_of_getElem? hi)).2.1];exact (List.getElem?_eq_some_iff.1 hj).1
 have hpos:i*sz+j<rows.length*sz:=by
  have:=Nat.mul_le_mul_right sz (show i+1≤rows.length from hil)
  rw[Nat.add_mul]at this
  omega
 rw[hxs',if_pos hpos,hget]
 by_cases hik:i=k
 ·subst hik
  rw[←hrows,List.getElem?_set_self hk]at hi
  cases hi
  have hj:row[j]?=some x:=by rw[←rc];exact hj
  rw[show row=r.cells.take o++ds++r.cells.drop (o+ds.length)from rfl,DA r.cells ds o ho j]at hj
  by_cases hin:o≤j∧j<o+ds.length
  ·rw[if_pos hin]at hj
   rw[if_pos (by omega)]
   have hlt2:j - o<vals.length:=by omega
   refine⟨vals[j - o],?_,E.Gi (hd (j - o) x _ hj (List.getElem?_eq_getElem hlt2))⟩
   rw[←List.getElem?_eq_getElem hlt2]
   congr 1
   omega
  ·rw[if_neg hin]at hj
   rw[if_neg (by omega)]
   obtain⟨u,q1,q2⟩:=hcell i r j x hr hj
   rw[hxs,if_pos hpos]at q1
   exact⟨u,q1,E.Gi q2⟩
 ·rw[←hrows,List.getElem?_set_ne (by omega)]at hi
  rw[if_neg]
  ·obtain⟨u,q1,q2⟩:=hcell i r' j x hi hj
   rw[hxs,if_pos hpos]at q1
   exact⟨u,q1,E.Gi q2⟩
  ·rintro⟨q1,q2⟩
   rcases Nat.lt_or_gt_of_ne hik with hlt2 | hlt2
   ·have:=Nat.mul_le_mul_right sz (show i+1≤k from hlt2)
    rw[Nat.add_mul]at this
    omega
   ·have:=Nat.mul_le_mul_right sz (show k+1≤i from hlt2)
    rw[Nat.add_mul]at this
    omega
end
def aD (h:Heap) (i:Id):Bool:=
 match h i with
 | some (.tree kd _ _ _ _)=>match kd with
  | .flat=>true
  | _=>false
 | _=>false
def UG (x:AV) (h:Heap):Bool:=
 match x with
 | .v (.c (.op i _ _ _))=>aD h i
 | .v (.c (.ow i))=>aD h i
 | _=>false
def UH (x:AV) (h:Heap) (K:Id→Bool→Nat→List D→Prop):Prop:=
 match x with
 | .v (.c (.ow id))=>match h id with
  | some (.tree kd ag sz rows foc)=>match kd with
   | .flat=>match foc with
    | none=>K id ag sz rows
    | some _=>False
   | _=>False
  | _=>False
 | _=>False
def P9 (x:AV) (h:Heap) (K:Id→Bool→Nat→List D→Nat→Nat→Prop):Prop:=
 match x with
 | .v (.c (.op id sz kk o))=>match h id with
  | some (.tree kd ag sz' rows foc)=>match kd with
   | .flat=>match foc with
    | none=>B5 (Nat.beq sz' sz) (K id ag sz' rows kk o)
    | some _=>False
   | _=>False
  | _=>False
 | _=>False
def J9 (ti:Types) (t:TypeId) (x y:AV) (h:Heap) (k:Out→Prop):Prop:=
 BC ti t fun i=>EM y fun y=>match y.norm with
 | .d d=>B5 (Nat.beq d.cells.length i.size)<| P9 x h fun id ag sz rows kk o=>∃r,rows[kk]?=some r∧B5 (Nat.ble (o+i.size) r.cells.length)
   (∃rows',rows.set kk (rowOf ag (r.cells.take o++d.cells++r.cells.drop (o+i.size)))=rows'∧k ⟨.u,[id],[(id,.tree .flat ag sz rows' none)]⟩)
 | _=>False
def KA (ti:Types) (t:TypeId) (x:AV) (f:Nat) (h:Heap) (k:Out→Prop):Prop:=
 BC ti t fun i=>
 match i.desc with
 | .struct fs=>match fs[f]? with
  | some fd=>BC ti fd.type fun j=>B5 (Nat.blt 0 j.size)<| P9 x h fun id _ sz _ kk o=>k ⟨.v (.c (.op id sz kk (o+fd.offset))),[id],[]⟩
  | none=>False
 | _=>False
def KB (M:BO) (ti:Types) (t:TypeId) (x i:AV) (h:Heap) (k:Out→Prop):Prop:=
 GV i fun _ n=>BC ti t fun q=>
 match q.desc with
 | .slice e=>BC ti e fun j=>UH x h fun id _ sz rows=>B5 (Nat.beq sz j.size)<| (M.lock fun _=>0≤n∧n.toNat<rows.length)∧k ⟨.v (.c (.op id sz n.toNat 0)),[id],[]⟩
 | _=>False
section
variable {C:Cx}{ti:Types}{o:Oper}{fresh:Nat}{s:AR}{h:Heap}{k:Out→Prop}
theorem UI {x:AV}{K:Id→Bool→Nat→List D→Prop}(hk:UH x h K):∃id ag sz rows,K id ag sz rows∧h id=some (.tree .flat ag sz rows none)∧
  ∀{w:World} {Z:Aq} {g:AW} {σh:Heap} {u:Value},σh id=h id→Ar w Z g σh x u→u=gval (g id):=by
 unfold UH at hk
 split at hk
 ·rename_i id
  split at hk
  ·rename_i kd ag sz rows foc hid
   split at hk
   ·split at hk
    ·refine⟨id,ag,sz,rows,hk,hid,fun hσ hr=>hr.2.2 (by rw[hσ,hid];rfl)⟩
    ·exact hk.elim
   ·exact hk.elim
  ·exact hk.elim
 ·exact hk.elim
theorem MV {x:AV}{K:Id→Bool→Nat→List D→Nat→Nat→Prop}(hk:P9 x h K):∃id ag sz rows kk o,K id ag sz rows kk o∧h id=some (.tree .flat ag sz rows none)∧
  ∀{w:World} {Z:Aq} {g:AW} {σh:Heap} {u:Value},σh id=h id→Ar w Z g σh x u→∃b,blk (gval (g id))=some b∧u= .pointer (some ⟨b,kk*sz+o,none⟩):=by
 unfold P9 at hk
 split at hk
 ·rename_i id sz kk o
  split at hk
  ·rename_i kd ag sz' rows foc hid
   split at hk
   ·split at hk
    ·obtain⟨h1,hk1⟩:=AN.1 hk
     have h1:=Nat.eq_of_beq_eq_true h1
     subst h1
     refine⟨id,ag,sz',rows,kk,o,hk1,hid,fun hσ hr=>hr.2.2 (by rw[hσ,hid];rfl)⟩
    ·exact hk.elim
   ·exact hk.elim
  ·exact hk.elim
 ·exact hk.elim
theorem WM (hti:BN C.P ti) (t:TypeId) (x y:Operand) (ho:o.op= .store t x y) (hd:o.dst=none) (hk:J9 ti t (Aw ti s 0 x) (Aw ti s t y) h k):∃out,k out∧Bk C o fresh s h out:=by
 unfold J9 at hk
 obtain⟨i,hi,hk⟩:=AQ.1 hk
 obtain⟨yv,hyv,hk⟩:=CW.1 hk
 split at hk
 ·rename_i d hnorm
  obtain⟨hlen,hk⟩:=AN.1 hk
  have hlen:=Nat.eq_of_beq_eq_true hlen
  obtain⟨id,ag,sz,rows,kk,oo,hk,hid,hpl⟩:=MV hk
  obtain⟨r,hr,hk⟩:=hk
  obtain⟨hle,rows',hrows,hk⟩:=AN.1 hk
  have hle:=Nat.le_of_ble_eq_true hle
  refine⟨_,hk,?_⟩
  rintro F σs σh a w Q ⟨g,R⟩ hs hrd hF _
  have hσ:=hrd id (by simp)
  obtain⟨b,hb,hu⟩:=hpl hσ (AY ti 0 x R (s:=s) (fun k hk=>hs k (by subst hk;simp[ho,Op.operands])))
  have hy:=AY ti t y R (s:=s) (fun k hk=>hs k (by subst hk;simp[ho,Op.operands]))
  rw[hyv]at hy
  have hy:=Ak.norm (show Ak w _ g σh yv (a.eval y)from hy)
  rw[hnorm]at hy
  have hy:Ad w (BG (zone g σh) C.X) d (a.eval y):=hy
  obtain⟨c1,c2⟩:=hy.cellsOf
  have hda:∀x∈d.cells,x.isAgg=false:=by
   intro x hx
   obtain⟨j,hj⟩:=List.mem_iff_getElem?.1 hx
   have hlt:=(List.getElem?_eq_some_iff.1 hj).1
   exact (c2 j x ((a.eval y).cells[j]'(by omega)) hj (by simp)).2
  have hone:∀v∈(a.eval y).cells.toList,v.oneCell'=true:=by
   intro v hv
   obtain⟨j,hj⟩:=List.mem_iff_getElem?.1 hv
   have hlt:=(List.getElem?_eq_some_iff.1 hj).1
   simp at hlt hj
   obtain⟨q1,q2⟩:=c2 j (d.cells[j]'(by omega)) v (by simp) (by simpa using hj)
   exact q1.Bq q2
  obtain⟨c,e,p1,p2,R'⟩:=R.Wt (o:=oo) (rows':=rows') (hσ.trans hid) hr hb (ds:=d.cells) (vals:=(a.eval y).cells.toList) (by simpa using c1) (by omega) (fun j x u h1 h2=>(c2 j x u h1 (by simpa using h2)).1) hda (by rw[hlen];exact hrows)
  unfold Oper.wp
  rw[ML hti hi ho hu p1 (by rw[c1,hlen]) (by simp at p2;omega) hone]
  exact⟨g,(R'.put (dst:=o.dst) (v:=.u) (u:=undef) (fun d e=>by rw[hd]at e;cases e) trivial).A0 (fun n hn=>(hn:F n∧_).1)⟩
 ·exact hk.elim
theorem WN (hti:BN C.P ti) (t:TypeId) (x:Operand) (f:Nat) (ho:o.op= .fieldAddr t x f) (hk:KA ti t (Aw ti s 0 x) f h k):∃out,k out∧Bk C o fresh s h out:=by
 unfold KA at hk
 obtain⟨i,hi,hk⟩:=AQ.1 hk
 split at hk
 ·rename_i fs hfs
  split at hk
  ·rename_i fd hfd
   obtain⟨j,hj,hk⟩:=AQ.1 hk
   obtain⟨hpos,hk⟩:=AN.1 hk
   have hpos:j.size≠0:=by
    have:0<j.size:=by simpa using hpos
    omega
   obtain⟨id,ag,sz,rows,kk,oo,hk,hid,hpl⟩:=MV hk
   refine⟨_,hk,AL fun F σs σh g a w R hs hrd=>?_⟩
   have hσ:=hrd id (by simp)
   obtain⟨b,hb,hu⟩:=hpl hσ (AY ti 0 x R (s:=s) (fun k hk=>hs k (by subst hk;simp[ho,Op.operands])))
   refine⟨.pointer (some ⟨b,kk*sz+oo+fd.offset,none⟩),?_,rfl,(R.heap.objs id _ (hσ.trans hid)).1,fun _=>⟨b,hb,by rw[Nat.add_assoc]⟩⟩
   have h1:=DG hti hi w
   rw[hfs]at h1
   have h2:=Eb hti hj w
   simp only[execOp,ho,hu]
   refine B6 ?_
   simp[Instr.fieldAt,h1,hfd,Instr.sureAddr,fieldPlace,h2,hpos,Bw]
  ·exact hk.elim
 ·exact hk.elim
theorem CK.cA {w:World}{sz:Nat}{v:Value}{n:Nat}{xs:List Value}(h:CK w .flat sz v n xs):CK w .row sz v n xs:=h
theorem WO (hti:BN C.P ti) (t:TypeId) (x y:Operand) (ho:o.op= .indexAddr t x y) (hk:KB C.M ti t (Aw ti s t x) (Aw ti s 3 y) h k):∃out,k out∧Bk C o fresh s h out:=by
 unfold KB at hk
 obtain⟨q,n,hyv,hk⟩:=Cr.1 hk
 obtain⟨i,hi,hk⟩:=AQ.1 hk
 split at hk
 ·rename_i e hdesc
  obtain⟨j,hj,hk⟩:=AQ.1 hk
  obtain⟨id,ag,sz,rows,hk,hid,hrel⟩:=UI hk
  obtain⟨hsz,hlk,hk⟩:=AN.1 hk
  obtain⟨h0,hlt⟩:=(C.M.lock_iff _).1 hlk
  have hsz:=Nat.eq_of_beq_eq_true hsz
  refine⟨_,hk,AL fun F σs σh g a w R hs hrd=>?_⟩
  have hσ:=hrd id (by simp)
  have hv:=hrel hσ (AY ti t x R (s:=s) (fun k hk=>hs k (by subst hk;simp[ho,Op.operands])))
  have hn:=AY ti 3 y R (s:=s) (fun k hk=>hs k (by subst hk;simp[ho,Op.operands]))
  rw[hyv]at hn
  have hn:=Gg hn
  obtain⟨ht,h0',hf,xs,hx,_⟩:=U6 (R.heap.objs id _ (hσ.trans hid))
  obtain⟨A,cap,hg,hcap,hmax,hA⟩:=hx.cA.row
  obtain⟨b,rfl⟩:=hA (by omega)
  rw[hg]at hv
  refine⟨.pointer (some ⟨b,n.toNat*sz,none⟩),?_,rfl,ht,fun _=>⟨b,by rw[hg];rfl,by simp⟩⟩
  have h1:=DG hti hi w
  rw[hdesc]at h1
  have h2:=Eb hti hj w
  have h3:0≤n∧n<(rows.length:Int):=by omega
  simp only[execOp,ho]
  refine B6 ?_
  simp[Instr.indexAt,asIntOf,h1,h2,hv,hn,h3,Bw,Instr.sureAddr,hsz]
 ·exact hk.elim
end
end Go.AM
namespace Go.AM
open Go Go.RowKit
def cH:AV→Bool
 | .v (.d (.str _))=>true
 | _=>false
section
variable {C:Cx}{ti:Types}{o:Oper}{fresh:Nat}{s:AR}{h:Heap}{k:Out→Prop}
end
end Go.AM
namespace Go.AM
open Go Go.RowKit
section
variable {C:Cx}{ti:Types}{o:Oper}{fresh:Nat}{s:AR}{h:Heap}{k:Out→Prop}
theorem D8 {F:Nat→Prop}{σs:AR}{σh:Heap}{g:AW}{a:Act}{w:World}(R:Ac C F σs σh g a w):
  ∀(l:List Operand) (ts:List TypeId) (xs:List V1),(∀t,Operand.tmp t∈l→σs t=s t)→Ix (Cq ti s l ts)=some xs→
   xs.length=l.length∧∀(j:Nat) x p,xs[j]?=some x→l[j]?=some p→Ak w (BG (zone g σh) C.X) g σh x (a.eval p)
 | [],ts,xs,_,he=>by
  have:xs=[]:=by cases ts<;>simpa [Cq,Ix] using he.symm
  subst this
  exact⟨rfl,by simp⟩
 | p::l,ts,xs,hs,he=>by
  have main:∀(t:TypeId) (ts':List TypeId),Ix (Aw ti s t p::Cq ti s l ts')=some xs→
    xs.length=(p::l).length∧∀(j:Nat) x q,xs[j]?=some x→(p::l)[j]?=some q→Ak w (BG (zone g σh) C.X) g σh x (a.eval q):=by
   intro t ts' he
   unfold Ix at he
   split at he
   ·rename_i e;simp at e
   ·rename_i y r e
    simp at e
    obtain⟨e1,rfl⟩:=e
    split at he
    ·rename_i l' hl'
     simp at he
     subst he
     obtain⟨h1,h2⟩:=D8 R l ts' l' (fun t ht=>hs t (List.mem_cons_of_mem _ ht)) hl'
     refine⟨by simp[h1],fun j x q hx hq=>?_⟩
     match j with
     | 0=>
      simp at hx hq
      subst hx;subst hq
      have:=AY ti t p R (s:=s) (fun k hk=>hs k (by simp[hk]))
      rw[e1]at this
      exact Ak.norm this
     | j+1=>simp at hx hq;exact h2 j x q hx hq
    ·simp at he
   ·simp at he
  match ts with
  | []=>exact main 0 [] he
  | t::ts'=>exact main t ts' he
theorem nH (c:Call) (f:Operand) (ho:o.op= .call c) (hc:c.callee= .value f)
  (hk:cG C.M (Aw ti s 0 f) (Cq ti s c.args.toList c.argTypes.toList) k):∃out,k out∧Bk C o fresh s h out:=by
 unfold cG at hk
 split at hk
 ·rename_i n cap hop
  split at hk
  ·split at hk
   ·rename_i xs hxs
    split at hk
    ·rename_i x y cc
     obtain⟨hl,z,u,rfl,rfl,hk⟩:=hk
     obtain⟨⟨fn,f1,f2,f3,f4,f5⟩,b1,b2,b3,b4⟩:=(C.M.lock_iff _).1 hl
     refine⟨_,hk,AL fun F σs σh g a w R hs _=>?_⟩
     have hf:=AY ti 0 f R (s:=s) (fun k hk=>hs k (by subst hk;simp[ho,hc,Op.operands,Call.operands]))
     rw[hop]at hf
     obtain⟨hfv,_⟩:=hf
     obtain⟨h1,h2⟩:=D8 (ti:=ti) R c.args.toList c.argTypes.toList _ (fun t ht=>hs t (by simp[ho,hc,Op.operands,Call.operands];right;simpa using ht)) hxs
     have hsz:c.args.size=3:=by simpa using h1.symm
     obtain⟨p0,p1,p2,hargs⟩:∃p0 p1 p2,c.args=#[p0,p1,p2]:=by
      refine⟨c.args[0],c.args[1],c.args[2],?_⟩
      apply Array.ext
      ·simpa using hsz
      ·intro i h3 h4
       match i,h4 with
       | 0,_=>rfl
       | 1,_=>rfl
       | 2,_=>rfl
     rw[hargs]at h2
     have q0:a.eval p0= .int .u64 x:=by have:Ad w _ _ _:=h2 0 _ p0 rfl rfl;exact Gg (g:=g) (h:=σh) this
     have q1:a.eval p1= .int .u64 y:=by have:Ad w _ _ _:=h2 1 _ p1 rfl rfl;exact Gg (g:=g) (h:=σh) this
     have q2:a.eval p2= .int .u64 cc:=by have:Ad w _ _ _:=h2 2 _ p2 rfl rfl;exact Gg (g:=g) (h:=σh) this
     refine⟨.tuple #[.int .u64 ((x+y+cc) % 18446744073709551616),.int .u64 ((x+y+cc) / 18446744073709551616)],?_,#[.int .u64 _,.int .u64 _],rfl,rfl,fun q c u hc hu=>?_⟩
     ·have hx:=run_callFunc_extern (P:=C.P) f1 f2 f3 f4 f5 #[.int .u64 x,.int .u64 y,.int .u64 cc] w
      rw[run_add64 x y cc b1 b2 b3 b4 w]at hx
      simp[execOp,ho,resolve,hc,hfv,Deferred.ofValue,invoke,hargs,q0,q1,q2,hx,Result.andThen]
     ·match q with
      | 0=>simp at hc hu;subst hc;subst hu;exact .int _ _
      | 1=>simp at hc hu;subst hc;subst hu;exact .int _ _
      | q+2=>simp at hc
    ·exact hk.elim
   ·exact hk.elim
  ·exact hk.elim
 ·exact hk.elim
theorem Yy (c:Call) (f:Operand) (ho:o.op= .call c) (hc:c.callee= .value f)
  (hk:Iy C.M (Aw ti s 0 f) (Cq ti s c.args.toList c.argTypes.toList) fresh h k):∃out,k out∧Bk C o fresh s h out:=by
 unfold Iy at hk
 split at hk
 ·rename_i n cap hop
  unfold withArgs at hk
  split at hk
  ·rename_i xs hxs
   obtain⟨m,targs,pre,res,post,new,htrip,hargs,hlen,hnd,hpre,hkinds,hnew,hk⟩:=(C.M.lock_iff _).1 hk
   refine⟨_,hk,?_⟩
   rintro F σs σh a w Q ⟨g,R⟩ hs hrd hF hd
   have hf:=AY ti 0 f R (s:=s) (fun k hk=>hs k (by subst hk;simp[ho,hc,Op.operands,Call.operands]))
   rw[hop]at hf
   obtain⟨hfv,hcap⟩:=hf
   obtain⟨h1,h2⟩:=D8 (ti:=ti) R c.args.toList c.argTypes.toList xs (fun t ht=>hs t (by simp[ho,hc,Op.operands,Call.operands];right;simpa using ht)) hxs
   obtain⟨fn,body,hfn,hb,hname⟩:=htrip.1
   have hrun:(execOp a.eval o).run C.P w= .ok (.enter n (c.args.map a.eval++(cap.map (fun i=>EL (g i) 0)).toArray)) w:=by
    have hn':¬fn.name= "runtime.NumGoroutine" :=by simpa using hname
    simp[execOp,ho,resolve,hc,hfv,Deferred.ofValue,invoke,callFunc,hfn,hb,hn']
   have hpre':∀(j:Nat) i o,m[j]?=some i→pre[j]?=some o→σh i=some (o.BL (Ba m fresh)):=fun j i o' hm hp=>
    (hrd i (List.mem_of_getElem? hm)).trans (hpre j i o' hm hp)
   unfold Oper.wp
   rw[hrun,Oper.upon_enter]
   refine Calls.mono (J7 (Qp:=fun r p n=>r=res∧p=post∧n=new) (Run:=fun p=>Calls C.P n (c.args.map a.eval++(cap.map (fun i=>EL (g i) 0)).toArray) w p) (vals:=c.args.map a.eval++(cap.map (fun i=>EL (g i) 0)).toArray) (dst:=o.dst) (Q:=Q) R (fun hpq hp=>hp.mono hpq) (fun X g1 _ k1 k2 k3 k4 k6=>htrip.2 w X g1 _ k1 k2 k3 k4 ?_ k6) hlen hnd hpre' ?_ hF hd (targs:=targs) ?_) ?_
   ·have:=congrArg List.length hargs
    simp[h1]at this
    simp
    omega
   ·rintro _ _ _ ⟨rfl,rfl,rfl⟩;exact⟨hkinds,hnew⟩
   rotate_left
   ·intro e w' he
    cases e with
    | returned v=>obtain⟨_,_,_,⟨rfl,rfl,rfl⟩,g2,_,he⟩:=he;exact⟨g2,he⟩
    | panicked ch=>exact he
    | outgrown=>exact he
   ·intro j x v hx hv
    rw[←hargs]at hx
    simp only[Array.getElem?_append,Array.size_map,List.getElem?_toArray]at hv
    by_cases hj:j<c.args.size
    ·rw[if_pos hj]at hv
     rw[List.getElem?_append_left (by rw[h1];simpa using hj)]at hx
     simp only[Array.getElem?_map,Option.map_eq_some_iff]at hv
     obtain⟨p,hp,rfl⟩:=hv
     exact h2 j x p hx (by simpa using hp)
    ·rw[if_neg hj]at hv
     rw[List.getElem?_append_right (by rw[h1];simpa using hj),h1]at hx
     simp only[List.getElem?_map,Option.map_eq_some_iff,Array.length_toList]at hx hv
     obtain⟨i,hi,rfl⟩:=hx
     obtain⟨i',hi',rfl⟩:=hv
     rw[hi]at hi'
     obtain rfl:i=i':=by simpa using hi'
     obtain⟨b,hb'⟩:=hcap i (List.mem_of_getElem? hi)
     exact⟨⟨b,hb'⟩,rfl⟩
  ·exact hk.elim
 ·exact hk.elim
theorem BP (hti:BN C.P ti) (h1:Bu ti) (hst:∀t x y,o.op= .store t x y→o.dst=none) (hk:Br C.M ti o fresh s h k):∃out,k out∧Bk C o fresh s h out:=by
 unfold Br at hk
 split at hk
 ·rename_i x ho;exact⟨_,hk,Uz x (.inl ho)⟩
 ·rename_i x ho;exact⟨_,hk,Uz x (.inr ho)⟩
 ·rename_i c x y ho
  obtain⟨q,hq,hk⟩:=OI.1 hk
  exact⟨_,hk,Yu c x y ho hq⟩
 ·rename_i t ho
  obtain⟨i,hi,hk⟩:=AQ.1 hk
  exact⟨_,hk,W2 hti t ho hi⟩
 ·rename_i t x ho
  obtain⟨y,hy,hk⟩:=CW.1 hk
  exact⟨_,hk,cC t x ho hy⟩
 ·rename_i t x ho;exact Yv hti h1 t x ho hk
 ·rename_i t x y ho;exact W5 hti t x y ho (hst t x y ho) hk
 ·rename_i t x f ho;exact W6 hti t x f ho hk
 ·rename_i t x y ho;exact W7 hti t x y ho hk
 ·rename_i x ho
  split at hk
  ·rename_i i q hop;exact⟨_,hk,RZ x ho hop⟩
  ·exact hk.elim
 ·rename_i op t x y t' ho;exact cE hti op t t' x y ho hk
 ·rename_i op t x ho;exact gT op t x ho hk
 ·rename_i fn first captured ho
  split at hk
  ·rename_i f hfi
   split at hk
   ·rename_i l hl;exact⟨_,hk,Ra _ first captured ho rfl hfi hl⟩
   ·exact hk.elim
  ·exact hk.elim
 ·rename_i t parts ho;exact XA hti t parts ho hk
 ·rename_i t len parts ho
  obtain⟨c,hk⟩:=hk
  cases c with
  | true=>exact Nx hti t len parts ho hk
  | false=>exact MR hti t len parts ho hk
 ·rename_i t x i ok ho;exact WL hti t x i ok ho hk
 ·rename_i t x lo hi mx ho;exact WE hti t x lo hi mx ho hk
 ·rename_i t x i ho;exact WG hti h1 t x i ho hk
 ·rename_i t x f ho;exact WD hti h1 t x f ho hk
 ·rename_i x i ho;exact UB x i ho hk
 ·rename_i a b x ho;exact UC hti a b x ho hk
 ·rename_i c ho
  split at hk
  ·rename_i hc
   split at hk
   ·rename_i x t hx ht
    refine cD hti t x ?_ hk
    obtain⟨callee,args,argTypes⟩:=c
    have e1:args=#[x]:=by apply Array.ext';simpa using hx
    have e2:argTypes=#[t]:=by apply Array.ext';simpa using ht
    subst e1;subst e2
    simp only[]at hc
    subst hc
    exact ho
   ·exact hk.elim
  ·rename_i hc
   split at hk
   ·rename_i x y t t' hx ht
    replace hk:=AN.1 hk
    obtain⟨htt,hk⟩:=hk
    have htt:=Nat.eq_of_beq_eq_true htt
    subst htt
    refine WJ hti t x y ?_ hk
    obtain⟨callee,args,argTypes⟩:=c
    have e1:args=#[x,y]:=by apply Array.ext';simpa using hx
    have e2:argTypes=#[t,t]:=by apply Array.ext';simpa using ht
    subst e1;subst e2
    simp only[]at hc
    subst hc
    exact ho
   ·exact hk.elim
  ·rename_i f hc;exact Yy c f ho hc hk
  ·exact hk.elim
 ·exact hk.elim
def MW (h:Heap) (ids rd:List Id):List (Id×AH)→(List (Id×AH)→Prop)→Prop
 | [],K=>K []
 | x::r,K=>match J2 x.1 ids with
  | true=>(match J2 x.1 rd with
   | true=>h x.1=some x.2∧MW h ids rd r K
   | false=>False)
  | false=>MW h ids rd r fun wr=>K (x::wr)
theorem MX {ids rd:List Id}:∀{wr:List (Id×AH)}{K:List (Id×AH)→Prop},MW h ids rd wr K→∃wr',K wr'∧∀σh:Heap,(∀i∈rd,J2 i ids=true→σh i=h i)→BJ σh wr'=BJ σh wr
 | [],K,hk=>⟨[],hk,fun _ _=>rfl⟩
 | x::r,K,hk=>by
  simp only[MW]at hk
  split at hk
  ·rename_i hi
   split at hk
   ·rename_i hr
    obtain⟨hx,hk⟩:=hk
    obtain⟨wr',h1,h2⟩:=MX hk
    refine⟨wr',h1,fun σh hσ=>?_⟩
    have e:AO σh x.1 x.2=σh:=by
     funext y
     simp only[AO]
     split
     ·rename_i hy
      rw[hy,hσ x.1 (Gr.1 hr) hi,hx]
     ·rfl
    show BJ σh wr'=BJ (AO σh x.1 x.2) r
    rw[e]
    exact h2 σh hσ
   ·exact hk.elim
  ·rename_i hi
   obtain⟨wr',h1,h2⟩:=MX hk
   refine⟨x::wr',h1,fun σh hσ=>?_⟩
   show BJ (AO σh x.1 x.2) wr'=BJ (AO σh x.1 x.2) r
   refine h2 _ fun i hr hi'=>?_
   have hne:i≠x.1:=by rintro rfl;rw[hi]at hi';cases hi'
   rw[show AO σh x.1 x.2 i=σh i by simp[AO,hne]]
   exact hσ i hr hi'
theorem WQ {out:Out}{wr':List (Id×AH)}{ids:List Id}(hok:Bk C o fresh s h out) (hsame:∀σh:Heap,(∀i∈out.rd,J2 i ids=true→σh i=h i)→BJ σh wr'=BJ σh out.wr):Bk C o fresh s h ⟨out.val,out.rd,wr'⟩:=by
 intro F σs σh a w Q R hs hrd hF hd
 have:=hok F σs σh a w Q R hs hrd hF hd
 rw[←hsame σh (fun i hi _=>hrd i hi)]at this
 exact this
def Yz (M:BO) (ti:Types) (o:Oper) (fresh:Nat) (s:AR) (h:Heap) (k:Out→Prop):Prop:=
 ∃ids:List Id,Br M ti o fresh s h fun out=>MW h ids out.rd out.wr fun wr=>k ⟨out.val,out.rd,wr⟩
def EN (M:BO) (ti:Types) (o:Oper) (fresh:Nat) (s:AR) (h:Heap) (k:Out→Prop):Prop:=
 match o.op with
 | .load t x=>(match Tt (Aw ti s 0 x)with
  | true=>(match UG (Aw ti s 0 x) h with
   | true=>False
   | false=>RY ti t (Aw ti s 0 x) fresh h k)
  | false=>Br M ti o fresh s h k)
 | .store t x y=>(match Tt (Aw ti s 0 x)with
  | true=>(match UG (Aw ti s 0 x) h with
   | true=>J9 ti t (Aw ti s 0 x) (Aw ti s t y) h k
   | false=>OS ti t (Aw ti s 0 x) (Aw ti s t y) fresh h k)
  | false=>Br M ti o fresh s h k)
 | .fieldAddr t x f=>(match Tt (Aw ti s 0 x)with
  | true=>(match UG (Aw ti s 0 x) h with
   | true=>KA ti t (Aw ti s 0 x) f h k
   | false=>J5 ti t (Aw ti s 0 x) f h k)
  | false=>Br M ti o fresh s h k)
 | .indexAddr t x i=>(match Tt (Aw ti s t x)with
  | true=>(match UG (Aw ti s t x) h with
   | true=>KB M ti t (Aw ti s t x) (Aw ti s 3 i) h k
   | false=>J6 M ti t (Aw ti s t x) (Aw ti s 3 i) h k)
  | false=>Br M ti o fresh s h k)
 | .nilCheck x=>(match Tt (Aw ti s 0 x)with
  | true=>(match UG (Aw ti s 0 x) h with
   | true=>False
   | false=>I0 (Aw ti s 0 x) h k)
  | false=>Br M ti o fresh s h k)
 | .buildSlice t len parts=>∃c:Bool,(match c with
  | true=>Gw ti s t len parts.toList fresh h k
  | false=>Br M ti o fresh s h k)
 | .call c=>(match c.callee with
  | .builtin .len=>(match c.args.toList,c.argTypes.toList with
   | [x],[t]=>(match Tt (Aw ti s t x)with
    | true=>(match UG (Aw ti s t x) h with
     | true=>False
     | false=>∃b:Bool,(match b with
      | true=>False
      | false=>Pz M ti t (Aw ti s t x) h k))
    | false=>Br M ti o fresh s h k)
   | _,_=>False)
  | .builtin .append=>(match c.args.toList,c.argTypes.toList with
   | [x,y],[t,t']=>∃b:Bool,(match b with
    | true=>B5 (Nat.beq t t') (∃c:Bool,(match c with
     | true=>False
     | false=>False))
    | false=>(match cH (Aw ti s t' y)with
     | true=>False
     | false=>Br M ti o fresh s h k))
   | _,_=>False)
  | .value f=>cG M (Aw ti s 0 f) (Cq ti s c.args.toList c.argTypes.toList) k∨(MK h (fun h'=>Br M ti o fresh s h') k∨Yz M ti o fresh s h k)
  | .builtin .min=>(match c.args.toList,c.argTypes.toList with
   | [x,y],[t,t']=>Fo true (Aw ti s t x) (Aw ti s t' y) k
   | _,_=>False)
  | .builtin .max=>(match c.args.toList,c.argTypes.toList with
   | [x,y],[t,t']=>Fo false (Aw ti s t x) (Aw ti s t' y) k
   | _,_=>False)
  | _=>False)
 | .makeSlice t x y=>False
 | .lookup t x y ok=>(match Tt (Aw ti s t x)with
  | true=>IQ M ti t (Aw ti s t x) (Aw ti s 0 y) ok h k
  | false=>Br M ti o fresh s h k)
 | .mapUpdate t x y z=>IT M ti t (Aw ti s t x) (Aw ti s 0 y) (Aw ti s 0 z) h k
 | .makeMap t r=>(match r with
  | none=>Gx ti t fresh k
  | some _=>False)
 | .binOp op t x y _=>(match XC (Aw ti s t x)with
  | true=>False
  | false=>(match Tt (Aw ti s t x)with
   | true=>False
   | false=>Br M ti o fresh s h k))
 | .convert a b x=>(match XD (Aw ti s a x)with
  | true=>Br M ti o fresh s h k
  | false=>False)
 | _=>Br M ti o fresh s h k
theorem Gy (hti:BN C.P ti) (h1:Bu ti) (hst:∀t x y,o.op= .store t x y→o.dst=none) (hst2:∀t x y z,o.op= .mapUpdate t x y z→o.dst=none) (hk:EN C.M ti o fresh s h k):∃out,k out∧Bk C o fresh s h out:=by
 unfold EN at hk
 split at hk
 ·rename_i t x ho
  split at hk
  ·split at hk
   ·contradiction
   ·exact W9 hti h1 t x ho hk
  ·exact BP hti h1 hst hk
 ·rename_i t x y ho
  split at hk
  ·split at hk
   ·exact WM hti t x y ho (hst t x y ho) hk
   ·exact V9 hti t x y ho (hst t x y ho) hk
  ·exact BP hti h1 hst hk
 ·rename_i t x f ho
  split at hk
  ·split at hk
   ·exact WN hti t x f ho hk
   ·exact WA hti t x f ho hk
  ·exact BP hti h1 hst hk
 ·rename_i t x y ho
  split at hk
  ·split at hk
   ·exact WO hti t x y ho hk
   ·exact WB hti t x y ho hk
  ·exact BP hti h1 hst hk
 ·rename_i x ho
  split at hk
  ·split at hk
   ·contradiction
   ·exact P3 x ho hk
  ·exact BP hti h1 hst hk
 ·rename_i t len parts ho
  obtain⟨c,hk⟩:=hk
  cases c with
  | true=>exact MS hti h1 t len parts ho hk
  | false=>exact BP hti h1 hst hk
 ·rename_i c ho
  split at hk
  ·rename_i hc
   split at hk
   ·rename_i x t hx ht
    split at hk
    ·have ho':o.op= .call {callee:=.builtin .len,args:=#[x],argTypes:=#[t]}:=by
      obtain⟨callee,args,argTypes⟩:=c
      have e1:args=#[x]:=by apply Array.ext';simpa using hx
      have e2:argTypes=#[t]:=by apply Array.ext';simpa using ht
      subst e1;subst e2
      simp only[]at hc
      subst hc
      exact ho
     split at hk
     ·contradiction
     obtain⟨b,hk⟩:=hk
     cases b with
     | true=>contradiction
     | false=>exact Yw hti t x ho' hk
    ·exact BP hti h1 hst hk
   ·exact hk.elim
  ·rename_i hc
   split at hk
   ·rename_i x y t t' hx ht
    obtain⟨b,hk⟩:=hk
    cases b with
    | true=>
     replace hk:=AN.1 hk
     obtain⟨htt,hk⟩:=hk
     have htt:=Nat.eq_of_beq_eq_true htt
     subst htt
     have ho':o.op= .call {callee:=.builtin .append,args:=#[x,y],argTypes:=#[t,t]}:=by
      obtain⟨callee,args,argTypes⟩:=c
      have e1:args=#[x,y]:=by apply Array.ext';simpa using hx
      have e2:argTypes=#[t,t]:=by apply Array.ext';simpa using ht
      subst e1;subst e2
      simp only[]at hc
      subst hc
      exact ho
     obtain⟨c',hk⟩:=hk
     cases c' with
     | true=>contradiction
     | false=>contradiction
    | false=>
     have ho':o.op= .call {callee:=.builtin .append,args:=#[x,y],argTypes:=#[t,t']}:=by
      obtain⟨callee,args,argTypes⟩:=c
      have e1:args=#[x,y]:=by apply Array.ext';simpa using hx
      have e2:argTypes=#[t,t']:=by apply Array.ext';simpa using ht
      subst e1;subst e2
      simp only[]at hc
      subst hc
      exact ho
     have hz:=hk
     dsimp only at hz
     split at hz
     ·contradiction
     ·exact BP hti h1 hst hz
   ·exact hk.elim
  ·rename_i f hc
   rcases hk with hk | ⟨gs,hk⟩ | ⟨ids,hk⟩
   ·exact nH c f ho hc hk
   ·exact E4 hk (fun h' k' hk'=>BP hti h1 hst hk')
   ·obtain⟨out,hk,hok⟩:=BP hti h1 hst hk
    obtain⟨wr',hk,hsame⟩:=MX hk
    exact⟨_,hk,WQ hok hsame⟩
  ·rename_i hc
   split at hk
   ·rename_i x y t t' hx ht
    refine OY true t t' x y ?_ hk
    obtain⟨callee,args,argTypes⟩:=c
    have e1:args=#[x,y]:=by apply Array.ext';simpa using hx
    have e2:argTypes=#[t,t']:=by apply Array.ext';simpa using ht
    subst e1;subst e2
    simp only[]at hc
    subst hc
    exact ho
   ·exact hk.elim
  ·rename_i hc
   split at hk
   ·rename_i x y t t' hx ht
    refine OY false t t' x y ?_ hk
    obtain⟨callee,args,argTypes⟩:=c
    have e1:args=#[x,y]:=by apply Array.ext';simpa using hx
    have e2:argTypes=#[t,t']:=by apply Array.ext';simpa using ht
    subst e1;subst e2
    simp only[]at hc
    subst hc
    exact ho
   ·exact hk.elim
  ·exact hk.elim
 ·rename_i t x y ho
  contradiction
 ·rename_i t x y ok ho
  split at hk
  ·exact UE hti t x y ok ho hk
  ·exact BP hti h1 hst hk
 ·rename_i t x y z ho
  exact UF hti t x y z ho (hst2 t x y z ho) hk
 ·rename_i t r ho
  split at hk
  ·exact Rr hti t ho hk
  ·exact hk.elim
 ·rename_i op t x y t' ho
  split at hk
  ·contradiction
  ·split at hk
   ·contradiction
   ·exact BP hti h1 hst hk
 ·rename_i a b x ho
  split at hk
  ·exact BP hti h1 hst hk
  ·contradiction
 ·exact BP hti h1 hst hk
end
end Go.AM
namespace Go.AM
open Go Go.RowKit
structure St where
 slots:List (Nat×AV)
 heap:List (Id×AH)
 next:Nat
def AX:List (Id×AH)→Heap
 | [],_=>none
 | (k,v)::r,i=>match Id.beq k i with
  | true=>some v
  | false=>AX r i
def Dr:List (Id×AH)→Id→AH→List (Id×AH)
 | [],i,o=>[(i,o)]
 | (k,v)::r,i,o=>match Id.beq k i with
  | true=>(i,o)::r
  | false=>(k,v)::Dr r i o
def Ez (l:List (Id×AH)):List (Id×AH)→List (Id×AH)
 | []=>l
 | (i,o)::r=>Ez (Dr l i o) r
def D9 (l:List (Nat×AV)) (d:Option Tmp) (v:AV):List (Nat×AV):=
 match d with
 | some d=>(d,v)::l
 | none=>l
theorem DK (k:Nat) (v:AV) (l:List (Nat×AV)):Ab ((k,v)::l)=fun t=>if t=k then v else Ab l t:=by
 funext t
 show (match Nat.beq k t with | true=>v | false=>Ab l t)=_
 cases hb:Nat.beq k t with
 | true=>rw[if_pos (Nat.eq_of_beq_eq_true hb).symm]
 | false=>rw[if_neg (fun e=>Nat.ne_of_beq_eq_false hb e.symm)]
theorem DL (l:List (Nat×AV)) (d:Option Tmp) (v:AV):Ab (D9 l d v)=Dg (Ab l) d v:=by
 cases d with
 | none=>rfl
 | some d=>exact DK d v l
theorem CY (k:Id) (v:AH) (l:List (Id×AH)):AX ((k,v)::l)=AO (AX l) k v:=by
 funext i
 show (match Id.beq k i with | true=>some v | false=>AX l i)=if i=k then some v else AX l i
 cases hb:Id.beq k i with
 | true=>rw[if_pos (Id.beq_iff.1 hb).symm]
 | false=>rw[if_neg (fun e=>Id.beq_false.1 hb e.symm)]
theorem DM (l:List (Id×AH)) (i:Id) (o:AH):AX (Dr l i o)=AO (AX l) i o:=by
 induction l with
 | nil=>exact CY i o []
 | cons x l ih=>
  obtain⟨k,v⟩:=x
  unfold Dr
  cases hb:Id.beq k i with
  | true=>
   have:=Id.beq_iff.1 hb
   subst this
   simp only[CY]
   funext j
   simp only[AO]
   split<;>rfl
  | false=>
   have:=Id.beq_false.1 hb
   simp only[CY,ih]
   funext j
   simp only[AO]
   by_cases h1:j=k
   ·subst h1;simp[this]
   ·simp[h1]
theorem EX (wr:List (Id×AH)):∀l:List (Id×AH),AX (Ez l wr)=BJ (AX l) wr:=by
 induction wr with
 | nil=>intro l;rfl
 | cons x wr ih=>
  intro l
  show AX (Ez (Dr l x.1 x.2) wr)=BJ (AO (AX l) x.1 x.2) wr
  rw[ih,DM]
def GY (nt:Nat) (d:Option Tmp) (K:Prop):Prop:=
 match d with
 | none=>K
 | some d=>B5 (Nat.blt d nt) K
def E6 (o:Oper) (K:Prop):Prop:=
 match o.op with
 | .store ..=>match o.dst with
  | some _=>False
  | none=>K
 | .mapUpdate ..=>match o.dst with
  | some _=>False
  | none=>K
 | .defer _=>False
 | _=>K
def QA (h:Heap):AV→Option (List D)
 | .v (.d (.list _ _ rows))=>some rows
 | .v (.c (.lst _ _ _ rows))=>some rows
 | .v (.c (.tl _ _ rows))=>some rows
 | .v (.c (.ow i))=>match h i with
  | some (.tree kd _ _ rows _)=>match kd with
   | .row=>some rows
   | .flat=>some rows
   | _=>none
  | _=>none
 | _=>none
def QB:AV→Bool
 | .v (.c (.nils _ _))=>true
 | _=>false
def rJ:BinOp→Option Bool
 | .eql=>some true
 | .neq=>some false
 | _=>none
def QC (ti:Types) (o:Oper) (s:AR) (h:Heap):Option (Bool×List D):=
 match o.op with
 | .binOp op t x y _=>match rJ op with
  | some e=>match QB (Aw ti s t y)with
   | true=>(match QA h (Aw ti s t x)with
    | some rows=>some (e,rows)
    | none=>none)
   | false=>match QB (Aw ti s t x)with
    | true=>(match QA h (Aw ti s t y)with
     | some rows=>some (e,rows)
     | none=>none)
    | false=>none
  | none=>none
 | _=>none
def QD (ti:Types) (o:Oper):Bool:=
 match o.op with
 | .binOp _ t _ _ _=>match ti t with
  | some i=>match i.desc with
   | .slice _=>true
   | _=>false
  | none=>false
 | _=>false
def CL (C:Cx) (σ:St) (a:Act) (w:World):Prop:=Rel C (fun n=>σ.next≤n) (Ab σ.slots) (AX σ.heap) a w
def CH (σ σ':St):Prop:=∀C a w,CL C σ a w→CL C σ' a w
def KC (o:Oper):Bool:=
 match o.op with
 | .call c=>match c.callee with
  | .value _=>true
  | _=>false
 | _=>false
def U8 (h:Heap) (r:Id→Id) (m:List Id) (pre:List AH):Prop:=∀(j:Nat) i o,m[j]?=some i→pre[j]?=some o→h i=some (o.BL r)
def aE (r:Id→Id) (sl:List (Nat×AV)):List (Nat×AV):=sl.map fun x=>(x.1,x.2.BL r)
def UJ (M:BO) (dst:Option Tmp) (fresh:Nat) (σ:St) (n:FuncId) (xs:List V1) (K:St→Prop):Prop:=
 ∃(m:List Id) (targs:List V1) (pre:List AH) (Q:AV→List AH→List AH→Prop),Dh M.P M.I n targs pre Q∧xs=targs.map (V1.BL (Ba m fresh))∧m.length=pre.length∧m.Nodup∧
  U8 (AX σ.heap) (Ba m fresh) m pre∧∀res post new,Q res post new→(CC pre post∧new.length≤31)∧
   K ⟨D9 σ.slots dst (res.BL (Ba m fresh)),Ez σ.heap (OE m (Ba m fresh) post++DJ fresh (Ba m fresh) 0 new),σ.next⟩
def XF (M:BO) (dst:Option Tmp) (fresh:Nat) (σ:St) (i:Id) (r:Unit→RF) (sl:List (Nat×AV)) (xs:List V1) (K:St→Prop):Prop:=
 ∃(m:List Id) (targs:List V1) (pre:List AH) (sl0:List (Nat×AV)) (Q:Jump→List AH→List AH→Prop),DI M.P M.I (r ()) sl0 targs pre Q∧xs=targs.map (V1.BL (Ba (m++[i]) fresh))∧
  sl=aE (Ba (m++[i]) fresh) sl0∧m.length=pre.length∧(m++[i]).Nodup∧U8 (AX σ.heap) (Ba (m++[i]) fresh) m pre∧∀j post new,Q j post new→(CC pre post∧new.length≤31)∧
   K ⟨D9 σ.slots dst (.v (.d (.bool j.isNone))),Ez σ.heap (OE (m++[i]) (Ba (m++[i]) fresh) (post++[Dp j r sl0])++DJ fresh (Ba (m++[i]) fresh) 0 new),σ.next⟩
def U9 (M:BO) (ti:Types) (o:Oper) (fresh:Nat) (σ:St) (K:St→Prop):Prop:=
 match o.op with
 | .call c=>match c.callee with
  | .value f=>∃σ',CH ⟨σ.slots,σ.heap,fresh⟩ σ'∧σ'.next=fresh∧(match Aw ti (Ab σ'.slots) 0 f with
   | .v (.c (.fn n cap))=>withArgs (Cq ti (Ab σ'.slots) c.args.toList c.argTypes.toList) fun xs=>UJ M o.dst fresh σ' n (xs++cap.map fun i=>V1.c (.ptr i 0)) K
   | .v (.c (.yl i))=>withArgs (Cq ti (Ab σ'.slots) c.args.toList c.argTypes.toList) fun xs=>(match AX σ'.heap i with
    | some (.rnd r sl)=>XF M o.dst fresh σ' i r sl xs K
    | _=>False)
   | _=>False)
  | _=>False
 | _=>False
def aF:CV→Bool
 | .ow _=>true
 | .sl _ _=>true
 | _=>false
def Y2 {α:Type}(p:α→Bool):List α→Bool
 | []=>false
 | x::r=>match p x with
  | true=>true
  | false=>Y2 p r
def VA:AV→Bool
 | .v (.c c)=>aF c
 | .v (.agg cs)=>Y2 aF cs
 | _=>false
def aG:D→Bool
 | .list _ _ _=>true
 | _=>false
def aH:CV→Bool
 | .d x=>aG x
 | .lst _ _ _ _=>true
 | .tl _ _ _=>true
 | _=>false
def gU:AV→Bool
 | .v (.d x)=>Y2 aG x.cells
 | .v (.c c)=>aH c
 | .v (.agg cs)=>Y2 aH cs
 | _=>false
def aI:AV→Bool
 | .v (.c (.ow _))=>true
 | _=>false
def gW (ti:Types) (o:Oper) (s:AR) (h:Heap):Option Bool:=
 match o.op with
 | .slice t x _ _ _=>(match aI (Aw ti s t x)with
  | true=>some true
  | false=>none)
 | .convert t _ x=>(match aI (Aw ti s t x)with
  | true=>some true
  | false=>none)
 | .store t x y=>(match UG (Aw ti s 0 x) h with
  | true=>(match VA (Aw ti s t y)with
   | true=>some true
   | false=>none)
  | false=>(match Tt (Aw ti s 0 x)with
   | true=>(match gU (Aw ti s t y)with
    | true=>some false
    | false=>none)
   | false=>none))
 | .mapUpdate _ _ _ z=>(match VA (Aw ti s 0 z)with
  | true=>some true
  | false=>none)
 | .call c=>(match c.callee with
  | .builtin .append=>(match c.args.toList,c.argTypes.toList with
   | [x,y],[t,t']=>(match VA (Aw ti s t x)with
    | true=>some false
    | false=>(match VA (Aw ti s t' y)with
     | true=>some false
     | false=>none))
   | _,_=>none)
  | _=>none)
 | _=>none
def cI (M:BO) (ti:Types) (o:Oper) (fresh:Nat) (σ:St) (K:St→Prop):Prop:=
 ∃σ',CH ⟨σ.slots,σ.heap,fresh⟩ σ'∧σ'.next=fresh∧EN M ti o fresh (Ab σ'.slots) (AX σ'.heap) fun out=>K ⟨D9 σ'.slots o.dst out.val,Ez σ'.heap out.wr,σ'.next⟩
def nI (M:BO) (ti:Types) (o:Oper) (fresh:Nat) (σ:St) (K:St→Prop):Prop:=
 EN M ti o fresh (Ab σ.slots) (AX σ.heap) fun out=>K ⟨D9 σ.slots o.dst out.val,Ez σ.heap out.wr,σ.next⟩
def QE (M:BO) (ti:Types) (nt:Nat) (o:Oper) (fresh:Nat) (σ:St) (K:St→Prop):Prop:=
 E6 o<| GY nt o.dst<| match QC ti o (Ab σ.slots) (AX σ.heap)with
  | some (e,rows)=>B5 (QD ti o)<| (rows≠[]→K ⟨D9 σ.slots o.dst (.v (.d (.bool (EP e)))),σ.heap,σ.next⟩)∧
    (rows=[]→K ⟨D9 σ.slots o.dst (.v (.d (.bool e))),σ.heap,σ.next⟩∧K ⟨D9 σ.slots o.dst (.v (.d (.bool (EP e)))),σ.heap,σ.next⟩)
  | none=>match KC o with
   | true=>M.lock fun _=>(EN M ti o fresh (Ab σ.slots) (AX σ.heap) fun out=>K ⟨D9 σ.slots o.dst out.val,Ez σ.heap out.wr,σ.next⟩)∨U9 M ti o fresh σ K
   | false=>match gW ti o (Ab σ.slots) (AX σ.heap)with
    | none=>EN M ti o fresh (Ab σ.slots) (AX σ.heap) fun out=>K ⟨D9 σ.slots o.dst out.val,Ez σ.heap out.wr,σ.next⟩
    | some b=>match b with
     | true=>M.lock fun _=>cI M ti o fresh σ K
     | false=>M.lock fun _=>nI M ti o fresh σ K∨cI M ti o fresh σ K
def guarded (ops:Array Oper) (o:Oper) (σ:St) (K1 K0:St→Prop):Prop:=
 match o.guard with
 | none=>K1 σ
 | some (j,want)=>match (ops[j]?).bind (·.dst)with
  | none=>False
  | some d=>match Ab σ.slots d with
   | .v (.d (.bool c))=>match want with
    | true=>match c with
     | true=>K1 σ
     | false=>K0 σ
    | false=>match c with
     | true=>K0 σ
     | false=>K1 σ
   | .t []=>K0 σ
   | _=>False
def DC (M:BO) (ti:Types) (nt:Nat) (ops:Array Oper) (base:Nat):List Oper→Nat→St→(St→Prop)→Prop
 | [],i,σ,K=>K ⟨σ.slots,σ.heap,base+32*i⟩
 | o::r,i,σ,K=>guarded ops o σ
   (fun σ1=>QE M ti nt o (base+32*i) σ1 fun σ2=>DC M ti nt ops base r (i+1) σ2 K)
   (fun σ1=>GY nt o.dst (DC M ti nt ops base r (i+1) ⟨D9 σ1.slots o.dst (.t []),σ1.heap,σ1.next⟩ K))
inductive CD where
 | normal
 | exit (id:Nat)
 | ret
abbrev WR:=Array Oper→St→(St→Prop)→Prop
def VB (ex:St→(CD→St→Prop)→Prop) (σ:St) (K:CD→St→Prop):Prop:=
 ∃(I:Nat→St→Prop) (m:Nat),(∃σ0,CH σ σ0∧I m σ0)∧∀n σ1,I n σ1→ex σ1 fun e σ2=>match e with
  | .normal=>∃n' σ3,n'<n∧CH σ2 σ3∧I n' σ3
  | .exit id=>K (.exit id) σ2
  | .ret=>K .ret σ2
def Hd (ex:St→(CD→St→Prop)→Prop) (K:CD→St→Prop):Nat→St→Prop
 | 0,_=>False
 | n+1,σ=>ex σ fun e σ2=>match e with
  | .normal=>Hd ex K n σ2
  | .exit id=>K (.exit id) σ2
  | .ret=>K .ret σ2
def UK (M:BO) (ti:Types) (nt:Nat) (g:Operand) (ps:Array Tmp) (assign body:Code) (σ:St) (K:CD→St→Prop):Prop:=
 ∃σ',CH σ σ'∧(match Aw ti (Ab σ'.slots) 0 g with
  | .v (.c (.fn n cap))=>∃sl:List (Nat×AV),(∀t,Ab sl t= .u∨Ab sl t=Ab σ'.slots t)∧
    UJ M none (σ'.next+32) ⟨σ'.slots,Dr σ'.heap (.loc σ'.next) (.rnd (fun _=>⟨ps,assign,body,nt⟩) sl),σ'.next+64⟩ n (V1.c (.yl (.loc σ'.next))::cap.map fun i=>V1.c (.ptr i 0)) fun σ2=>
     match AX σ2.heap (.loc σ'.next)with
     | some (.rnd _ _)=>K .normal ⟨σ2.slots,Dr σ2.heap (.loc σ'.next) .gone,σ2.next⟩
     | some (.rndX j)=>(match j with
      | none=>K .ret ⟨σ2.slots,Dr σ2.heap (.loc σ'.next) .gone,σ2.next⟩
      | some id=>K (.exit id) ⟨σ2.slots,Dr σ2.heap (.loc σ'.next) .gone,σ2.next⟩)
     | _=>False
  | _=>False)
def Y3 (ea eb:St→(CD→St→Prop)→Prop) (σ:St) (K:CD→St→Prop):Prop:=
 (ea σ fun e σ'=>match e with
  | .normal=>eb σ' K
  | .exit id=>K (.exit id) σ'
  | .ret=>K .ret σ')∨
 ∃I:St→Prop,(ea σ fun e σ'=>match e with
  | .normal=>∃σ'',CH σ' σ''∧I σ''
  | .exit id=>K (.exit id) σ'
  | .ret=>K .ret σ')∧∀σ'',I σ''→eb σ'' K
def exec (M:BO) (ti:Types) (nt:Nat) (dr:WR):Code→St→(CD→St→Prop)→Prop
 | .skip,σ,K=>K .normal σ
 | .region _ ops draw,σ,K=>match draw with
  | false=>DC M ti nt ops σ.next ops.toList 0 σ fun σ'=>K .normal σ'
  | true=>dr ops σ fun σ'=>K .normal σ'
 | .seq a b,σ,K=>M.lock fun _=>Y3 (fun σ K=>exec M ti nt dr a σ K) (fun σ K=>exec M ti nt dr b σ K) σ K
 | .cond c a b,σ,K=>OD (Aw ti (Ab σ.slots) 0 c) fun q=>match q with
  | true=>exec M ti nt dr a σ K
  | false=>exec M ti nt dr b σ K
 | .block id c,σ,K=>exec M ti nt dr c σ fun e σ'=>match e with
  | .normal=>K .normal σ'
  | .exit id'=>match Nat.beq id' id with
   | true=>K .normal σ'
   | false=>K (.exit id') σ'
  | .ret=>K .ret σ'
 | .loop c,σ,K=>M.lock fun _=>VB (fun σ K=>exec M ti nt dr c σ K) σ K∨∃n,Hd (fun σ K=>exec M ti nt dr c σ K) K n σ
 | .exit id,σ,K=>K (.exit id) σ
 | .ret,σ,K=>K .ret σ
 | .rangeFunc g ps assign body,σ,K=>M.lock fun _=>UK M ti nt g ps assign body σ K
 | _,_,_=>False
def UL (C:Cx) (K:CD→St→Prop):Exit→Act→World→Prop
 | .normal,a,w=>∃C',D6 C C'∧∃σ,K .normal σ∧CL C' σ a w
 | .exit id,a,w=>∃C',D6 C C'∧∃σ,K (.exit id) σ∧CL C' σ a w
 | .ret,a,w=>∃C',D6 C C'∧∃σ,K .ret σ∧CL C' σ a w
 | _,_,_=>False
theorem UL.mono {C C':Cx}{K:CD→St→Prop}(L:D6 C C'):∀{e:Exit}{a:Act}{w:World},UL C' K e a w→UL C K e a w
 | .normal,_,_,⟨D,L',h⟩=>⟨D,L.trans L',h⟩
 | .exit _,_,_,⟨D,L',h⟩=>⟨D,L.trans L',h⟩
 | .ret,_,_,⟨D,L',h⟩=>⟨D,L.trans L',h⟩
theorem Rel.A0 {C:Cx}{F F':Nat→Prop}{s:AR}{h:Heap}{a:Act}{w:World}(R:Rel C F s h a w) (hF:∀n,F' n→F n):Rel C F' s h a w:=
 let ⟨g,r⟩:=R
 ⟨g,r.A0 hF⟩
section
variable {C:Cx}{ti:Types}{dr:WR}
theorem He {nt:Nat}{d:Option Tmp}{K:Prop}:GY nt d K↔(∀x,d=some x→x<nt)∧K:=by
 unfold GY
 split
 ·simp
 ·simp[AN]
theorem Ks {o:Oper}{K:Prop}(h:E6 o K):((∀t x y,o.op= .store t x y→o.dst=none)∧∀t x y z,o.op= .mapUpdate t x y z→o.dst=none)∧(∀c,o.op≠ .defer c)∧K:=by
 unfold E6 at h
 split at h
 ·rename_i ho
  split at h
  ·exact h.elim
  ·rename_i hd
   refine⟨⟨fun _ _ _ _=>hd,fun _ _ _ _ _=>hd⟩,fun c e=>?_,h⟩
   rw[ho]at e;cases e
 ·rename_i ho
  split at h
  ·exact h.elim
  ·rename_i hd
   refine⟨⟨fun _ _ _ _=>hd,fun _ _ _ _ _=>hd⟩,fun c e=>?_,h⟩
   rw[ho]at e;cases e
 ·exact h.elim
 ·rename_i hne hne2 hnd
  exact⟨⟨fun t x y e=>absurd e (hne t x y),fun t x y z e=>absurd e (hne2 t x y z)⟩,hnd,h⟩
theorem cJ {F:Nat→Prop}{σ:St}{a:Act}{w:World}{ops:Array Oper}{j d:Nat}{c:Bool}(R:Rel C F (Ab σ.slots) (AX σ.heap) a w)
  (hd:(ops[j]?).bind (·.dst)=some d) (hc:Ab σ.slots d= .v (.d (.bool c))):yielded ops a.tmps j=some c:=by
 obtain⟨g,R⟩:=R
 have:=R.slots d
 rw[hc]at this
 have hv:=Pu this
 unfold yielded
 rw[hd]
 have:a.tmps[d]?=some (.bool c):=by
  rw[Array.getD_eq_getD_getElem?]at hv
  cases h:a.tmps[d]? with
  | none=>rw[h]at hv;simp[undef]at hv
  | some v=>rw[h]at hv;simpa using hv
 simp[this]
theorem I5 {ops:Array Oper}{a:Act}{j d:Nat}(hd:(ops[j]?).bind (·.dst)=some d) (h:∃vs:Array Value,a.tmps.getD d undef= .tuple vs):yielded ops a.tmps j=none:=by
 obtain⟨vs,hv⟩:=h
 unfold yielded
 rw[hd]
 rw[Array.getD_eq_getD_getElem?]at hv
 cases h:a.tmps[d]? with
 | none=>simp[h]
 | some v=>
  rw[h]at hv
  have hv:v= .tuple vs:=by simpa using hv
  subst hv
  simp[h]
theorem Rt {F:Nat→Prop}{σ:St}{a:Act}{w:World}{ops:Array Oper}{j d:Nat}(R:Rel C F (Ab σ.slots) (AX σ.heap) a w)
  (hd:(ops[j]?).bind (·.dst)=some d) (hc:Ab σ.slots d= .t []):yielded ops a.tmps j=none:=by
 obtain⟨g,R⟩:=R
 have:=R.slots d
 rw[hc]at this
 obtain⟨vs,hv,_⟩:=this
 exact I5 hd ⟨vs,hv⟩
theorem N0 {F:Nat→Prop}{σ:St}{a:Act}{w:World}{ops:Array Oper}{o:Oper}{K1 K0:St→Prop}(R:Rel C F (Ab σ.slots) (AX σ.heap) a w)
  (hk:guarded ops o σ K1 K0):∃σ',σ'.heap=σ.heap∧Rel C F (Ab σ'.slots) (AX σ'.heap) a w∧
   ((Region.wanted o (yielded ops a.tmps)=true∧K1 σ')∨(Region.wanted o (yielded ops a.tmps)=false∧K0 σ')):=by
 unfold guarded at hk
 split at hk
 ·rename_i hg
  exact⟨σ,rfl,R,.inl ⟨by simp[Region.wanted,hg],hk⟩⟩
 ·rename_i j want hg
  split at hk
  ·exact hk.elim
  ·rename_i d hd
   split at hk
   ·rename_i c hc
    have hy:=cJ R hd hc
    cases want<;>cases c
    ·exact⟨σ,rfl,R,.inl ⟨by simp[Region.wanted,hg,hy],hk⟩⟩
    ·exact⟨σ,rfl,R,.inr ⟨by simp[Region.wanted,hg,hy],hk⟩⟩
    ·exact⟨σ,rfl,R,.inr ⟨by simp[Region.wanted,hg,hy],hk⟩⟩
    ·exact⟨σ,rfl,R,.inl ⟨by simp[Region.wanted,hg,hy],hk⟩⟩
   ·rename_i hc
    have hy:=Rt R hd hc
    exact⟨σ,rfl,R,.inr ⟨by simp[Region.wanted,hg,hy],hk⟩⟩
   ·exact hk.elim
theorem MY {w:World}{X Z:Aq}{g:AW}{h:Heap}(RH:EY w X g h) {x:AV}{rows:List D}{v:Value}(hx:QA h x=some rows) (hr:Ar w Z g h x v):∃A n cap,v= .slice A n cap∧(rows≠[]→A.isNone=false):=by
 have main:∀{ag:Bool} {sz:Nat},Ad w Z (.list ag sz rows) v→∃A n cap,v= .slice A n cap∧(rows≠[]→A.isNone=false):=by
  intro ag sz hd
  obtain⟨A,cap,hv,_,_,_,b,o,hA,_⟩:=P2 hd
  exact⟨A,_,cap,hv,fun hne=>by rw[hA hne];rfl⟩
 unfold QA at hx
 split at hx
 ·cases hx;exact main hr
 ·cases hx;exact main hr.1
 ·cases hx;exact main hr.1
 ·rename_i i
  split at hx
  ·rename_i kd ag sz rows' foc hi
   split at hx
   ·cases hx
    obtain⟨ht,h0,hf,xs,ho,_⟩:=RH.objs i _ hi
    obtain⟨A,cap,hv,_,_,hA⟩:=ho.row
    refine⟨A,_,cap,by rw[hr.2.2 (by rw[hi];rfl),hv],fun hne=>?_⟩
    obtain⟨b,rfl⟩:=hA (List.length_pos_iff.2 hne)
    rfl
   ·cases hx
    obtain⟨ht,h0,hf,xs,ho,_⟩:=RH.objs i _ hi
    obtain⟨A,cap,hv,_,_,hA⟩:=ho.cA.row
    refine⟨A,_,cap,by rw[hr.2.2 (by rw[hi];rfl),hv],fun hne=>?_⟩
    obtain⟨b,rfl⟩:=hA (List.length_pos_iff.2 hne)
    rfl
   ·cases hx
  ·cases hx
 ·cases hx
theorem MZ {w:World}{Z:Aq}{g:AW}{h:Heap}{x:AV}{v:Value}(hx:QB x=true) (hr:Ar w Z g h x v):v= .slice none 0 0:=by
 unfold QB at hx
 split at hx
 ·exact hr
 ·cases hx
theorem WS {P:Program}{t e:TypeId}(h:P.underlying t=some (.slice e)) (A:Option Addr) (n cap:Nat) (w:World) (d:Nat):
  (Op.equalIn (d+1) t (.slice A n cap) (.slice none 0 0)).run P w= .ok A.isNone w∧(Op.equalIn (d+1) t (.slice none 0 0) (.slice A n cap)).run P w= .ok A.isNone w:=by
 constructor<;>cases A<;>simp[Op.equalIn,run_underlying h w]
theorem Ru {P:Program}{t e:TypeId}(h:P.underlying t=some (.slice e)) (A:Option Addr) (n cap:Nat) (w:World):
  (Op.equal t (.slice A n cap) (.slice none 0 0)).run P w= .ok A.isNone w∧(Op.equal t (.slice none 0 0) (.slice A n cap)).run P w= .ok A.isNone w:=
 WS h A n cap w 9999
theorem WT {C:Cx}{ti:Types}(hti:BN C.P ti) {o:Oper}{F:Nat→Prop}{s:AR}{h:Heap}{g:AW}{a:Act}{w:World}(R:Ac C F s h g a w) {e:Bool}{rows:List D}(hn:QC ti o s h=some (e,rows)) (hs:QD ti o=true):
  ∃c:Bool,(execOp a.eval o).run C.P w= .ok (.value (.bool (if c then e else !e))) w∧(rows≠[]→c=false):=by
 unfold QC at hn
 split at hn
 ·rename_i op t x y t' ho
  split at hn
  ·rename_i e' he
   unfold QD at hs
   rw[ho]at hs
   simp only at hs
   split at hs
   ·rename_i i hi
    split at hs
    ·rename_i el hd
     have hu:=(hti t i hi).1
     rw[hd]at hu
     have ex:=AY ti t x R (s:=s) (fun _ _=>rfl)
     have ey:=AY ti t y R (s:=s) (fun _ _=>rfl)
     have fin:∀(A:Option Addr) (r:Sem Bool),(Op.equal t (a.eval x) (a.eval y)).run C.P w= .ok A.isNone w→(∃n cap,a.eval x= .slice A n cap∨a.eval y= .slice A n cap)→(∃n cap A',a.eval x= .slice A' n cap)→(∃n cap A',a.eval y= .slice A' n cap)→(rows≠[]→A.isNone=false)→e'=e→
       ∃c:Bool,(execOp a.eval o).run C.P w= .ok (.value (.bool (if c then e else !e))) w∧(rows≠[]→c=false):=by
      rintro A r hrun _ ⟨n,cap,A1,hx⟩ ⟨m,cap',A2,hy⟩ hne rfl
      refine⟨A.isNone,?_,hne⟩
      rw[hx,hy]at hrun
      unfold rJ at he
      split at he<;>cases he<;>cases hA:A.isNone<;>simp[execOp,ho,hx,hy,eqGuard,binOp,hrun,hA]
     split at hn
     ·rename_i hny
      split at hn
      ·rename_i rows' hrx
       obtain⟨A,n,cap,hv,hA⟩:=MY R.heap hrx ex
       have hyv:=MZ hny ey
       cases hn
       exact fin A (pure true) (by rw[hv,hyv];exact (Ru hu A n cap w).1) ⟨n,cap,.inl hv⟩ ⟨n,cap,A,hv⟩ ⟨0,0,none,hyv⟩ hA rfl
      ·cases hn
     ·split at hn
      ·rename_i hnx
       split at hn
       ·rename_i rows' hry
        obtain⟨A,n,cap,hv,hA⟩:=MY R.heap hry ey
        have hxv:=MZ hnx ex
        cases hn
        exact fin A (pure true) (by rw[hv,hxv];exact (Ru hu A n cap w).2) ⟨n,cap,.inr hv⟩ ⟨0,0,none,hxv⟩ ⟨n,cap,A,hv⟩ hA rfl
       ·cases hn
      ·cases hn
    ·cases hs
   ·cases hs
  ·cases hn
 ·cases hn
theorem I6 {F:Nat→Prop}{σ:St}{g:AW}{a:Act}{w:World}{fresh:Nat}{dst:Option Tmp}{n:FuncId}{xs:List V1}{K:St→Prop}{Q:Exit→Act→World→Prop}{vals:Array Value}
  (R:Ac C F (Ab σ.slots) (AX σ.heap) g a w) (hk:UJ C.M dst fresh σ n xs K) (hF:∀k,k<32→F (fresh+k)) (hd:∀d,dst=some d→d<C.nt) (hsz:vals.size=xs.length)
  (hargs:∀(j:Nat) x v,xs[j]?=some x→vals[j]?=some v→Ak w (BG (zone g (AX σ.heap)) C.X) g (AX σ.heap) x v):
  (∃fn c,C.P.funcs[n]?=some fn∧fn.body=some c∧(fn.name== "runtime.NumGoroutine")=false)∧
  Calls C.P n vals w fun
   | .returned v,w''=>∃σ2,K σ2∧σ2.next=σ.next∧∃g2,(∀i q,g i= .map (some q)→g2 i=g i)∧Ac C (fun k=>F k∧¬(fresh≤k∧k<fresh+32)) (Ab σ2.slots) (AX σ2.heap) g2 (a.put dst v) w''
   | .panicked chain,w''=>Q (.panic chain) a w''
   | .outgrown,_=>LetsOut Q:=by
 obtain⟨m,targs,pre,Qp,ht,rfl,hlen,hnd,hpre,hK⟩:=hk
 refine⟨ht.1,?_⟩
 refine Calls.mono (J7 (Qp:=Qp) (Run:=fun p=>Calls C.P n vals w p) (vals:=vals) (dst:=dst) (Q:=Q) R (fun hpq hp=>hp.mono hpq)
  (fun X g1 _ k1 k2 k3 k4 k6=>ht.2 w X g1 vals k1 k2 k3 k4 (by rw[hsz];simp) k6) hlen hnd hpre (fun r p q h=>(hK r p q h).1) hF hd hargs) ?_
 intro e w' he
 cases e with
 | returned v=>
  obtain⟨res,post,new,hq,he⟩:=he
  refine⟨_,(hK res post new hq).2,rfl,?_⟩
  rw[DL,EX]
  exact he
 | panicked ch=>exact he
 | outgrown=>exact he
theorem WU {h:Heap}{r:Id→Id}{m:List Id}{pre:List AH}{i:Id}{o:AH}(hp:U8 h r m pre) (hl:m.length=pre.length) (hi:h i=some (o.BL r)):U8 h r (m++[i]) (pre++[o]):=by
 intro j i' o' hm ho
 by_cases hj:j<m.length
 ·rw[List.getElem?_append_left hj]at hm
  rw[List.getElem?_append_left (by omega)]at ho
  exact hp j i' o' hm ho
 ·rw[List.getElem?_append_right (by omega)]at hm
  rw[List.getElem?_append_right (by omega),←hl]at ho
  have:j - m.length=0:=by
   rcases Nat.eq_zero_or_pos (j - m.length)with h | h
   ·exact h
   ·rw[List.getElem?_eq_none (by simp;omega)]at hm;cases hm
  rw[this]at hm ho
  simp at hm ho
  subst hm;subst ho
  exact hi
theorem I7 {a b:AH}:∀{pre post:List AH},CC pre post→sameKind a b→CC (pre++[a]) (post++[b])
 | [],[],_,h=>⟨h,trivial⟩
 | _::_,_::_,h,k=>⟨h.1,I7 h.2 k⟩
 | [],_::_,h,_=>h.elim
 | _::_,[],h,_=>h.elim
theorem QF {F:Nat→Prop}{σ:St}{g:AW}{a:Act}{w:World}{fresh:Nat}{dst:Option Tmp}{i:Id}{r:Unit→RF}{sl:List (Nat×AV)}{xs:List V1}{K:St→Prop}{Q:Exit→Act→World→Prop}{vals:Array Value}
  (R:Ac C F (Ab σ.slots) (AX σ.heap) g a w) (hi:AX σ.heap i=some (.rnd r sl)) (hk:XF C.M dst fresh σ i r sl xs K) (hF:∀k,k<32→F (fresh+k)) (hd:∀d,dst=some d→d<C.nt) (hsz:vals.size=xs.length)
  (hargs:∀(j:Nat) x v,xs[j]?=some x→vals[j]?=some v→Ak w (BG (zone g (AX σ.heap)) C.X) g (AX σ.heap) x v):
  ∃l L,g i= .map (some l)∧w.heap[l]?=some (.loop L)∧vals.size=L.params.size∧
  RoundIn Fence.wide 0 C.P l L.fn (EG L.params vals L.tmps) L.assign L.body w fun
   | .returned v,w''=>∃σ2,K σ2∧σ2.next=σ.next∧∃g2,(∀i q,g i= .map (some q)→g2 i=g i)∧Ac C (fun k=>F k∧¬(fresh≤k∧k<fresh+32)) (Ab σ2.slots) (AX σ2.heap) g2 (a.put dst v) w''
   | .panicked chain,w''=>Q (.panic chain) a w''
   | .outgrown,_=>LetsOut Q:=by
 obtain⟨m,targs,pre,sl0,Qp,ht,rfl,rfl,hlen,hnd,hpre,hK⟩:=hk
 have hsz':vals.size=targs.length:=by rw[hsz];simp
 obtain⟨l,L,hv,hl,_,_,l3,l4,l5,l6,_⟩:=R.heap.objs i _ hi
 refine⟨l,L,hv,hl,by rw[hsz',ht.1,l3],?_⟩
 refine RoundIn.mono (J7 (Qp:=fun res post new=>∃j post0,Qp j post0 new∧res= .v (.d (.bool j.isNone))∧post=post0++[Dp j r sl0]) (targs:=targs) (m:=m++[i]) (pre:=pre++[.rnd r sl0])
  (Run:=fun p=>RoundIn Fence.wide 0 C.P l L.fn (EG L.params vals L.tmps) L.assign L.body w p) (vals:=vals) (dst:=dst) (Q:=Q) R (fun hpq hp=>hp.mono hpq)
  (fun X g1 kg k1 k2 k3 k4 k6=>by
   obtain⟨l',L',e1,e2,_,hr⟩:=UD ht (fun j p q h=>(hK j p q h).1) k1 k2 k3 k4 hsz' k6
   have:g1 (.ext pre.length)= .map (some l):=by
    rw[kg,←hlen]
    show g (Ba (m++[i]) fresh (.ext m.length))=_
    simp[Ba,hv]
   rw[e1]at this
   cases this
   rw[hl]at e2
   cases e2
   exact hr) (by simp[hlen]) hnd (WU hpre hlen (by rw[hi];rfl)) (fun res post new h=>by
    obtain⟨j,post0,hq,rfl,rfl⟩:=h
    obtain⟨q1,q2⟩:=(hK j post0 new hq).1
    exact⟨I7 q1 (by cases j<;>trivial),q2⟩) hF hd hargs) ?_
 intro e w' he
 cases e with
 | returned v=>
  obtain⟨res,post,new,⟨j,post0,hq,rfl,rfl⟩,he⟩:=he
  refine⟨_,(hK j post0 new hq).2,rfl,?_⟩
  rw[DL,EX]
  exact he
 | panicked ch=>exact he
 | outgrown=>exact he
theorem CZ (hti:BN C.P ti) (h1:Bu ti) {ops:Array Oper}{base:Nat}{K:St→Prop}{Q:Exit→Act→World→Prop}
  (hQ:∀σ a w,K σ→CL C σ a w→Q .normal a w):∀(l:List Oper) (i:Nat) (σ:St) (a:Act) (w:World),ops.toList.drop i=l→
   DC C.M ti C.nt ops base l i σ K→Rel C (fun n=>base+32*i≤n) (Ab σ.slots) (AX σ.heap) a w→wpOpsIn (Bg C.ro) 0 C.P ops Q (List.range' i l.length) a w
 | [],i,σ,a,w,_,hk,R=>hQ _ a w hk R
 | o::r,i,σ,a,w,hl,hk,R=>by
  have hi:ops[i]?=some o:=by
   have:=congrArg (fun l=>l[0]?) hl
   simpa using this
  have hr:ops.toList.drop (i+1)=r:=by
   have:=congrArg List.tail hl
   simpa using this
  simp only[List.length_cons,List.range'_succ]
  rw[wpOpsIn_cons]
  unfold wpOpIn
  rw[hi]
  simp only[]
  obtain⟨σ',hh,R',⟨hw,hk⟩ | ⟨hw,hk⟩⟩:=N0 R hk
  ·rw[if_pos hw]
   obtain⟨hst,hnd,hk⟩:=Ks hk
   obtain⟨hd,hk⟩:=He.1 hk
   split at hk
   ·rename_i e rows hnc
    obtain⟨hs,hk1,hk2⟩:=AN.1 hk
    obtain⟨g,R2⟩:=R'
    obtain⟨c,hrun,hc⟩:=WT hti R2 hnc hs
    refine I3 hnd ?_
    unfold Oper.wp
    rw[hrun]
    have fin:∀b:Bool,DC C.M ti C.nt ops base r (i+1) ⟨D9 σ'.slots o.dst (.v (.d (.bool b))),σ'.heap,σ'.next⟩ K→wpOpsIn (Bg C.ro) 0 C.P ops Q (List.range' (i+1) r.length) (a.put o.dst (.bool b)) w:=by
     intro b hk
     refine CZ hti h1 hQ r (i+1) _ _ w hr hk ?_
     rw[DL]
     exact⟨g,(R2.put hd (v:=.v (.d (.bool b))) (.bool b)).A0 (fun n hn=>by omega)⟩
    by_cases hne:rows=[]
    ·obtain⟨k1,k2⟩:=hk2 hne
     cases c with
     | true=>exact fin e k1
     | false=>have:=fin (EP e) k2;rw[DS]at this;exact this
    ·rw[hc hne]
     have:=fin (EP e) (hk1 hne)
     rw[DS]at this
     exact this
   have plain:EN C.M ti o (base+32*i) (Ab σ'.slots) (AX σ'.heap) (fun out=>DC C.M ti C.nt ops base r (i+1) ⟨D9 σ'.slots o.dst out.val,Ez σ'.heap out.wr,σ'.next⟩ K)→
     Oper.wpIn (Bg C.ro) 0 C.P o a w (wpOpsIn (Bg C.ro) 0 C.P ops Q (List.range' (i+1) r.length)) Q:=by
    intro hk
    obtain⟨out,hk,hok⟩:=Gy hti h1 hst.1 hst.2 hk
    refine I3 hnd ?_
    refine Oper.wp_mono ?_ (hok _ _ _ a w Q R' (fun _ _=>rfl) (fun _ _=>rfl) (fun k hk=>by omega) hd)
    intro a' w' R2
    refine CZ hti h1 hQ r (i+1) _ a' w' hr hk ?_
    rw[DL,EX]
    exact R2.A0 (fun n hn=>by omega)
   have ghost:cI C.M ti o (base+32*i) σ' (fun σ2=>DC C.M ti C.nt ops base r (i+1) σ2 K)→Oper.wpIn (Bg C.ro) 0 C.P o a w (wpOpsIn (Bg C.ro) 0 C.P ops Q (List.range' (i+1) r.length)) Q:=by
    rintro⟨σ1,hwk,hnx,hk⟩
    have R2:=hwk C a w R'
    obtain⟨out,hk,hok⟩:=Gy hti h1 hst.1 hst.2 hk
    refine I3 hnd ?_
    refine Oper.wp_mono ?_ (hok _ _ _ a w Q R2 (fun _ _=>rfl) (fun _ _=>rfl) (fun k hk=>by omega) hd)
    intro a' w' R3
    refine CZ hti h1 hQ r (i+1) _ a' w' hr hk ?_
    rw[DL,EX]
    exact R3.A0 (fun n hn=>by omega)
   split at hk
   rotate_left
   ·split at hk
    ·exact plain hk
    ·split at hk
     ·exact ghost ((C.M.lock_iff _).1 hk)
     ·rcases (C.M.lock_iff _).1 hk with hk | hk
      ·exact plain hk
      ·exact ghost hk
   rcases (C.M.lock_iff _).1 hk with hk | hk
   ·exact plain hk
   unfold U9 at hk
   split at hk
   rotate_left
   ·exact hk.elim
   rename_i c ho
   split at hk
   rotate_left
   ·exact hk.elim
   rename_i f hc
   obtain⟨σ1,hwk,hnx,hk⟩:=hk
   obtain⟨g,R2⟩:=hwk C a w R'
   have hF:∀k,k<32→σ1.next≤base+32*i+k:=fun k _=>by omega
   have hf:=AY ti 0 f R2 (s:=Ab σ1.slots) (fun _ _=>rfl)
   have fin:∀(σ2:St) (g2:AW) (v:Value) (w':World),DC C.M ti C.nt ops base r (i+1) σ2 K→Ac C (fun k=>σ1.next≤k∧¬(base+32*i≤k∧k<base+32*i+32)) (Ab σ2.slots) (AX σ2.heap) g2 (a.put o.dst v) w'→
     wpOpsIn (Bg C.ro) 0 C.P ops Q (List.range' (i+1) r.length) (a.put o.dst v) w':=fun σ2 g2 v w' hk2 R3=>
    CZ hti h1 hQ r (i+1) σ2 _ w' hr hk2 ⟨g2,R3.A0 (fun n hn=>by omega)⟩
   refine⟨fun f _=>Dn _ f,?_⟩
   rw[Oper.semAt_eq _ _ _ hnd]
   split at hk
   ·rename_i n cap hop
    rw[hop]at hf
    obtain⟨hfv,hcap⟩:=hf
    unfold withArgs at hk
    split at hk
    rotate_left
    ·exact hk.elim
    rename_i xs hxs
    obtain⟨h3,h4⟩:=D8 (ti:=ti) R2 c.args.toList c.argTypes.toList xs (fun t ht=>rfl) hxs
    obtain⟨⟨fn,body,hfn,hb,hname⟩,hcall⟩:=I6 (Q:=Q) (vals:=c.args.map a.eval++(cap.map (fun i=>EL (g i) 0)).toArray) R2 hk hF hd (by simp[h3]) (fun j x v hx hv=>by
     simp only[Array.getElem?_append,Array.size_map,List.getElem?_toArray]at hv
     by_cases hj:j<c.args.size
     ·rw[if_pos hj]at hv
      rw[List.getElem?_append_left (by rw[h3];simpa using hj)]at hx
      simp only[Array.getElem?_map,Option.map_eq_some_iff]at hv
      obtain⟨p,hp,rfl⟩:=hv
      exact h4 j x p hx (by simpa using hp)
     ·rw[if_neg hj]at hv
      rw[List.getElem?_append_right (by rw[h3];simpa using hj),h3]at hx
      simp only[List.getElem?_map,Option.map_eq_some_iff,Array.length_toList]at hx hv
      obtain⟨i,hi,rfl⟩:=hx
      obtain⟨i',hi',rfl⟩:=hv
      rw[hi]at hi'
      obtain rfl:i=i':=by simpa using hi'
      obtain⟨b,hb'⟩:=hcap i (List.mem_of_getElem? hi)
      exact⟨⟨b,hb'⟩,rfl⟩)
    have hrun:(execOp a.eval o).run C.P w= .ok (.enter n (c.args.map a.eval++(cap.map (fun i=>EL (g i) 0)).toArray)) w:=by
     have hn':¬fn.name= "runtime.NumGoroutine" :=by simpa using hname
     simp[execOp,ho,resolve,hc,hfv,Deferred.ofValue,invoke,callFunc,hfn,hb,hn']
    rw[hrun,Oper.uponIn_enter]
    refine⟨C0 _,FH (hcall.mono ?_)⟩
    intro e w' he
    cases e with
    | returned v=>obtain⟨σ2,hk2,_,g2,_,R3⟩:=he;exact fin σ2 g2 v w' hk2 R3
    | panicked ch=>exact he
    | outgrown=>exact he
   ·rename_i id hop
    rw[hop]at hf
    obtain⟨l0,hg0,hfv⟩:=hf
    unfold withArgs at hk
    split at hk
    rotate_left
    ·exact hk.elim
    rename_i xs hxs
    obtain⟨h3,h4⟩:=D8 (ti:=ti) R2 c.args.toList c.argTypes.toList xs (fun t ht=>rfl) hxs
    split at hk
    rotate_left
    ·exact hk.elim
    rename_i rf sl hid
    obtain⟨l,L,hgl,hL,hps,hround⟩:=QF (Q:=Q) (vals:=c.args.map a.eval) R2 hid hk hF hd (by simp[h3]) (fun j x v hx hv=>by
     simp only[Array.getElem?_map,Option.map_eq_some_iff]at hv
     obtain⟨p,hp,rfl⟩:=hv
     exact h4 j x p hx (by simpa using hp))
    rw[hg0]at hgl
    obtain rfl:l0=l:=by cases hgl;rfl
    have hrun:(execOp a.eval o).run C.P w= .ok (.round l0 L.fn (EG L.params (c.args.map a.eval) L.tmps) L.assign L.body) w:=by
     have:(Instr.yield l0 (c.args.map a.eval)).run C.P w= .ok (.round l0 L.fn (EG L.params (c.args.map a.eval) L.tmps) L.assign L.body) w:=run_yield (P:=C.P) (args:=c.args.map a.eval) hL hps
     simp only[execOp,ho,resolve,hc,hfv,Deferred.ofValue,invoke,Sem.run_bind,Result.andThen,Sem.run_pure]
     first
      | exact this
      | simpa using this
    rw[hrun,Oper.uponIn_round]
    refine⟨C0 _,Nz (hround.mono ?_)⟩
    intro e w' he
    cases e with
    | returned v=>obtain⟨σ2,hk2,_,g2,_,R3⟩:=he;exact fin σ2 g2 v w' hk2 R3
    | panicked ch=>exact he
    | outgrown=>exact he
   ·exact hk.elim
  ·rw[if_neg (by simp[hw])]
   obtain⟨hd,hk⟩:=He.1 hk
   refine⟨fun f _=>Dn _ f,?_⟩
   refine CZ hti h1 hQ r (i+1) _ _ w hr hk ?_
   obtain⟨g,R'⟩:=R'
   rw[DL]
   exact⟨g,(R'.put hd (v:=.t []) ⟨#[],rfl,rfl,by simp⟩).A0 (fun n hn=>by omega)⟩
def KD (C:Cx) (dr:WR):Prop:=∀(id:Nat) (ops:Array Oper) (σ:St) (K:St→Prop) (Q:Exit→Act→World→Prop) (a:Act) (w:World),
 (∀σ a w,K σ→CL C σ a w→Q .normal a w)→dr ops σ K→CL C σ a w→(Code.region id ops true).wpIn (Bg C.ro) 0 C.P Q a w
theorem least {p:Nat→Prop}(h:∃n,p n):∃n,p n∧∀m,p m→n≤m:=by
 obtain⟨n,hn⟩:=h
 induction n using Nat.strongRecOn with
 | _ n ih=>
  by_cases hx:∃m,m<n∧p m
  ·obtain⟨m,hm,hp⟩:=hx
   exact ih m hm hp
  ·exact⟨n,hn,fun m hp=>Nat.le_of_not_lt (fun hlt=>hx ⟨m,hlt,hp⟩)⟩
theorem Rv {P:Program}{a:Act}{w:World}{g:Operand}{l n:Nat}{ME:Array Value}{fn:Func}{body:Code}(hf:a.eval g= .func (.func n) #[] ME) (hfn:P.funcs[n]?=some fn) (hb:fn.body=some body) (hname:(fn.name== "runtime.NumGoroutine")=false):
  ∃d,(resolve a.eval (rangeCall g l) 0).run P w= .ok d w∧(invoke d.target d.args).run P w= .ok (.enter n (#[.func (.yield l) #[] #[]]++ME)) w:=by
 have hn':¬fn.name= "runtime.NumGoroutine" :=by simpa using hname
 have he:a.eval (.const (.func (.yield l) #[] #[]))= .func (.yield l) #[] #[]:=rfl
 refine⟨⟨.fn (.func n) ME,#[.func (.yield l) #[] #[]]⟩,?_,?_⟩
 ·simp[resolve,rangeCall,hf,he,Deferred.ofValue]
 ·simp[invoke,callFunc,hfn,hb,hn']
theorem Rx {F:Nat→Prop}{s:AR}{h:Heap}{g:AW}{a:Act}{w:World}(R:Ac C F s h g a w) {n:Nat}(hn:F n) (ps:Array Tmp) (assign body:Code) (sl:List (Nat×AV)) (hsl:∀t,Ab sl t= .u∨Ab sl t=s t) (fn:FuncId):
  ∃l mark w1 C2 g2,(Instr.enterLoop fn a.tmps ps assign body (Bg C.ro).round).run C.P w= .ok (l,mark) w1∧D6 C C2∧C2.w0.heap.size≤l∧g2 (.loc n)= .map (some l)∧
   Ac C2 (fun k=>F k∧k≠n) s (AO h (.loc n) (.rnd (fun _=>⟨ps,assign,body,C.nt⟩) sl)) g2 {a with defers:=mark++a.defers} w1∧(∀v,BD w1 (BG (zone g2 (AO h (.loc n) (.rnd (fun _=>⟨ps,assign,body,C.nt⟩) sl))) C2.X) g2 (AO h (.loc n) (.rnd (fun _=>⟨ps,assign,body,C.nt⟩) sl)) (.yl (.loc n)) v↔v= .func (.yield l) #[] #[])∧
   (∀i,i≠ .loc n→g2 i=g i):=by
 rw[Ny]
 have hX:∀b o,C.X b o→b<w.heap.size:=fun b o hx=>Nat.lt_of_lt_of_le (R.xs b o hx) R.frame.size
 have slr:∀{Z:Aq} {w:World} {g:AW} {h:Heap} {v:Value} {t:Nat},Ar w Z g h (s t) v→Ar w Z g h (Ab sl t) v:=by
  intro Z w g h v t hr
  rcases hsl t with e | e
  ·rw[e];trivial
  ·rw[e];exact hr
 have yl:∀{g2:AW} {w:World} {Z:Aq} {h:Heap} {l:Nat} (_:g2 (.loc n)= .map (some l)) (v:Value),BD w Z g2 h (.yl (.loc n)) v↔v= .func (.yield l) #[] #[]:=by
  intro g2 w Z h l e v
  constructor
  ·rintro⟨l',h1,h2⟩
   rw[e]at h1;cases h1;exact h2
  ·intro h;exact⟨l,e,h⟩
 cases hro:C.ro with
 | none=>
  let wD:=w.alloc (.deferred (some []))
  let X2:Aq:=fun b o=>C.X b o∨b=w.heap.size
  have hsz:wD.heap.size=w.heap.size+1:=by simp[wD]
  have hinv:C.M.I.at wD (BG (zone g h) X2):=by
   obtain⟨i1,i2⟩:=R.inv
   refine⟨C.M.I.same (fun b hb=>Below.heap_alloc w _ b (i2 b hb).1) i1,fun b hb=>⟨by have:=(i2 b hb).1;omega,?_⟩⟩
   rintro o (hz | hz | hz)
   ·exact (i2 b hb).2 o (.inl hz)
   ·exact (i2 b hb).2 o (.inr hz)
   ·have:=(i2 b hb).1;omega
  have hD:∀r∈w.heap.size::C.D,wD.heap[r]?=some (.deferred (some []))∧∀o,¬zone g h r o:=by
   intro r hr
   rcases List.mem_cons.1 hr with rfl | hr
   ·refine⟨heap_alloc_new w _,?_⟩
    rintro o ⟨i,ob,hi,hz⟩
    have:=(R.heap.objs i ob hi).lt hz.Hs
    omega
   ·obtain⟨k1,k2⟩:=C.hD r hr
    obtain⟨k3,k4⟩:=R.kept k1 k2
    exact⟨(Below.heap_alloc w _ r (Array.getElem?_eq_some_iff.1 k3).1).trans k3,k4⟩
  have hDn:(w.heap.size::C.D).Nodup:=by
   refine List.nodup_cons.2 ⟨fun hm=>?_,C.hDn⟩
   have:=(Array.getElem?_eq_some_iff.1 (C.hD _ hm).1).1
   have:=R.frame.size
   omega
  let C2:Cx:={M:=C.M,nt:=C.nt,w0:=wD,Z0:=zone g h,X:=X2,g0:=g,hinv:=hinv,ro:=C.ro,D:=w.heap.size::C.D,hro:=fun l hl=>(by rw[hro]at hl;cases hl),hD:=hD,hDn:=hDn}
  have A:EF (fun _=>False) w wD:=⟨rfl,rfl,rfl,by omega,fun b hb _=>Below.heap_alloc w _ b hb⟩
  have R2:Ac C2 F s h g {a with defers:=Gk w.heap.size::a.defers} wD:=by
   refine R.RM A rfl rfl (fun i o hi=>.inl hi) (fun b o hb=>hb.elim) (fun i ob b hi hb hB=>hB) ?_ ?_ ?_ rfl (fun b o hz=>hz) (fun j=>.refl _) rfl (by show _=Gk w.heap.size::C.D.map Gk;rw[←R.defers]) (fun k hk=>(R.free k hk).2)
   ·rintro b o (hx | hx)
    ·exact .inl (.inr hx)
    ·exact .inr (by omega)
   ·rintro b o (hx | hx)
    ·have:=hX b o hx;omega
    ·omega
   ·rintro i ob b o hi hb (hx | hx)
    ·exact R.heap.apart i ob b o hi hb hx
    ·have:=(R.heap.objs i ob hi).lt hb;omega
  have L:D6 C C2:=by
   refine⟨rfl,rfl,rfl,fun b o hx=>.inl hx,?_,fun b o hz=>?_,fun j=>R.ext j,fun hn=>absurd hro hn,[w.heap.size],rfl,?_⟩
   ·exact R.frame.then ⟨rfl,rfl,rfl,(by show w.heap.size≤wD.heap.size;omega),fun b hb _=>Below.heap_alloc w _ b hb,fun b o u hu _=>A.cell hu (fun h=>h)⟩ (Z':=fun _ _=>False) (fun _ _ h=>h.elim)
   ·obtain⟨i,ob,hi,h1⟩:=hz
    exact R.within i ob b o hi h1
   ·intro r hr
    simp at hr
    subst hr
    exact⟨R.frame.size,fun o=>.inr rfl⟩
  have R3:=R2.Tr hn {state:=.ready,pending:=none,fn:=fn,tmps:=a.tmps,params:=ps,assign:=assign,body:=body,defers:=w.heap.size} (fun _=>⟨ps,assign,body,C.nt⟩) sl rfl rfl rfl rfl rfl R.size (fun t=>slr (R2.slots t))
  refine⟨w.heap.size+1,[Gk w.heap.size],_,C2,_,run_enterLoop_outer fn a.tmps ps assign body,L,(by show wD.heap.size≤_;omega),?_,R3,yl ?_,fun i hi=>by simp[Al,hi]⟩
  ·simp[Al,hsz]
  ·simp[Al,hsz]
 | some l0=>
  obtain⟨⟨L0,hL0⟩,hz0⟩:=C.hro l0 hro
  obtain⟨k1,k2⟩:=R.kept hL0 hz0
  have R3:=R.Tr hn {state:=.ready,pending:=none,fn:=fn,tmps:=a.tmps,params:=ps,assign:=assign,body:=body,defers:=L0.defers} (fun _=>⟨ps,assign,body,C.nt⟩) sl rfl rfl rfl rfl rfl R.size (fun t=>slr (R.slots t))
  refine⟨w.heap.size,[],_,C,_,?_,D6.refl C,R.frame.size,?_,R3,yl ?_,fun i hi=>by simp[Al,hi]⟩
  ·unfold Instr.enterLoop
   simp only[Sem.run_bind,run_getLoop k1,run_newObj_alloc,Result.andThen,Sem.run_pure,pure_bind]
  ·simp[Al]
  ·simp[Al]
theorem Ry {F:Nat→Prop}{s:AR}{h:Heap}{g:AW}{a:Act}{w:World}(R:Ac C F s h g a w) {i:Id}{ob:AH}{l:Nat}{L:Loop}(hi:h i=some ob) (hob:∀o,Bf (g i) ob l o) (hl:w.heap[l]?=some (.loop L)) (hnew:C.w0.heap.size≤l) (o':Obj):
  ∃C2,D6 C C2∧Ac C2 F s (AO h i .gone) g a (w.putObj l o'):=by
 have hlt:l<w.heap.size:=(Array.getElem?_eq_some_iff.1 hl).1
 have hX:∀b o,C.X b o→b<w.heap.size:=fun b o hx=>Nat.lt_of_lt_of_le (R.xs b o hx) R.frame.size
 have hO:∀b,FG (g i) ob b→b=l∨True:=fun _ _=>.inr trivial
 have hgo:∀j o,AO h i .gone j=some o→(h j=some o∧j≠i)∨o= .gone:=by
  intro j o hj
  by_cases e:j=i
  ·subst e;simp[AO]at hj;exact .inr hj.symm
  ·simp[AO,e]at hj;exact .inl ⟨hj,e⟩
 have zsub:∀b o,zone g (AO h i .gone) b o→zone g h b o∧b≠l:=by
  rintro b o ⟨j,ob',hj,hz⟩
  rcases hgo j ob' hj with⟨h1,h2⟩ | rfl
  ·refine⟨⟨j,ob',h1,hz⟩,?_⟩
   rintro rfl
   exact h2 (R.heap.sep j i ob' ob b h1 hi hz.Hs (hob o).Hs)
  ·exact hz.elim
 have kept:∀{b:Nat} {o:Obj},C.w0.heap[b]?=some o→(∀p,¬C.Z0 b p)→(w.putObj l o').heap[b]?=some o∧∀p,¬zone g (AO h i .gone) b p:=by
  intro b o hb hz
  obtain⟨k1,k2⟩:=R.kept hb hz
  have:b<C.w0.heap.size:=(Array.getElem?_eq_some_iff.1 hb).1
  exact⟨(World.putObj_heap_other (by omega)).trans k1,fun p hp=>k2 p (zsub b p hp).1⟩
 have hinv:C.M.I.at (w.putObj l o') (BG (zone g (AO h i .gone)) C.X):=by
  obtain⟨i1,i2⟩:=R.inv
  have ne:∀b,C.M.I.blocks b→b≠l:=by
   rintro b hb rfl
   exact (i2 b hb).2 0 (.inl ⟨i,ob,hi,hob 0⟩)
  refine⟨C.M.I.same (fun b hb=>World.putObj_heap_other (ne b hb)) i1,fun b hb=>⟨by simpa using (i2 b hb).1,fun o hz=>(i2 b hb).2 o (hz.imp (fun h=>(zsub b o h).1) id)⟩⟩
 have hro:∀l0,C.ro=some l0→(∃L0,(w.putObj l o').heap[l0]?=some (.loop L0))∧∀p,¬zone g (AO h i .gone) l0 p:=by
  intro l0 hl0
  obtain⟨⟨L0,k1⟩,k2⟩:=C.hro l0 hl0
  exact⟨⟨L0,(kept k1 k2).1⟩,(kept k1 k2).2⟩
 let C2:Cx:={M:=C.M,nt:=C.nt,w0:=w.putObj l o',Z0:=zone g (AO h i .gone),X:=C.X,g0:=g,hinv:=hinv,ro:=C.ro,D:=C.D,hro:=hro,hD:=fun r hr=>kept (C.hD r hr).1 (C.hD r hr).2,hDn:=C.hDn}
 have A:EF (fun b=>b=l) w (w.putObj l o'):=⟨rfl,rfl,rfl,by simp,fun b _ hb=>World.putObj_heap_other hb⟩
 refine⟨C2,⟨rfl,rfl,rfl,fun _ _ h=>h,?_,fun b o hz=>?_,fun j=>R.ext j,fun _=>rfl,[],rfl,by simp⟩,?_⟩
 ·refine R.frame.then (Z':=fun b _=>b=l) ⟨rfl,rfl,rfl,Nat.le_of_eq World.putObj_size.symm,fun b _ hb=>World.putObj_heap_other (fun e=>hb 0 e),fun b o u hu hb=>A.cell hu hb⟩ ?_
  rintro p o rfl
  exact .inr hnew
 ·obtain⟨j,ob',hj,h1⟩:=(zsub b o hz).1
  exact R.within j ob' b o hj h1
 ·refine R.RM A rfl rfl (fun j o hj=>(hgo j o hj).imp (·.1) id) ?_ ?_ (fun b o hx=>.inl (.inr hx)) (fun b o hx=>by simpa using hX b o hx) ?_ rfl (fun b o hz=>hz) (fun j=>.refl _) rfl R.defers (fun k hk=>?_)
  ·rintro b o rfl;exact .inl ⟨i,ob,hi,hob o⟩
  ·rintro j ob' b hj hb rfl
   obtain⟨p,hp⟩:=hb.zone
   exact (zsub b p ⟨j,ob',hj,hp⟩).2 rfl
  ·intro j ob' b o hj hb hx
   rcases hgo j ob' hj with⟨h1,_⟩ | rfl
   ·exact R.heap.apart j ob' b o h1 hb hx
   ·exact hb.elim
  ·have:=(R.free k hk).2
   have hne:Id.loc k≠i:=by rintro rfl;rw[this]at hi;cases hi
   simp[AO,hne,this]
theorem Rz {σ:St}{K:CD→St→Prop}{a:Act}{w:World}{gop:Operand}{ps:Array Tmp}{assign body:Code}(hk:UK C.M ti C.nt gop ps assign body σ K) (R:CL C σ a w):
  (Code.rangeFunc gop ps assign body).wpIn (Bg C.ro) 0 C.P (UL C K) a w:=by
 obtain⟨σ1,hwk,hk⟩:=hk
 obtain⟨g,R1⟩:=hwk C a w R
 have hf:=AY ti 0 gop R1 (s:=Ab σ1.slots) (fun _ _=>rfl)
 split at hk
 rotate_left
 ·exact hk.elim
 rename_i n cap hop
 rw[hop]at hf
 obtain⟨hfv,hcap⟩:=hf
 obtain⟨sl,hsl,hk⟩:=hk
 refine wpIn_rangeFunc fun fn _=>?_
 obtain⟨l,mark,w1,C2,g2,hent,hle,hlnew,hgl,R2,hyl,hg2⟩:=Rx R1 (n:=σ1.next) (Nat.le_refl _) ps assign body sl hsl fn
 have hcapne:∀i∈cap,i≠ .loc σ1.next:=by
  rintro i hi rfl
  obtain⟨b,hb⟩:=hcap _ hi
  rw[(R1.free σ1.next (Nat.le_refl _)).1]at hb
  simp[undef]at hb
 rw[←hle.M]at hk
 have R2':Ac C2 (fun k=>σ1.next≤k∧k≠σ1.next) (Ab σ1.slots) (AX (Dr σ1.heap (.loc σ1.next) (.rnd (fun _=>⟨ps,assign,body,C.nt⟩) sl))) g2 {a with defers:=mark++a.defers} w1:=by
  rw[DM];exact R2
 have hsound:=I6 (C:=C2) (Q:=UL C K) (vals:=#[.func (.yield l) #[] #[]]++(cap.map (fun i=>EL (g i) 0)).toArray) (σ:=⟨σ1.slots,Dr σ1.heap (.loc σ1.next) (.rnd (fun _=>⟨ps,assign,body,C.nt⟩) sl),σ1.next+64⟩) R2' hk (fun k hk=>⟨by omega,by omega⟩) (by simp) (by simp[Nat.add_comm]) (fun j x v hx hv=>by
  match j with
  | 0=>
   simp at hx hv
   subst hx;subst hv
   have:=(hyl (.func (.yield l) #[] #[])).2 rfl
   rw[←DM]at this
   exact this
  | j+1=>
   simp only[List.getElem?_cons_succ,List.getElem?_map,Option.map_eq_some_iff]at hx
   obtain⟨i,hi,rfl⟩:=hx
   rw[Array.getElem?_append_right (by simp)]at hv
   simp only[List.size_toArray,List.length_cons,List.length_nil,Nat.zero_add,Nat.add_sub_cancel,List.getElem?_toArray,List.getElem?_map,Option.map_eq_some_iff]at hv
   obtain⟨i',hi',rfl⟩:=hv
   rw[hi]at hi'
   obtain rfl:i=i':=by simpa using hi'
   obtain⟨b,hb⟩:=hcap i (List.mem_of_getElem? hi)
   have e:=hg2 i (hcapne i (List.mem_of_getElem? hi))
   exact⟨⟨b,by rw[e];exact hb⟩,by rw[e]⟩)
 obtain⟨⟨fnc,cbody,hfn,hb,hname⟩,hcall⟩:=hsound
 have hP:C2.P=C.P:=by show C2.M.P=C.M.P;rw[hle.M]
 rw[hP]at hfn hcall
 obtain⟨d,hres,hinv⟩:=Rv (P:=C.P) (w:=w1) (l:=l) hfv hfn hb hname
 refine⟨l,mark,w1,d,w1,n,_,w1,hent,hres,fun f _=>Dn _ f,hinv,fun h=>absurd (C0 C.ro h) (by omega),FH (hcall.mono ?_)⟩
 intro e w3 he
 cases e with
 | panicked ch=>exact he
 | outgrown=>exact he
 | returned v=>
  obtain⟨σ2,hk2,hnx,g3,hg3,R3⟩:=he
  have hg3l:g3 (.loc σ1.next)= .map (some l):=by rw[hg3 _ _ hgl];exact hgl
  have ha:(({a with defers:=mark++a.defers}:Act).put none v)={a with defers:=mark++a.defers}:=rfl
  rw[ha]at R3
  have leave:∀(ob:AH) (L:Loop),AX σ2.heap (.loc σ1.next)=some ob→(∀b o,Bf (g3 (.loc σ1.next)) ob b o↔B7 (g3 (.loc σ1.next)) b)→w3.heap[l]?=some (.loop L)→L.state≠ .busy→
    ∃C3 w4,D6 C C3∧(Instr.endLoop l).run C.P w3= .ok L.pending w4∧CL C3 ⟨σ2.slots,Dr σ2.heap (.loc σ1.next) .gone,σ2.next⟩ {a with defers:=mark++a.defers} w4:=by
   intro ob L ho hz hl hb
   obtain⟨C3,hle3,R4⟩:=Ry R3 ho (l:=l) (L:=L) (fun o=>(hz l o).2 (by rw[hg3l];exact .inl rfl)) hl hlnew (.loop {L with state:=.exhausted})
   refine⟨C3,_,hle.trans hle3,run_endLoop hl hb,g3,?_⟩
   rw[DM]
   refine R4.A0 fun k hk=>?_
   have hk:σ2.next≤k:=hk
   rw[hnx]at hk
   have hk:σ1.next+64≤k:=hk
   exact⟨⟨by omega,by omega⟩,by omega⟩
  show rangePost _ _ _ _ _ _ _ _
  unfold rangePost
  simp only[]
  split at hk2
  ·rename_i r2 sl2 ho
   obtain⟨l',L,e1,e2,e3,e4,_⟩:=R3.heap.objs _ _ ho
   rw[hg3l]at e1
   cases e1
   obtain⟨C3,w4,k1,k2,k3⟩:=leave _ L ho (fun _ _=>Iff.rfl) e2 (by rw[e3];simp)
   exact⟨_,w4,k2,by rw[e4];exact⟨C3,k1,_,hk2,k3⟩⟩
  ·rename_i j ho
   obtain⟨l',L,e1,e2,e3,e4⟩:=R3.heap.objs _ _ ho
   rw[hg3l]at e1
   cases e1
   obtain⟨C3,w4,k1,k2,k3⟩:=leave _ L ho (fun _ _=>Iff.rfl) e2 (by rw[e3];simp)
   refine⟨_,w4,k2,?_⟩
   rw[e4]
   cases j with
   | none=>exact wpIn_ret ⟨C3,k1,_,hk2,k3⟩
   | some id=>exact wpIn_exit ⟨C3,k1,_,hk2,k3⟩
  ·exact hk2.elim
end
theorem Bv {ti:Types}{dr:WR}{M:BO}{nt:Nat}{ro:Option Nat}(hti:BN M.P ti) (h1:Bu ti) (hdr:∀C:Cx,C.M=M→C.nt=nt→KD C dr):∀(c:Code) (σ:St) (K:CD→St→Prop) (C:Cx) (a:Act) (w:World),C.M=M→C.nt=nt→C.ro=ro→
  exec M ti nt dr c σ K→CL C σ a w→c.wpIn (Bg ro) 0 M.P (UL C K) a w
 | .skip,σ,K,C,a,w,_,_,_,hk,R=>wpIn_skip ⟨C,.refl C,σ,hk,R⟩
 | .region id ops draw,σ,K,C,a,w,hM,hn,hr,hk,R=>by
  subst hM;subst hn;subst hr
  cases draw with
  | false=>
   refine wpIn_region ?_
   have:=CZ (Q:=UL C K) hti h1 (fun σ a w hk R=>⟨C,.refl C,σ,hk,R⟩) ops.toList 0 σ a w rfl hk (R.A0 (fun n hn=>by omega))
   simpa [List.range_eq_range'] using this
  | true=>exact hdr C rfl rfl id ops σ _ (UL C K) a w (fun σ a w hk R=>⟨C,.refl C,σ,hk,R⟩) hk R
 | .seq x y,σ,K,C,a,w,hM,hn,hr,hk,R=>by
  rcases (M.lock_iff _).1 hk with hk | ⟨I,hk,hb⟩
  ·refine wpIn_seq (wpIn_mono (Bv hti h1 hdr x σ _ C a w hM hn hr hk R) ?_)
   intro e a' w' hq
   cases e with
   | normal=>
    obtain⟨C',hle,σ',hk',R'⟩:=hq
    exact wpIn_mono (Bv hti h1 hdr y σ' K C' a' w' (hle.M.trans hM) (hle.nt.trans hn) (hle.ro.trans hr) hk' R') fun e a w q=>q.mono hle
   | exit id=>exact hq
   | ret=>exact hq
   | goto l=>exact hq
   | panic ch=>exact hq
   | outgrown=>exact hq
  ·refine wpIn_seq (wpIn_mono (Bv hti h1 hdr x σ _ C a w hM hn hr hk R) ?_)
   intro e a' w' hq
   cases e with
   | normal=>
    obtain⟨C',hle,σ',⟨σ2,hw,hi⟩,R'⟩:=hq
    exact wpIn_mono (Bv hti h1 hdr y σ2 K C' a' w' (hle.M.trans hM) (hle.nt.trans hn) (hle.ro.trans hr) (hb σ2 hi) (hw _ _ _ R')) fun e a w q=>q.mono hle
   | exit id=>exact hq
   | ret=>exact hq
   | goto l=>exact hq
   | panic ch=>exact hq
   | outgrown=>exact hq
 | .cond c x y,σ,K,C,a,w,hM,hn,hr,hk,R=>by
  obtain⟨q,hq,hk⟩:=OI.1 hk
  have hc:a.eval c= .bool q:=by
   obtain⟨g,R'⟩:=R
   have:=AY ti 0 c R' (s:=Ab σ.slots) (fun _ _=>rfl)
   rw[hq]at this
   exact Pu this
  refine wpIn_cond hc ?_
  cases q with
  | true=>exact Bv hti h1 hdr x σ K C a w hM hn hr hk R
  | false=>exact Bv hti h1 hdr y σ K C a w hM hn hr hk R
 | .block id c,σ,K,C,a,w,hM,hn,hr,hk,R=>by
  refine wpIn_block (wpIn_mono (Bv hti h1 hdr c σ _ C a w hM hn hr hk R) ?_)
  intro e a' w' hq
  cases e with
  | normal=>exact hq
  | exit id'=>
   obtain⟨C',hle,σ',hk',R'⟩:=hq
   show if id'=id then UL C K .normal a' w' else UL C K (.exit id') a' w'
   revert hk'
   simp only[]
   cases hb:Nat.beq id' id with
   | true=>
    intro hk'
    rw[if_pos (Nat.eq_of_beq_eq_true hb)]
    exact⟨C',hle,σ',hk',R'⟩
   | false=>
    intro hk'
    rw[if_neg (Nat.ne_of_beq_eq_false hb)]
    exact⟨C',hle,σ',hk',R'⟩
  | ret=>exact hq
  | goto l=>exact hq
  | panic ch=>exact hq
  | outgrown=>exact hq
 | .loop c,σ,K,C,a,w,hM,hn,hr,hk,R=>by
  rcases (M.lock_iff _).1 hk with hk | ⟨n,hk⟩
  rotate_left
  ·refine wpIn_loop_rounds n ?_
   have key:∀n σ C' a w,D6 C C'→Hd (fun σ K=>exec M ti nt dr c σ K) K n σ→CL C' σ a w→Code.roundsIn (Bg ro) 0 M.P c (UL C K) n a w:=by
    intro n
    induction n with
    | zero=>intro σ C' a w _ h _;exact h.elim
    | succ n ih=>
     intro σ C' a w hle h R
     refine wpIn_mono (Bv hti h1 hdr c σ _ C' a w (hle.M.trans hM) (hle.nt.trans hn) (hle.ro.trans hr) h R) ?_
     intro e a' w' hq
     cases e with
     | normal=>
      obtain⟨C2,hle2,σ',h',R'⟩:=hq
      exact ih σ' C2 a' w' (hle.trans hle2) h' R'
     | exit id=>exact UL.mono hle hq
     | ret=>exact UL.mono hle hq
     | goto l=>exact hq
     | panic ch=>exact hq
     | outgrown=>exact hq
   exact key n σ C a w (.refl C) hk R
  obtain⟨I,m,⟨σ0,hw,hI⟩,hround⟩:=hk
  classical
  let J:Act→World→Prop:=fun a w=>∃n σ C',D6 C C'∧I n σ∧CL C' σ a w
  let μ:Act→World→Nat:=fun a w=>if h:∃n σ C',D6 C C'∧I n σ∧CL C' σ a w then Classical.choose (least h)else 0
  have hμ:∀a w n σ C',D6 C C'→I n σ→CL C' σ a w→μ a w≤n:=by
   intro a w n σ C' hle hi hr
   have hh:∃n σ C',D6 C C'∧I n σ∧CL C' σ a w:=⟨n,σ,C',hle,hi,hr⟩
   show (if h:∃n σ C',D6 C C'∧I n σ∧CL C' σ a w then Classical.choose (least h)else 0)≤n
   rw[dif_pos hh]
   exact (Classical.choose_spec (least hh)).2 n ⟨σ,C',hle,hi,hr⟩
  refine wpIn_loop J μ ⟨m,σ0,C,.refl C,hI,hw _ _ _ R⟩ ?_
  rintro a w ⟨n0,σ1,C1,hle1,hi0,hr0⟩
  have hh:∃n σ C',D6 C C'∧I n σ∧CL C' σ a w:=⟨n0,σ1,C1,hle1,hi0,hr0⟩
  obtain⟨σ2,C2,hle2,hi,hr2⟩:=(Classical.choose_spec (least hh)).1
  have hμa:μ a w=Classical.choose (least hh):=dif_pos hh
  refine wpIn_mono (Bv hti h1 hdr c σ2 _ C2 a w (hle2.M.trans hM) (hle2.nt.trans hn) (hle2.ro.trans hr) (hround _ σ2 hi) hr2) ?_
  intro e a' w' hq
  cases e with
  | normal=>
   obtain⟨C3,hle3,σ',⟨n',σ3,hlt,hwk,hi3⟩,R'⟩:=hq
   exact⟨⟨n',σ3,C3,hle2.trans hle3,hi3,hwk _ _ _ R'⟩,by
    have:=hμ a' w' n' σ3 C3 (hle2.trans hle3) hi3 (hwk _ _ _ R')
    omega⟩
  | exit id=>exact UL.mono hle2 hq
  | ret=>exact UL.mono hle2 hq
  | goto l=>exact hq
  | panic ch=>exact hq
  | outgrown=>exact hq
 | .exit id,σ,K,C,a,w,_,_,_,hk,R=>wpIn_exit ⟨C,.refl C,σ,hk,R⟩
 | .ret,σ,K,C,a,w,_,_,_,hk,R=>wpIn_ret ⟨C,.refl C,σ,hk,R⟩
 | .rangeFunc g ps assign body,σ,K,C,a,w,hM,hn,hr,hk,R=>by
  subst hM;subst hn;subst hr
  exact Rz ((C.M.lock_iff _).1 hk) R
 | .scope _,_,_,_,_,_,_,_,_,hk,_=>hk.elim
 | .label _,_,_,_,_,_,_,_,_,hk,_=>hk.elim
 | .goto _,_,_,_,_,_,_,_,_,hk,_=>hk.elim
 | .refuse _,_,_,_,_,_,_,_,_,hk,_=>hk.elim
end Go.AM
namespace Go.AM
open Go Go.RowKit
def LY (n:Nat):Id→Bool
 | .loc k=>Nat.blt k n
 | .ext _=>true
def aJ (n:Nat):CV→Bool
 | .ptr i _=>LY n i
 | .fn _ cap=>B4 (LY n) cap
 | .lst i _ _ _=>LY n i
 | .sl i _=>LY n i
 | .map i=>LY n i
 | .ap i _ _ _ _=>LY n i
 | .ow i=>LY n i
 | .op i _ _ _=>LY n i
 | .yl i=>LY n i
 | _=>true
def gX (n:Nat):V1→Bool
 | .d _=>true
 | .c x=>aJ n x
 | .agg cs=>B4 (aJ n) cs
def Y4 (n:Nat):AV→Bool
 | .u=>true
 | .v x=>gX n x
 | .t xs=>B4 (gX n) xs
def XG (n:Nat):AH→Bool
 | .cells cs=>B4 (aJ n) cs
 | .tok ..=>true
 | .map _ _ es=>B4 (fun e=>gX n e.2) es
 | .arr cs1 _ _ _ cs2=>match B4 (aJ n) cs1 with
  | true=>B4 (aJ n) cs2
  | false=>false
 | .tree _ _ _ _ foc=>match foc with
  | some x=>B4 (aJ n) x.2
  | none=>true
 | .gone=>true
 | .rnd _ sl=>B4 (fun x=>Y4 n x.2) sl
 | .rndX _=>true
theorem B8 {α:Type}{f:α→α}{l:List α}(h:∀x∈l,f x=x):l.map f=l:=by
 induction l with
 | nil=>rfl
 | cons x l ih=>simp[h x (by simp),ih (fun y hy=>h y (by simp[hy]))]
section
variable {n N:Nat}
def low (n N:Nat):Id→Id
 | .loc k=>if k<n then .loc k else .loc N
 | .ext j=>.ext j
theorem Cj {i:Id}(h:LY n i=true):low n N i=i:=by
 cases i with
 | ext j=>rfl
 | loc k=>
  have:k<n:=by simpa [LY] using h
  simp[low,this]
theorem KE {c:CV}(h:aJ n c=true):c.BL (low n N)=c:=by
 cases c<;>simp only[CV.BL,aJ]at h ⊢
 ·rw[Cj h]
 ·congr 1
  rw[BM]at h
  exact B8 fun i hi=>Cj (h i hi)
 ·rw[Cj h]
 ·rw[Cj h]
 ·rw[Cj h]
 ·rw[Cj h]
 ·rw[Cj h]
 ·rw[Cj h]
 ·rw[Cj h]
theorem UM {c:V1}(h:gX n c=true):c.BL (low n N)=c:=by
 cases c<;>simp only[V1.BL,gX]at h ⊢
 ·rw[KE h]
 ·congr 1
  rw[BM]at h
  exact B8 fun i hi=>KE (h i hi)
theorem XH {c:AV}(h:Y4 n c=true):c.BL (low n N)=c:=by
 cases c<;>simp only[AV.BL,Y4]at h ⊢
 ·rw[UM h]
 ·congr 1
  rw[BM]at h
  exact B8 fun i hi=>UM (h i hi)
theorem Y5 {c:AH}(h:XG n c=true):c.BL (low n N)=c:=by
 cases c<;>simp only[AH.BL,XG]at h ⊢
 ·congr 1
  rw[BM]at h
  exact B8 fun i hi=>KE (h i hi)
 ·congr 1
  rw[BM]at h
  exact B8 fun i hi=>by rw[UM (h i hi)]
 ·split at h
  ·rename_i h1
   rw[BM]at h h1
   rw[B8 fun i hi=>KE (h1 i hi),B8 fun i hi=>KE (h i hi)]
  ·cases h
 ·congr 1
  split at h
  ·rw[BM]at h
   show some (_,List.map (CV.BL (low n N)) _)=_
   rw[B8 (f:=CV.BL (low n N)) fun i hi=>KE (h i hi)]
  ·rfl
 ·congr 1
  rw[BM]at h
  refine B8 fun i hi=>?_
  show (i.1,i.2.BL (low n N))=i
  rw[XH (h i hi)]
end
def Part (σ σ':St):Prop:=
 (∀t,Ab σ'.slots t= .u∨Ab σ'.slots t=Ab σ.slots t)∧(∀i o,AX σ'.heap i=some o→AX σ.heap i=some o)∧
 (∀t,Y4 σ'.next (Ab σ'.slots t)=true)∧(∀i o,AX σ'.heap i=some o→LY σ'.next i=true∧XG σ'.next o=true)
theorem WV {σ σ':St}(h:Part σ σ'):CH σ σ':=by
 obtain⟨hs,hh,hb,ho⟩:=h
 rintro C a w ⟨g,R⟩
 let N:=max σ.next σ'.next
 let r:=low σ'.next N
 let g':AW:=fun i=>g (r i)
 have hN:=R.free N (Nat.le_max_left _ _)
 have hz:∀b o,zone g' (AX σ'.heap) b o→zone g (AX σ.heap) b o:=by
  rintro b o ⟨i,ob,hi,h1⟩
  refine⟨i,ob,hh i ob hi,?_⟩
  have:g' i=g i:=by show g (low _ _ i)=g i;rw[Cj (ho i ob hi).1]
  rw[←this];exact h1
 have hzz:∀b o,BG (zone g' (AX σ'.heap)) C.X b o→BG (zone g (AX σ.heap)) C.X b o:=fun b o hx=>hx.imp (hz b o) id
 have ht:∀i n sz e,AX σ'.heap i=some (.tok n sz e)→AX σ.heap (r i)=some (.tok n sz e):=by
  intro i n sz e hi
  rw[show r i=i from Cj (ho i _ hi).1]
  exact hh i _ hi
 have hw:∀i,isLive (AX σ'.heap i)=true→isLive (AX σ.heap (r i))=true:=by
  intro i hi
  cases hc:AX σ'.heap i with
  | none=>rw[hc]at hi;cases hi
  | some o=>
   rw[show r i=i from Cj (ho i _ hc).1,hh i _ hc,←hc]
   exact hi
 refine⟨g',R.size,R.defers,fun t=>?_,⟨fun i o hi=>?_,fun i j oi oj b hi hj bi bj=>?_,fun i oi b o hi bi=>?_⟩,R.frame,fun j=>R.ext j,fun j ob b o hj hz'=>?_,R.xs,fun n hn=>⟨?_,?_⟩⟩
 ·rcases hs t with e | e
  ·rw[e];trivial
  ·have:=R.slots t
   rw[←e,←XH (N:=N) (hb t)]at this
   exact Ar.pull (r:=r) hzz (fun _=>rfl) ht hw this
 ·have h1:=R.heap.objs i o (hh i o hi)
  rw[←Y5 (N:=N) (ho i o hi).2]at h1
  have:=BX.pull (r:=r) (g':=g') hzz (fun _=>rfl) ht hw h1
  rw[show g' i=g i from by show g (low _ _ i)=g i;rw[Cj (ho i o hi).1]]
  exact this
 ·have e1:g' i=g i:=by show g (low _ _ i)=g i;rw[Cj (ho i oi hi).1]
  have e2:g' j=g j:=by show g (low _ _ j)=g j;rw[Cj (ho j oj hj).1]
  rw[e1]at bi
  rw[e2]at bj
  exact R.heap.sep i j oi oj b (hh i oi hi) (hh j oj hj) bi bj
 ·have e1:g' i=g i:=by show g (low _ _ i)=g i;rw[Cj (ho i oi hi).1]
  rw[e1]at bi
  exact R.heap.apart i oi b o (hh i oi hi) bi
 ·have e1:g' j=g j:=by show g (low _ _ _)=_;rw[Cj (ho _ ob hj).1]
  rw[e1]at hz'
  exact R.within j ob b o (hh _ ob hj) hz'
 ·have:¬n<σ'.next:=by omega
  show g (low _ _ (.loc n))=undef
  simp only[low,if_neg this]
  exact hN.1
 ·cases hc:AX σ'.heap (.loc n)with
  | none=>rfl
  | some o=>
   have:=(ho _ o hc).1
   simp[LY]at this
   omega
def Gz (l:List (Nat×AV)):List Nat→List (Nat×AV)
 | []=>[]
 | k::ks=>(k,Ab l k)::Gz l ks
def Ku (l:List (Id×AH)):List Id→Option (List (Id×AH))
 | []=>some []
 | i::is=>match AX l i with
  | some o=>match Ku l is with
   | some r=>some ((i,o)::r)
   | none=>none
  | none=>none
def LZ (ks:List Nat) (is:List Id) (n:Nat) (σ:St) (K:St→Prop):Prop:=
 match Ku σ.heap is with
 | none=>False
 | some hp=>B5 (B4 (fun x=>Y4 n x.2) (Gz σ.slots ks))<| B5 (B4 (fun x:Id×AH=>match LY n x.1 with | true=>XG n x.2 | false=>false) hp)<|
   K ⟨Gz σ.slots ks,hp,n⟩
theorem Ob {l:List (Nat×AV)}{ks:List Nat}(t:Nat):Ab (Gz l ks) t= .u∨Ab (Gz l ks) t=Ab l t:=by
 induction ks with
 | nil=>exact .inl rfl
 | cons k ks ih=>
  show Ab ((k,Ab l k)::Gz l ks) t=_∨Ab ((k,Ab l k)::Gz l ks) t=_
  rw[DK]
  simp only[]
  split
  ·subst t;exact .inr rfl
  ·exact ih
theorem R5 {p:AV→Bool}(hu:p .u=true) {l:List (Nat×AV)}(h:B4 (fun x=>p x.2) l=true) (t:Nat):p (Ab l t)=true:=by
 induction l with
 | nil=>exact hu
 | cons x l ih=>
  obtain⟨k,v⟩:=x
  rw[BM]at h
  rw[DK]
  simp only[]
  split
  ·exact h (k,v) (by simp)
  ·exact ih (BM.2 fun x hx=>h x (by simp[hx]))
theorem Hf {l:List (Id×AH)}:∀{is:List Id}{r:List (Id×AH)},Ku l is=some r→∀i o,AX r i=some o→AX l i=some o∧(i,o)∈r
 | [],r,h,i,o,hi=>by simp[Ku]at h;subst h;simp[AX]at hi
 | j::is,r,h,i,o,hi=>by
  unfold Ku at h
  split at h
  ·rename_i o' ho
   split at h
   ·rename_i r' hr
    simp at h
    subst h
    rw[CY]at hi
    simp only[AO]at hi
    split at hi
    ·simp at hi
     subst hi
     subst i
     exact⟨ho,by simp⟩
    ·obtain⟨h1,h2⟩:=Hf hr i o hi
     exact⟨h1,by simp[h2]⟩
   ·simp at h
  ·simp at h
theorem Fq {ks:List Nat}{is:List Id}{n:Nat}{σ:St}{K:St→Prop}(h:LZ ks is n σ K):∃σ',CH σ σ'∧K σ':=by
 unfold LZ at h
 split at h
 ·exact h.elim
 ·rename_i hp hhp
  obtain⟨h1,h⟩:=AN.1 h
  obtain⟨h2,h⟩:=AN.1 h
  refine⟨_,WV ⟨fun t=>Ob t,fun i o hi=>(Hf hhp i o hi).1,fun t=>R5 rfl h1 t,fun i o hi=>?_⟩,h⟩
  have:=BM.1 h2 _ (Hf hhp i o hi).2
  simp only[]at this
  split at this
  ·rename_i hb;exact⟨hb,this⟩
  ·simp at this
end Go.AM
namespace Go.AM
open Go Go.RowKit
def XI:CV→Value→Bool
 | .d (.int k n),.int k' m=>decide (k=k')&&decide (n=m)
 | .d (.bool b),.bool b'=>b==b'
 | .d (.str s),.string s'=>s.data.toList.isEmpty&&s'.data.toList.isEmpty
 | .nils _ _,.slice none 0 0=>true
 | .nilp,.pointer none=>true
 | .nilf,.nilFunc=>true
 | .nilm,.map none=>true
 | _,_=>false
def Oc:List CV→List Value→Bool
 | [],[]=>true
 | c::cs,v::vs=>XI c v&&Oc cs vs
 | _,_=>false
def Good (P:Program) (t:TypeId) (x:TI):Prop:=
 P.underlying t=some x.desc∧(P.info? t).map (fun i=>(i.size,i.bytes,i.zero))=some (x.size,x.bytes,some x.zero)∧
 (Oc x.zc x.zero.cells.toList&&(Nat.beq x.zc.length x.size&&(Aj x.desc || Nat.beq x.size 1)))=true
def Ce (P:Program):List (Nat×TI)→Prop
 | []=>True
 | p::l=>Good P p.1 p.2∧Ce P l
def Fs (P:Program):List (List (Nat×TI))→Prop
 | []=>True
 | p::l=>Ce P p∧Fs P l
def assoc:List (Nat×TI)→Nat→Option TI
 | [],_=>none
 | (k,x)::l,t=>match Nat.beq k t with
  | true=>some x
  | false=>assoc l t
def nth {α:Type}:List (List α)→Nat→List α
 | [],_=>[]
 | x::l,n=>match n with
  | 0=>x
  | n+1=>nth l n
def VC (l:List (List (Nat×TI))):Types:=fun t=>assoc (nth l (t / 16)) t
theorem XJ {c:CV}{v:Value}(h:XI c v=true):Tx c v:=by
 unfold XI at h
 split at h
 ·simp at h;exact h
 ·simpa [Tx] using h
 ·simp only[Bool.and_eq_true,List.isEmpty_iff]at h
  have e:∀s:ByteArray,s.data.toList=[]→s=ByteArray.empty:=by
   intro s hs
   apply ByteArray.ext
   apply Array.ext'
   rw[hs];rfl
  rw[e _ h.1,e _ h.2];rfl
 ·trivial
 ·trivial
 ·trivial
 ·trivial
 ·simp at h
theorem R6:∀{cs:List CV}{vs:List Value},Oc cs vs=true→vs.length=cs.length∧∀(j:Nat) c u,cs[j]?=some c→vs[j]?=some u→Tx c u
 | [],[],_=>⟨rfl,by simp⟩
 | c::cs,v::vs,h=>by
  simp only[Oc,Bool.and_eq_true]at h
  obtain⟨h1,h2⟩:=R6 h.2
  refine⟨by simp[h1],fun j c' u hc hu=>?_⟩
  match j with
  | 0=>simp at hc hu;subst hc;subst hu;exact XJ h.1
  | j+1=>simp at hc hu;exact h2 j c' u hc hu
 | [],_::_,h=>by simp[Oc]at h
 | _::_,[],h=>by simp[Oc]at h
theorem Ma {P:Program}:∀{l:List (Nat×TI)}{t:Nat}{x:TI},Ce P l→assoc l t=some x→Good P t x
 | [],t,x,_,h=>by simp[assoc]at h
 | (k,y)::l,t,x,hg,h=>by
  unfold assoc at h
  split at h
  ·rename_i hb
   simp at h
   subst h
   have:=Nat.eq_of_beq_eq_true hb
   subst this
   exact hg.1
  ·exact Ma hg.2 h
theorem R7 {P:Program}:∀{l:List (List (Nat×TI))}{n:Nat},Fs P l→Ce P (nth l n)
 | [],_,_=>trivial
 | x::l,0,h=>h.1
 | x::l,n+1,h=>R7 (l:=l) (n:=n) h.2
theorem Mb {P:Program}{l:List (List (Nat×TI))}(h:Fs P l) {t:Nat}{x:TI}(hx:VC l t=some x):Good P t x:=Ma (R7 h) hx
theorem XK {P:Program}{l:List (List (Nat×TI))}(h:Fs P l):BN P (VC l):=by
 intro t x hx
 obtain⟨h1,h2,h3⟩:=Mb h hx
 refine⟨h1,?_⟩
 simp only[Option.map_eq_some_iff]at h2
 obtain⟨i,hi,he⟩:=h2
 simp only[Prod.mk.injEq]at he
 simp only[Bool.and_eq_true,Nat.beq_eq]at h3
 obtain⟨z1,z2⟩:=R6 h3.1
 refine⟨i,hi,he.1,he.2.1,he.2.2,?_,h3.2.1,fun j c u hc hu=>z2 j c u hc (by simpa using hu)⟩
 rw[←h3.2.1,←z1]
 simp
theorem WW {P:Program}{l:List (List (Nat×TI))}(h:Fs P l):Bu (VC l):=by
 intro t x hx hr
 obtain⟨_,_,h3⟩:=Mb h hx
 simp only[Bool.and_eq_true,Bool.or_eq_true,Nat.beq_eq]at h3
 rcases h3.2.2 with h4 | h4
 ·rw[hr]at h4;simp at h4
 ·exact h4
end Go.AM
namespace Go.Proofs.YtjmofeakajdbiaaGreatDoor
open Go Go.AM
def aK:List (Nat×TI):=[(2,⟨.int .i64,1,8,.int .i64 0,[.d (.int .i64 0)]⟩),
 (3,⟨.int .i64,1,8,.int .i64 0,[.d (.int .i64 0)]⟩),
 (4,⟨.bool,1,1,.bool false,[.d (.bool false)]⟩),
 (5,⟨.int .u8,1,1,.int .u8 0,[.d (.int .u8 0)]⟩),
 (9,⟨.string,1,16,.string ByteArray.empty,[.d (.str ByteArray.empty)]⟩)]
theorem gY:Ce Tryz.prog aK:=⟨⟨by kernel_rfl,by kernel_rfl,by kernel_rfl⟩,⟨by kernel_rfl,by kernel_rfl,by kernel_rfl⟩,⟨by kernel_rfl,by kernel_rfl,by kernel_rfl⟩,⟨by kernel_rfl,by kernel_rfl,by kernel_rfl⟩,⟨by kernel_rfl,by kernel_rfl,by kernel_rfl⟩,trivial⟩
def aL:List (Nat×TI):=[(22,⟨.slice 45,1,24,.slice none 0 0,[.nils true 16]⟩),
 (23,⟨.struct #[⟨"Items",22,0,false, "", "",0⟩],1,24,.agg #[.slice none 0 0],[.nils true 16]⟩),
 (24,⟨.struct #[⟨"Items",22,0,false, "", "",0⟩],1,24,.agg #[.slice none 0 0],[.nils true 16]⟩),
 (31,⟨.slice 33,1,24,.slice none 0 0,[.nils true 3]⟩)]
theorem gZ:Ce Tryz.prog aL:=⟨⟨by kernel_rfl,by kernel_rfl,by kernel_rfl⟩,⟨by kernel_rfl,by kernel_rfl,by kernel_rfl⟩,⟨by kernel_rfl,by kernel_rfl,by kernel_rfl⟩,⟨by kernel_rfl,by kernel_rfl,by kernel_rfl⟩,trivial⟩
def aN:List (Nat×TI):=[(33,⟨.struct #[⟨"Kind",5,0,false, "", "",0⟩,⟨"Name",9,1,false, "", "",8⟩,⟨"Args",31,2,false, "", "",24⟩],3,48,.agg #[.int .u8 0,.string ByteArray.empty,.slice none 0 0],[.d (.int .u8 0),.d (.str ByteArray.empty),.nils true 3]⟩),
 (34,⟨.slice 9,1,24,.slice none 0 0,[.nils false 1]⟩),
 (36,⟨.struct #[⟨"Name",9,0,false, "", "",0⟩,⟨"Path",34,1,false, "", "",16⟩],2,40,.agg #[.string ByteArray.empty,.slice none 0 0],[.d (.str ByteArray.empty),.nils false 1]⟩),
 (37,⟨.slice 39,1,24,.slice none 0 0,[.nils true 8]⟩),
 (39,⟨.struct #[⟨"Op",5,0,false, "", "",0⟩,⟨"Int",2,1,false, "", "",8⟩,⟨"Name",9,2,false, "", "",16⟩,⟨"Second",9,3,false, "", "",32⟩,⟨"Place",36,4,false, "", "",48⟩,⟨"Args",37,6,false, "", "",88⟩,⟨"At",3,7,false, "", "",112⟩],8,120,.agg #[.int .u8 0,.int .i64 0,.string ByteArray.empty,.string ByteArray.empty,.string ByteArray.empty,.slice none 0 0,.slice none 0 0,.int .i64 0],[.d (.int .u8 0),.d (.int .i64 0),.d (.str ByteArray.empty),.d (.str ByteArray.empty),.d (.str ByteArray.empty),.nils false 1,.nils true 8,.d (.int .i64 0)]⟩),
 (40,⟨.func #[33] #[4] false,1,8,.nilFunc,[.nilf]⟩),
 (41,⟨.func #[39] #[4] false,1,8,.nilFunc,[.nilf]⟩),
 (42,⟨.slice 74,1,24,.slice none 0 0,[.nils true 4]⟩),
 (43,⟨.slice 50,1,24,.slice none 0 0,[.nils true 15]⟩),
 (45,⟨.struct #[⟨"Kind",5,0,false, "", "",0⟩,⟨"Name",9,1,false, "", "",8⟩,⟨"Fields",42,2,false, "", "",24⟩,⟨"Result",33,3,false, "", "",48⟩,⟨"Body",43,6,false, "", "",96⟩,⟨"Return",39,7,false, "", "",120⟩,⟨"At",3,15,false, "", "",240⟩],16,248,.agg #[.int .u8 0,.string ByteArray.empty,.slice none 0 0,.int .u8 0,.string ByteArray.empty,.slice none 0 0,.slice none 0 0,.int .u8 0,.int .i64 0,.string ByteArray.empty,.string ByteArray.empty,.string ByteArray.empty,.slice none 0 0,.slice none 0 0,.int .i64 0,.int .i64 0],[.d (.int .u8 0),.d (.str ByteArray.empty),.nils true 4,.d (.int .u8 0),.d (.str ByteArray.empty),.nils true 3,.nils true 15,.d (.int .u8 0),.d (.int .i64 0),.d (.str ByteArray.empty),.d (.str ByteArray.empty),.d (.str ByteArray.empty),.nils false 1,.nils true 8,.d (.int .i64 0),.d (.int .i64 0)]⟩)]
theorem hH:Ce Tryz.prog aN:=⟨⟨by kernel_rfl,by kernel_rfl,by kernel_rfl⟩,⟨by kernel_rfl,by kernel_rfl,by kernel_rfl⟩,⟨by kernel_rfl,by kernel_rfl,by kernel_rfl⟩,⟨by kernel_rfl,by kernel_rfl,by kernel_rfl⟩,⟨by kernel_rfl,by kernel_rfl,by kernel_rfl⟩,⟨by kernel_rfl,by kernel_rfl,by kernel_rfl⟩,⟨by kernel_rfl,by kernel_rfl,by kernel_rfl⟩,⟨by kernel_rfl,by kernel_rfl,by kernel_rfl⟩,⟨by kernel_rfl,by kernel_rfl,by kernel_rfl⟩,⟨by kernel_rfl,by kernel_rfl,by kernel_rfl⟩,trivial⟩
def aO:List (Nat×TI):=[(48,⟨.slice 95,1,24,.slice none 0 0,[.nils true 3]⟩),
 (50,⟨.struct #[⟨"Op",5,0,false, "", "",0⟩,⟨"Name",9,1,false, "", "",8⟩,⟨"Second",9,2,false, "", "",24⟩,⟨"Names",34,3,false, "", "",40⟩,⟨"Type",33,4,false, "", "",64⟩,⟨"Int",2,7,false, "", "",112⟩,⟨"Place",36,8,false, "", "",120⟩,⟨"Exprs",37,10,false, "", "",160⟩,⟨"Body",43,11,false, "", "",184⟩,⟨"Else",43,12,false, "", "",208⟩,⟨"Arms",48,13,false, "", "",232⟩,⟨"At",3,14,false, "", "",256⟩],15,264,.agg #[.int .u8 0,.string ByteArray.empty,.string ByteArray.empty,.slice none 0 0,.int .u8 0,.string ByteArray.empty,.slice none 0 0,.int .i64 0,.string ByteArray.empty,.slice none 0 0,.slice none 0 0,.slice none 0 0,.slice none 0 0,.slice none 0 0,.int .i64 0],[.d (.int .u8 0),.d (.str ByteArray.empty),.d (.str ByteArray.empty),.nils false 1,.d (.int .u8 0),.d (.str ByteArray.empty),.nils true 3,.d (.int .i64 0),.d (.str ByteArray.empty),.nils false 1,.nils true 8,.nils true 15,.nils true 15,.nils true 3,.d (.int .i64 0)]⟩),
 (53,⟨.pointer 55,1,8,.pointer none,[.nilp]⟩),
 (55,⟨.struct #[⟨"Left",3,0,false, "", "",0⟩],1,8,.agg #[.int .i64 0],[.d (.int .i64 0)]⟩),
 (62,⟨.func #[33] #[33] false,1,8,.nilFunc,[.nilf]⟩)]
theorem hJ:Ce Tryz.prog aO:=⟨⟨by kernel_rfl,by kernel_rfl,by kernel_rfl⟩,⟨by kernel_rfl,by kernel_rfl,by kernel_rfl⟩,⟨by kernel_rfl,by kernel_rfl,by kernel_rfl⟩,⟨by kernel_rfl,by kernel_rfl,by kernel_rfl⟩,⟨by kernel_rfl,by kernel_rfl,by kernel_rfl⟩,trivial⟩
def aP:List (Nat×TI):=[(67,⟨.func #[45] #[4] false,1,8,.nilFunc,[.nilf]⟩),
 (74,⟨.struct #[⟨"Name",9,0,false, "", "",0⟩,⟨"Type",33,1,false, "", "",16⟩],4,64,.agg #[.string ByteArray.empty,.int .u8 0,.string ByteArray.empty,.slice none 0 0],[.d (.str ByteArray.empty),.d (.int .u8 0),.d (.str ByteArray.empty),.nils true 3]⟩),
 (78,⟨.func #[33,33] #[4] false,1,8,.nilFunc,[.nilf]⟩)]
theorem hY:Ce Tryz.prog aP:=⟨⟨by kernel_rfl,by kernel_rfl,by kernel_rfl⟩,⟨by kernel_rfl,by kernel_rfl,by kernel_rfl⟩,⟨by kernel_rfl,by kernel_rfl,by kernel_rfl⟩,trivial⟩
def aQ:List (Nat×TI):=[(85,⟨.func #[3] #[3] false,1,8,.nilFunc,[.nilf]⟩),
 (87,⟨.func #[39,39] #[4] false,1,8,.nilFunc,[.nilf]⟩),
 (90,⟨.func #[74,74] #[4] false,1,8,.nilFunc,[.nilf]⟩),
 (91,⟨.func #[45,45] #[4] false,1,8,.nilFunc,[.nilf]⟩),
 (95,⟨.struct #[⟨"Variant",9,0,false, "", "",0⟩,⟨"Name",9,1,false, "", "",16⟩,⟨"Body",43,2,false, "", "",32⟩],3,56,.agg #[.string ByteArray.empty,.string ByteArray.empty,.slice none 0 0],[.d (.str ByteArray.empty),.d (.str ByteArray.empty),.nils true 15]⟩)]
theorem iA:Ce Tryz.prog aQ:=⟨⟨by kernel_rfl,by kernel_rfl,by kernel_rfl⟩,⟨by kernel_rfl,by kernel_rfl,by kernel_rfl⟩,⟨by kernel_rfl,by kernel_rfl,by kernel_rfl⟩,⟨by kernel_rfl,by kernel_rfl,by kernel_rfl⟩,⟨by kernel_rfl,by kernel_rfl,by kernel_rfl⟩,trivial⟩
def aR:List (Nat×TI):=[(96,⟨.func #[36] #[36] false,1,8,.nilFunc,[.nilf]⟩),
 (97,⟨.func #[9] #[4] false,1,8,.nilFunc,[.nilf]⟩),
 (99,⟨.func #[74] #[4] false,1,8,.nilFunc,[.nilf]⟩),
 (100,⟨.func #[97,4] #[4] false,1,8,.nilFunc,[.nilf]⟩),
 (103,⟨.func #[50] #[4] false,1,8,.nilFunc,[.nilf]⟩),
 (105,⟨.func #[103] #[] false,1,8,.nilFunc,[.nilf]⟩),
 (106,⟨.func #[103] #[] false,1,8,.nilFunc,[.nilf]⟩)]
theorem iB:Ce Tryz.prog aR:=⟨⟨by kernel_rfl,by kernel_rfl,by kernel_rfl⟩,⟨by kernel_rfl,by kernel_rfl,by kernel_rfl⟩,⟨by kernel_rfl,by kernel_rfl,by kernel_rfl⟩,⟨by kernel_rfl,by kernel_rfl,by kernel_rfl⟩,⟨by kernel_rfl,by kernel_rfl,by kernel_rfl⟩,⟨by kernel_rfl,by kernel_rfl,by kernel_rfl⟩,⟨by kernel_rfl,by kernel_rfl,by kernel_rfl⟩,trivial⟩
def aU:List (Nat×TI):=[(113,⟨.struct #[⟨"place",4,0,false, "", "weftway/tree",0⟩,⟨"least",3,1,false, "", "weftway/tree",8⟩,⟨"most",3,2,false, "", "weftway/tree",16⟩],3,24,.agg #[.bool false,.int .i64 0,.int .i64 0],[.d (.bool false),.d (.int .i64 0),.d (.int .i64 0)]⟩),
 (119,⟨.func #[39] #[39] false,1,8,.nilFunc,[.nilf]⟩),
 (120,⟨.func #[50] #[50] false,1,8,.nilFunc,[.nilf]⟩),
 (125,⟨.func #[95] #[95] false,1,8,.nilFunc,[.nilf]⟩),
 (127,⟨.func #[74] #[74] false,1,8,.nilFunc,[.nilf]⟩)]
theorem iC:Ce Tryz.prog aU:=⟨⟨by kernel_rfl,by kernel_rfl,by kernel_rfl⟩,⟨by kernel_rfl,by kernel_rfl,by kernel_rfl⟩,⟨by kernel_rfl,by kernel_rfl,by kernel_rfl⟩,⟨by kernel_rfl,by kernel_rfl,by kernel_rfl⟩,⟨by kernel_rfl,by kernel_rfl,by kernel_rfl⟩,trivial⟩
def aV:List (Nat×TI):=[(130,⟨.func #[45] #[45] false,1,8,.nilFunc,[.nilf]⟩),
 (134,⟨.func #[50,50] #[4] false,1,8,.nilFunc,[.nilf]⟩),
 (136,⟨.func #[5] #[4] false,1,8,.nilFunc,[.nilf]⟩),
 (138,⟨.struct #[⟨"names",3,0,false, "", "weftway/tree",0⟩,⟨"exprs",3,1,false, "", "weftway/tree",8⟩,⟨"typed",4,2,false, "", "weftway/tree",16⟩,⟨"placed",4,3,false, "", "weftway/tree",17⟩,⟨"body",4,4,false, "", "weftway/tree",18⟩,⟨"other",4,5,false, "", "weftway/tree",19⟩,⟨"arms",4,6,false, "", "weftway/tree",20⟩,⟨"lent",4,7,false, "", "weftway/tree",21⟩,⟨"name",97,8,false, "", "weftway/tree",24⟩,⟨"second",97,9,false, "", "weftway/tree",32⟩],10,40,.agg #[.int .i64 0,.int .i64 0,.bool false,.bool false,.bool false,.bool false,.bool false,.bool false,.nilFunc,.nilFunc],[.d (.int .i64 0),.d (.int .i64 0),.d (.bool false),.d (.bool false),.d (.bool false),.d (.bool false),.d (.bool false),.d (.bool false),.nilf,.nilf]⟩),
 (142,⟨.func #[95] #[4] false,1,8,.nilFunc,[.nilf]⟩)]
theorem iE:Ce Tryz.prog aV:=⟨⟨by kernel_rfl,by kernel_rfl,by kernel_rfl⟩,⟨by kernel_rfl,by kernel_rfl,by kernel_rfl⟩,⟨by kernel_rfl,by kernel_rfl,by kernel_rfl⟩,⟨by kernel_rfl,by kernel_rfl,by kernel_rfl⟩,⟨by kernel_rfl,by kernel_rfl,by kernel_rfl⟩,trivial⟩
def aW:List (Nat×TI):=[(147,⟨.slice 43,1,24,.slice none 0 0,[.nils false 1]⟩),
 (149,⟨.func #[95,95] #[4] false,1,8,.nilFunc,[.nilf]⟩),
 (152,⟨.map 9 3,1,8,.map none,[.nilm]⟩),
 (157,⟨.func #[21] #[4] false,1,8,.nilFunc,[.nilf]⟩)]
theorem iG:Ce Tryz.prog aW:=⟨⟨by kernel_rfl,by kernel_rfl,by kernel_rfl⟩,⟨by kernel_rfl,by kernel_rfl,by kernel_rfl⟩,⟨by kernel_rfl,by kernel_rfl,by kernel_rfl⟩,⟨by kernel_rfl,by kernel_rfl,by kernel_rfl⟩,trivial⟩
def XL:List (List (Nat×TI)):=[aK,aL,aN,aO,aP,aQ,aR,aU,aV,aW]
def Ap:Types:=VC XL
theorem VD:Fs Tryz.prog XL:=⟨gY,gZ,hH,hJ,hY,iA,iB,iC,iE,iG,trivial⟩
theorem BU:BN Tryz.prog Ap:=XK VD
theorem BK:Bu Ap:=WW VD
end Go.Proofs.YtjmofeakajdbiaaGreatDoor
