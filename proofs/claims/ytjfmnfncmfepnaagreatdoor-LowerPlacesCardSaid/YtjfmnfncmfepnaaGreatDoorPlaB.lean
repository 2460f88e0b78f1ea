/- Part of a proof. No condition. (Part 2.) -/
import Derived.ArgAppend
import Derived.Laws.AppendOwn
import Derived.Laws.IdiomCopy
import Derived.Laws.StructEq
import Derived.Laws.BytesString
import Derived.Laws.Externs
import Derived.MapKept
import Derived.Laws.OwnMore
import Derived.Laws.Small
import Derived.Lib.AppendStr
import Derived.Test.YtjfmnfncmfepnaaGreatDoorPlaA
set_option linter.unusedVariables false
set_option linter.unusedSimpArgs false
set_option linter.unusedSectionVars false
namespace Go.AM
open Go Go.RowKit
section
variable {C:Cx}{ti:Types}{o:Oper}{fresh:Nat}{s:AL}{h:Heap}{k:Out→Prop}
theorem Sd:∀{xs:List V1}{i:Nat}{y:V1},YG xs i=some y→xs[i]?=some y
 | [],_,_,h=>by simp[YG]at h
 | x::r,0,y,h=>by simpa [YG] using h
 | x::r,i+1,y,h=>by simpa using Sd (xs:=r) (i:=i) h
theorem VF (x:Operand) (i:Nat) (ho:o.op= .extract x i) (hk:Ew (AX ti s 0 x) i k):∃out,k out∧BN C o fresh s h out:=by
 unfold Ew at hk;split at hk
 ·rename_i xs hop;split at hk
  ·rename_i y hy;refine⟨_,hk,AE fun F σs σh g a w R hs _=>?_⟩
   have hx:=AI ti 0 x R (s:=s) (fun t ht=>hs t (by subst ht;simp[ho,Op.operands]))
   rw[hop]at hx;obtain⟨vs,hv,hsz,hr⟩:=hx;have hxy:=Sd hy;have hlt:i<vs.size:=by grind
   refine⟨vs[i],?_,hr i y vs[i] hxy (by simp[hlt])⟩
   simp[execOp,ho,Instr.extract,hv,hlt]
  ·exact hk.elim
 ·exact hk.elim
theorem VG (hti:Ay C.P ti) (src dst:TypeId) (x:Operand) (ho:o.op= .convert src dst x) (hk:Ex ti src dst (AX ti s src x) k):∃out,k out∧BN C o fresh s h out:=by
 unfold Ex at hk;obtain⟨a1,h1,hk⟩:=AF.1 hk;obtain⟨b1,h2,hk⟩:=AF.1 hk;split at hk
 ·rename_i q1 q d1 d2;obtain⟨q',n,hx0,z,hz,hk⟩:=CH.1 hk;refine⟨_,hk,AE fun F σs σh g a w R hs _=>?_⟩
  have hx:=AI ti src x R (s:=s) (fun t ht=>hs t (by subst ht;simp[ho,Op.operands]))
  rw[hx0]at hx;have hx:=Ey hx;refine⟨.int q z,?_,.int _ _⟩;have e1:=Cp hti h1 w;have e2:=Cp hti h2 w;rw[d1]at e1;rw[d2]at e2;simp[execOp,ho,convert,e1,e2,hx,Conv.intToInt,hz]
 ·exact hk.elim
theorem M1 {w:World}{Z:Ak}{g:AP}{h:Heap}{y:V1}{v:Value}(hy:QP y=true) (r:Ah w Z g h y v):∃vs,v= .agg vs:=by
 cases y with
 | d x=>
  cases x with
  | agg cs=>cases (show AZ w Z (.agg cs) v from r)with | agg _ vs=>exact⟨vs,rfl⟩
  | _=>trivial
 | c x=>simp[QP]at hy
 | agg cs=>obtain⟨vs,hv,_⟩:=r;exact⟨vs,hv⟩
theorem YM (hti:Ay C.P ti) {t:TypeId}{i:TI}(hi:ti t=some i) (w:World):(isAgg t).run C.P w= .ok (AR i.desc) w:=by
 have:=Cp hti hi w;unfold isAgg;cases hd:i.desc<;>simp[hd]at this<;>simp[this,AR]
theorem M3 (hti:Ay C.P ti) (h1:BH ti) {t:TypeId}{i:TI}(hi:ti t=some i) {w:World}{Z:Ak}{g:AP}{h:Heap}{cs:List CV}{vs:Array Value}{off:Nat}(hs:vs.size=cs.length)
  (hr:∀(j:Nat) c u,cs[j]?=some c→vs[j]?=some u→BB w Z g h c u) (hb:off+i.size≤cs.length):
  ∃u,(part t vs off).run C.P w= .ok u w∧An w Z g h (.v (V1.Aa (AR i.desc) ((cs.drop off).take i.size))) u:=by
 have e1:=YM hti hi w;have e2:=Dr hti hi w;have hsz:(vs.extract off (off+i.size)).size=((cs.drop off).take i.size).length:=by simp;omega
 have hrel:∀(j:Nat) c u,((cs.drop off).take i.size)[j]?=some c→(vs.extract off (off+i.size))[j]?=some u→BB w Z g h c u:=by
  grind
 cases hrow:AR i.desc with
 | true=>
  rw[hrow]at e1;refine⟨.agg (vs.extract off (off+i.size)),by simp[part,e1,e2],(Ah.Aa hsz hrel).1 rfl⟩
 | false=>
  rw[hrow]at e1;have hone:=h1 t i hi hrow;have hlt:off<vs.size:=by omega
  refine⟨vs[off],by simp[part,e1,hlt],(Ah.Aa hsz hrel).2 rfl _ ?_⟩
  apply Array.ext
  ·simp;omega
  ·intro j h2 h3;simp at h3;subst h3;simp
theorem YN (hti:Ay C.P ti) (h1:BH ti) (t:TypeId) (x:Operand) (f:Nat) (ho:o.op= .field t x f) (hk:Fz ti t (AX ti s t x) f k):∃out,k out∧BN C o fresh s h out:=by
 unfold Fz at hk;obtain⟨i,hi,hk⟩:=AF.1 hk;split at hk
 ·rename_i fs hd;split at hk
  ·rename_i fd hfd;obtain⟨j,hj,hk⟩:=AF.1 hk;obtain⟨y,hy,hk⟩:=Cb.1 hk;obtain⟨hag,hk⟩:=AA.1 hk;obtain⟨hb,hk⟩:=AA.1 hk;have hb:=Nat.le_of_ble_eq_true hb;refine⟨_,hk,AE fun F σs σh g a w R hs _=>?_⟩
   have hx:=AI ti t x R (s:=s) (fun t ht=>hs t (by subst ht;simp[ho,Op.operands]))
   rw[hy]at hx;obtain⟨vs,hv⟩:=M1 hag hx;obtain⟨c1,c2⟩:=Ah.cells hx;have e1:=Cp hti hi w;rw[hd]at e1;rw[hv]at c1 c2;obtain⟨u,hu,hr⟩:=M3 hti h1 hj (w:=w) (vs:=vs) (off:=fd.offset) (by trivial) (fun j c u h1 h2=>c2 j c u h1 (by trivial)) hb
   refine⟨u,?_,hr⟩;simp[execOp,ho,Instr.field,e1,hfd,hv,asAgg,hu]
  ·exact hk.elim
 ·exact hk.elim
theorem Js {d:Int}{x:Option Operand}{k:Int→Prop}(hk:MI ti s d x k):∃n,k n∧((x=none∧n=d)∨∃y q,x=some y∧AX ti s 3 y= .v (.d (.int q n))):=by
 unfold MI at hk;split at hk
 ·simp_all
 ·rename_i y;obtain⟨q,n,h1,hk⟩:=CH.1 hk;simp_all
theorem CK {P:Program}{w:World}{q:IntKind}{n:Int}{y:Nat}{code:BoundsCode}(h0:0≤n) (h1:n≤y):(Instr.sliceBound (.int q n) y code).run P w= .ok n.toNat w:=by
 simp[Instr.sliceBound,asIntOf,h0,h1]
theorem tS (hti:Ay C.P ti) (t:TypeId) (x:Operand) (lo hi mx:Option Operand) (ho:o.op= .slice t x lo hi mx) {i j:TI}{e:TypeId}(hi':ti t=some i) (hd:i.desc= .slice e) (hj:ti e=some j) {id:Id}{n:Nat}(hx:AX ti s t x= .v (.c (.sl id n))) (hk:QO ti s (AR j.desc) j.size n lo hi mx k):∃out,k out∧BN C o fresh s h out:=by
 unfold QO at hk;split at hk
 ·rename_i u;obtain⟨q,z,hz,hk⟩:=CH.1 hk;obtain⟨hn,hz0,hk2⟩:=AA.1 hk;subst hz0;refine⟨_,hk2,AE fun F σs σh g a w R hs _=>?_⟩
  have h1:=AI ti t x R (s:=s) (fun t ht=>hs t (by subst ht;simp[ho,Op.operands]))
  rw[hx]at h1;obtain⟨⟨b,hb⟩,hv⟩:=h1;rw[hb]at hv;have h2:=AI ti 3 u R (s:=s) (fun t ht=>hs t (by subst ht;simp[ho,Op.operands]))
  rw[hz]at h2;have h2:=Ey h2;have e1:=Cp hti hi' w;rw[hd]at e1;have e4:=Dr hti hj w;have e6:=CK (P:=C.P) (w:=w) (q:=q) (n:=0) (y:=n) (code:=.sliceAcap) (by omega) (by omega)
  have hb2:(Instr.sliceBounds true n n none (some (.int q 0)) none).run C.P w= .ok (0,0,n) w:=by rfl
  refine⟨.slice (if n=0 then some ⟨b,0,none⟩else (some (⟨b,0,none⟩:Addr)).map (·.add (0*j.size))) 0 n,?_,?_⟩
  ·simp[execOp,ho,Instr.sliceAt,Instr.slice,e1,hv,tM,h2,hb2,e4]
  ·exact AZ.list _ _ [] _ n b 0 (fun _ _=>undef) (by simp) (Nat.le_trans (Nat.le_of_ble_eq_true hn) (by decide)) (by simp) (by simp) (by simp) (by simp)
 ·exact hk.elim
theorem YO (hti:Ay C.P ti) (t:TypeId) (x:Operand) (lo hi mx:Option Operand) (ho:o.op= .slice t x lo hi mx) (hk:HI C.M ti s t (AX ti s t x) lo hi mx k):∃out,k out∧BN C o fresh s h out:=by
 unfold HI at hk;obtain⟨i,hi',hk⟩:=AF.1 hk
 have bnd:∀{F:Nat→Prop} {σs:AL} {σh:Heap} {g:AP} {a:Act} {w:World} (R:AY C F σs σh g a w),(∀t,Operand.tmp t∈o.op.operands.toList→σs t=s t)→
   ∀y q n,(lo=some y∨hi=some y∨mx=some y)→AX ti s 3 y= .v (.d (.int q n))→a.eval y= .int q n:=by
  intro F σs σh g a w R hs y q n hy hop;have hx:=AI ti 3 y R (s:=s) (fun t ht=>hs t (by subst ht;rcases hy with h | h | h<;>simp[ho,Op.operands,h]))
  rw[hop]at hx;exact Ey hx
 split at hk
 ·rename_i hd;split at hk
  ·rename_i b hop;obtain⟨l,hk,hl⟩:=Js hk;obtain⟨u,hk,hu⟩:=Js hk;split at hk
   ·rename_i hmx;obtain⟨r,⟨h0,h1,h2⟩,hr,hk⟩:=hk;refine⟨_,hk,AE fun F σs σh g a w R hs _=>?_⟩
    have hx:=AI ti t x R (s:=s) (fun t ht=>hs t (by subst ht;simp[ho,Op.operands]))
    rw[hop]at hx;have hx:=SP hx;rw[C.M.szI_eq]at h2;refine⟨.string r,?_,.str _⟩;have e1:=Cp hti hi' w;rw[hd]at e1
    have hb:(Instr.sliceBounds false b.size b.size (lo.map a.eval) (hi.map a.eval) none).run C.P w= .ok (l.toNat,u.toNat,b.size) w:=by
     rcases hu with⟨rfl,rfl⟩ | ⟨y,q,rfl,hy⟩
     ·rw[C.M.szI_eq]at h1 ⊢;rcases hl with⟨rfl,rfl⟩ | ⟨z,q',rfl,hz⟩
      ·rfl
      ·simp[Instr.sliceBounds,bnd R hs z q' l (.inl rfl) hz,CK (P:=C.P) (w:=w) h0 h1]
     ·have hy':=bnd R hs y q u (.inr (.inl rfl)) hy;have e2:=CK (P:=C.P) (w:=w) (q:=q) (n:=u) (y:=b.size) (code:=.sliceAlen) (by omega) (by omega)
      rcases hl with⟨rfl,rfl⟩ | ⟨z,q',rfl,hz⟩
      ·simp[Instr.sliceBounds,hy',e2]
      ·have e3:=CK (P:=C.P) (w:=w) (q:=q') (n:=l) (y:=u.toNat) (code:=.sliceB) h0 (by omega)
       simp[Instr.sliceBounds,hy',e2,bnd R hs z q' l (.inl rfl) hz,e3]
    simp[execOp,ho,Instr.sliceAt,Instr.slice,e1,hx,hmx,hb,hr]
   ·exact hk.elim
  ·exact hk.elim
 ·rename_i e hd;obtain⟨j,hj,hk⟩:=AF.1 hk;split at hk
  ·rename_i hx;exact tS hti t x lo hi mx ho hi' hd hj hx hk
  obtain⟨ag,sz,rows,hrel,hk⟩:=En hk;obtain⟨hag,hk⟩:=AA.1 hk;obtain⟨hsz,hk⟩:=AA.1 hk;have hsz:=Nat.eq_of_beq_eq_true hsz;obtain⟨l,hk,hl⟩:=Js hk;obtain⟨u,hk,hu⟩:=Js hk
  have main:∃(out:List D) (m:Option Int),(m=none∧mx=none∨∃y q z,mx=some y∧hi=some z∧AX ti s 3 y= .v (.d (.int q u))∧m=some u)∧(0≤l∧l≤u∧u≤C.M.lenI rows)∧(rows.take u.toNat).drop l.toNat=out∧
    k ⟨match m with | none=>.v (.d (.list ag sz out)) | some _=>.v (.c (.tl ag sz out)),[],[]⟩:=by
   cases mx with
   | none=>
    simp_all
   | some y=>
    cases hi with
    | none=>exact hk.elim
    | some z=>
     obtain⟨q,v,hy,out,⟨h0,h1,h2,rfl⟩,h3,hk⟩:=CH.1 hk;simp_all
  obtain⟨out,m,hm,⟨h0,h1,h2⟩,hout,hk⟩:=main;refine⟨_,hk,AE fun F σs σh g a w R hs _=>?_⟩
  have hx:=hrel (AI ti t x R (s:=s) (fun t ht=>hs t (by subst ht;simp[ho,Op.operands])))
  rw[C.M.lenI_eq]at h2
  have bhi:hi=none→u=rows.length:=by
   intro h;rcases hu with⟨_,rfl⟩ | ⟨y,q,he,_⟩
   ·exact C.M.lenI_eq rows
   simp_all
  generalize hv:a.eval x=v at hx;cases hx with
  | list _ _ _ A cap b off U hcap hmax hfit ha hc hr=>
   have e1:=Cp hti hi' w;rw[hd]at e1;have e4:=Dr hti hj w
   have lists:∀cap',u.toNat - l.toNat≤cap'→cap'≤maxLen→∀A',(l.toNat<u.toNat→A'=A.map (·.add (l.toNat*j.size)))→
     AZ w (Av (zone g σh) C.X) (.list ag sz out) (.slice A' (u.toNat - l.toNat) cap'):=by
    intro cap' hc1 hc2 A' hA';have hlen:out.length=u.toNat - l.toNat:=by grind
    have hget:∀(i:Nat) r,out[i]?=some r→rows[l.toNat+i]?=some r∧i<u.toNat - l.toNat:=by
     grind
    have hmem:∀r∈out,r∈rows:=by
     grind
    have:=AZ.list (w:=w) (Z:=Av (zone g σh) C.X) ag sz out A' cap' b (off+l.toNat*sz) (fun i q=>U (l.toNat+i) q) (by omega) hc2 (fun r hr=>hfit r (hmem r hr))
     (fun hne=>by
      have hpos:l.toNat<u.toNat:=by
       grind
      rw[hA' hpos,ha (by grind),hsz]
      simp[BV])
     (fun i r q c hr' hcc=>by
      grind)
     (fun i r q c hr' hcc=>hr (l.toNat+i) r q c (hget i r hr').1 hcc)
    grind
   have hlo:∀top:Nat,l≤top→∀code,(match lo.map a.eval with | some v=>Instr.sliceBound v top code | none=>pure 0:Sem Nat).run C.P w= .ok l.toNat w:=by
    intro top htop code;rcases hl with⟨rfl,rfl⟩ | ⟨z,q',rfl,hz⟩
    ·rfl
    ·simp[bnd R hs z q' l (.inl rfl) hz,CK (P:=C.P) (w:=w) h0 htop]
   rcases hm with⟨rfl,hmx⟩ | ⟨y,q,z,hmx,hhi,hy,rfl⟩
   ·-- no third bound
    have hb:(Instr.sliceBounds true rows.length cap (lo.map a.eval) (hi.map a.eval) none).run C.P w= .ok (l.toNat,u.toNat,cap) w:=by
     have e3:=hlo u.toNat (by omega)
     rcases hu with⟨hh,hu⟩ | ⟨z,q',hh,hz⟩
     ·have e5:=bhi hh;subst hh;subst e5;simp only[Int.toNat_natCast]at e3;rcases hl with⟨rfl,rfl⟩ | ⟨z,q',rfl,hz⟩
      ·rfl
      ·simp[Instr.sliceBounds,bnd R hs z q' l (.inl rfl) hz,CK (P:=C.P) (w:=w) h0 h1]
     ·subst hh;have hz':=bnd R hs z q' u (.inr (.inl rfl)) hz;have e6:=CK (P:=C.P) (w:=w) (q:=q') (n:=u) (y:=cap) (code:=.sliceAcap) (by omega) (by omega)
      rcases hl with⟨rfl,rfl⟩ | ⟨z2,q2,rfl,hz2⟩
      ·simp[Instr.sliceBounds,hz',e6]
      ·simp[Instr.sliceBounds,hz',e6,bnd R hs z2 q2 l (.inl rfl) hz2,CK (P:=C.P) (w:=w) (q:=q2) (n:=l) (y:=u.toNat) (code:=.sliceB) h0 (by omega)]
    refine⟨.slice (if cap=l.toNat then A else A.map (·.add (l.toNat*j.size))) (u.toNat - l.toNat) (cap - l.toNat),?_,lists _ (by omega) (by omega) _ (fun h=>by rw[if_neg (by omega)])⟩
    simp[execOp,ho,Instr.sliceAt,Instr.slice,e1,hv,hmx,hb,e4]
   ·have hy':=bnd R hs y q u (.inr (.inr hmx)) hy
    obtain⟨z',q',hz0,hz⟩:∃z' q',hi=some z'∧AX ti s 3 z'= .v (.d (.int q' u)):=by
     grind
    have hz':=bnd R hs z' q' u (.inr (.inl hz0)) hz
    have hb:(Instr.sliceBounds true rows.length cap (lo.map a.eval) (hi.map a.eval) (mx.map a.eval)).run C.P w= .ok (l.toNat,u.toNat,u.toNat) w:=by
     have e6:=CK (P:=C.P) (w:=w) (q:=q) (n:=u) (y:=cap) (code:=.slice3Acap) (by omega) (by omega)
     have e7:=CK (P:=C.P) (w:=w) (q:=q') (n:=u) (y:=u.toNat) (code:=.slice3B) (by omega) (by omega)
     rw[hmx,hz0];rcases hl with⟨rfl,rfl⟩ | ⟨z2,q2,rfl,hz2⟩
     ·simp[Instr.sliceBounds,hy',hz',e6,e7]
     ·simp[Instr.sliceBounds,hy',hz',e6,e7,bnd R hs z2 q2 l (.inl rfl) hz2,CK (P:=C.P) (w:=w) (q:=q2) (n:=l) (y:=u.toNat) (code:=.slice3C) h0 (by omega)]
    have hlen:out.length=u.toNat - l.toNat:=by grind
    refine⟨.slice (if u.toNat=l.toNat then A else A.map (·.add (l.toNat*j.size))) (u.toNat - l.toNat) (u.toNat - l.toNat),?_,lists _ (by omega) (by omega) _ (fun h=>by rw[if_neg (by omega)]),_,by rw[hlen]⟩
    simp[execOp,ho,Instr.sliceAt,Instr.slice,e1,hv,hb,e4]
 ·exact hk.elim
theorem YP (hti:Ay C.P ti) (h1:BH ti) (t:TypeId) (x y:Operand) (ho:o.op= .index t x y) (hk:Fy ti t (AX ti s t x) (AX ti s 3 y) k):∃out,k out∧BN C o fresh s h out:=by
 unfold Fy at hk;obtain⟨q,n,hy,hk⟩:=CH.1 hk;obtain⟨i,hi,hk⟩:=AF.1 hk;split at hk
 ·rename_i hd;split at hk
  ·rename_i b hop;obtain⟨z,⟨h0,hz⟩,hk⟩:=hk;refine⟨_,hk,AE fun F σs σh g a w R hs _=>?_⟩
   have hx:=AI ti t x R (s:=s) (fun t ht=>hs t (by subst ht;simp[ho,Op.operands]))
   rw[hop]at hx;have hx:=SP hx;have hyy:=AI ti 3 y R (s:=s) (fun t ht=>hs t (by subst ht;simp[ho,Op.operands]))
   rw[hy]at hyy;have hyy:=Ey hyy;have e1:=Cp hti hi w;rw[hd]at e1;obtain⟨u,hu,hz⟩:=Option.map_eq_some_iff.1 hz;refine⟨.int .u8 z,?_,.int _ _⟩;simp[execOp,ho,Instr.index,asIntOf,e1,hx,hyy,h0,hu,hz]
  ·exact hk.elim
 ·rename_i len e hd;obtain⟨j,hj,hk⟩:=AF.1 hk;split at hk
  ·rename_i cs hop;obtain⟨h3,r,h0,hr,hk⟩:=AA.1 hk;have h3:=Nat.eq_of_beq_eq_true h3;refine⟨_,hk,AE fun F σs σh g a w R hs _=>?_⟩
   have hx:=AI ti t x R (s:=s) (fun t ht=>hs t (by subst ht;simp[ho,Op.operands]))
   rw[hop]at hx;have hyy:=AI ti 3 y R (s:=s) (fun t ht=>hs t (by subst ht;simp[ho,Op.operands]))
   rw[hy]at hyy;have hyy:=Ey hyy;have e1:=Cp hti hi w;rw[hd]at e1;have e2:=Dr hti hj w;obtain⟨hlt,rfl⟩:=GR hr;generalize hv:a.eval x=v at hx;cases (show AZ w _ (.agg cs) v from hx)with
   | agg _ vs hsz hag hrel=>
    have hb:n.toNat*j.size+j.size≤(cs.map CV.d).length:=by
     have:=Nat.mul_le_mul_right j.size (show n.toNat+1≤len from hlt)
     grind
    obtain⟨u,hu,hru⟩:=M3 (g:=g) (h:=σh) hti h1 hj (cs:=cs.map CV.d) (vs:=vs) (off:=n.toNat*j.size) (by simp[hsz]) (fun q c u hc hu=>by
     simp only[List.getElem?_map,Option.map_eq_some_iff]at hc;obtain⟨c',hc',rfl⟩:=hc;exact⟨hrel q c' u hc' hu,hag c' (List.mem_of_getElem? hc')⟩) hb
    refine⟨u,?_,?_⟩
    ·have hn:n<(len:Int):=by omega
     simp[execOp,ho,Instr.index,asIntOf,e1,hv,hyy,h0,hn,e2,hu]
    ·rw[←List.map_drop,←List.map_take]at hru
     have e:V1.Aa (AR j.desc) (((cs.drop (n.toNat*j.size)).take j.size).map CV.d)= .d (rowOf (AR j.desc) ((cs.drop (n.toNat*j.size)).take j.size)):=by
      cases hrow:AR j.desc with
      | true=>
       have:∀l:List D,U6 (l.map CV.d)=some l:=by
        intro l
        induction l with
        | nil=>rfl
        | cons x l ih=>simp[U6,ih]
       unfold V1.Aa;simp only[];rw[this];rfl
      | false=>
       have hone:=h1 e j hj hrow
       have hl:((cs.drop (n.toNat*j.size)).take j.size).length=1:=by
        grind
       obtain⟨d,hd⟩:=List.length_eq_one_iff.1 hl;rw[hd];rfl
     simp_all
  ·rename_i cs hop;obtain⟨h3,p,⟨hp,hlt⟩,hk⟩:=AA.1 hk;have h3:=Nat.eq_of_beq_eq_true h3;refine⟨_,hk,AE fun F σs σh g a w R hs _=>?_⟩
   have hx:=AI ti t x R (s:=s) (fun t ht=>hs t (by subst ht;simp[ho,Op.operands]))
   rw[hop]at hx;have hyy:=AI ti 3 y R (s:=s) (fun t ht=>hs t (by subst ht;simp[ho,Op.operands]))
   rw[hy]at hyy;have hyy:=Ey hyy;have e1:=Cp hti hi w;rw[hd]at e1;have e2:=Dr hti hj w;obtain⟨vs,hv,hsz,hrel⟩:=hx;subst hp
   have hb:p*j.size+j.size≤cs.length:=by
    have:=Nat.mul_le_mul_right j.size (show p+1≤len from hlt)
    grind
   obtain⟨u,hu,hru⟩:=M3 (g:=g) (h:=σh) hti h1 hj (cs:=cs) (vs:=vs) (off:=p*j.size) hsz hrel hb;refine⟨u,?_,hru⟩;simp[execOp,ho,Instr.index,asIntOf,e1,hv,hyy,hlt,e2,hu]
  ·exact hk.elim
 ·exact hk.elim
end
end Go.AM
namespace Go.AM
open Go Go.RowKit
section
variable {C:Cx}{F:Nat→Prop}{s:AL}{h:Heap}{g:AP}{a:Act}{w w':World}{Z:Ak}
theorem AY.grow (R:AY C F s h g a w) (hg:w.grownBy w' none):AY C F s h g a w':=by
 obtain⟨h1,h2,h3,h4,h5⟩:=hg;have hblk:∀b,b<w.heap.size→w'.heap[b]?=w.heap[b]?:=fun b hb=>h5 b hb (by simp)
 have hcell:∀b o u,w.cell? ⟨b,o,none⟩=some u→w'.cell? ⟨b,o,none⟩=some u:=fun b o u hu=>
  (World.cell?_of_block (a:=⟨b,o,none⟩) (hblk b (World.block_lt_of_cell? w ⟨b,o,none⟩ hu))).trans hu
 refine R.step (fun _=>False) ⟨fun b o u hu hz=>⟨hcell b o u hu,hz⟩,fun _ _ _=>rfl,fun _ _ _=>rfl,fun _ hi=>hi,fun i k sz e _ hk=>⟨k,Nat.le_refl _,hk,fun _=>rfl⟩,fun _ hi=>hi,fun i _ hk=>⟨hk,rfl⟩⟩
  ⟨h1,h2,h3,h4,fun b hb _=>hblk b hb,fun b o u hu _=>hcell b o u hu⟩ (fun i _=>⟨rfl,rfl⟩) (fun i o b _ hi hb=>hblk b ((R.heap.objs i o hi).lt hb))
  (fun _ _ hf=>hf.elim) (fun _ _ _ _ hf=>hf.elim) (fun _ _ _ _ _ hf=>hf.elim) (fun _ hf=>hf.elim) (fun n hn=>R.free n hn)
section
variable {ag:Bool}{sz:Nat}{rows:List D}{A:Option Addr}
theorem AZ.GQ {m cap:Nat}(hsz:0<sz) (r:AZ w Z (.list ag sz rows) (.slice A m cap)):
  m=rows.length∧cap≤maxLen∧m≤cap∧(rows≠[]→∃b o,A=some ⟨b,o,none⟩)∧(∀x∈rows,x.fits ag sz)∧∃news:List Value,news.length=rows.length*sz∧(∀u∈news,u.oneCell'=true)∧
   (∀b o,A=some ⟨b,o,none⟩→∀j u,news[j]?=some u→w.cell? ⟨b,o+j,none⟩=some u∧¬Z b (o+j))∧
   ∀(i:Nat) x (j:Nat) c,rows[i]?=some x→x.cells[j]?=some c→∃u,news[i*sz+j]?=some u∧AZ w Z c u:=by
 cases r with
 | list _ _ _ _ _ b o U hcap hmax hfit ha hc hr=>
  refine⟨rfl,hmax,hcap,fun hne=>⟨b,o,ha hne⟩,hfit,(List.range (rows.length*sz)).map (fun k=>U (k / sz) (k % sz)),by simp,?_,?_,?_⟩
  ·intro u hu;obtain⟨k,hk,rfl⟩:=List.mem_map.1 hu;have hk:=List.mem_range.1 hk;have hi:k / sz<rows.length:=Nat.div_lt_of_lt_mul (by grind)
   have hx:rows[k / sz]?=some rows[k / sz]:=List.getElem?_eq_getElem hi;obtain⟨f1,f2,f3⟩:=hfit _ (List.getElem_mem hi);have hj:k % sz<rows[k / sz].cells.length:=by rw[f2];exact Nat.mod_lt _ hsz
   have hcc:=List.getElem?_eq_getElem hj;exact (hr _ _ _ _ hx hcc).BR (f3 _ (List.getElem_mem hj))
  ·intro b' o' hA j u hj;rw[List.getElem?_map]at hj;obtain⟨k,hk,rfl⟩:=Option.map_eq_some_iff.1 hj;have hlt:j<rows.length*sz:=by grind
   have hkj:k=j:=by simp_all
   subst hkj;have hi:k / sz<rows.length:=Nat.div_lt_of_lt_mul (by grind)
   have hne:rows≠[]:=by rintro rfl;simp at hi
   have hA2:=ha hne;rw[hA]at hA2;cases hA2
   have hx:rows[k / sz]?=some rows[k / sz]:=List.getElem?_eq_getElem hi;obtain⟨f1,f2,f3⟩:=hfit _ (List.getElem_mem hi);have hj:k % sz<rows[k / sz].cells.length:=by rw[f2];exact Nat.mod_lt _ hsz
   have:=hc _ _ _ _ hx (List.getElem?_eq_getElem hj);rw[show k / sz*sz+k % sz=k from by rw[Nat.mul_comm];exact Nat.div_add_mod k sz]at this
   exact this
  ·intro i x j c hx hj;obtain⟨f1,f2,f3⟩:=hfit _ (List.mem_of_getElem? hx);have hjl:j<sz:=by grind
   have hil:=(List.getElem?_eq_some_iff.1 hx).1
   have hlt:i*sz+j<rows.length*sz:=by
    have:(i+1)*sz≤rows.length*sz:=Nat.mul_le_mul_right _ hil;grind
   refine⟨U i j,?_,hr i x j c hx hj⟩;rw[List.getElem?_map,List.getElem?_range hlt];have e1:(i*sz+j) / sz=i:=by rw[Nat.mul_comm,Nat.mul_add_div hsz,Nat.div_eq_of_lt hjl,Nat.add_zero]
   have e2:(i*sz+j) % sz=j:=by rw[Nat.mul_comm,Nat.mul_add_mod,Nat.mod_eq_of_lt hjl]
   simp[e1,e2]
variable {e:TypeId}{out:List D}{v:Value}
theorem HK {zs:List Value}(hsz:0<sz) (hown:w.ownsRow 0 e sz v out.length zs)
  (hfit:∀x∈out,x.fits ag sz) (hZ:∀b,blk v=some b→∀o,o<out.length*sz→¬Z b o)
  (hr:∀(i:Nat) x (j:Nat) c,out[i]?=some x→x.cells[j]?=some c→∃u,zs[i*sz+j]?=some u∧AZ w Z c u):AZ w Z (.list ag sz out) v:=by
 obtain⟨hl,h2⟩:=hown;rcases h2 with⟨rfl,h0⟩ | ⟨q,cap,cur,rfl,_,hh,hnc,hcm,hcs,htake⟩
 ·have:out=[]:=List.eq_nil_of_length_eq_zero h0;subst this;exact Fv ag sz
 ·refine .list ag sz out (some ⟨q,0,none⟩) cap q 0 (fun i j=>zs.getD (i*sz+j) undef) hnc hcm hfit (fun _=>rfl) (fun i x j c hx hj=>?_) (fun i x j c hx hj=>?_)
  ·obtain⟨u,hu,_⟩:=hr i x j c hx hj;have hlt:=(List.getElem?_eq_some_iff.1 hu).1;have hg:zs.getD (i*sz+j) undef=u:=by simp_all
   rw[hg];refine⟨?_,by rw[Nat.zero_add];exact hZ q rfl _ (by omega)⟩
   have:cur[i*sz+j]?=some u:=by
    grind
   simp[World.cell?,hh,this]
  grind
theorem M4 {ys:List D}{xs news:List Value}(h1:xs.length=rows.length*sz) (hfit:∀x∈ys,x.fits ag sz) (hfit':∀x∈rows,x.fits ag sz)
  (hx:∀(i:Nat) x (j:Nat) c,rows[i]?=some x→x.cells[j]?=some c→∃u,xs[i*sz+j]?=some u∧AZ w Z c u)
  (hy:∀(i:Nat) x (j:Nat) c,ys[i]?=some x→x.cells[j]?=some c→∃u,news[i*sz+j]?=some u∧AZ w Z c u):
  ∀(i:Nat) x (j:Nat) c,(rows++ys)[i]?=some x→x.cells[j]?=some c→∃u,(xs++news)[i*sz+j]?=some u∧AZ w Z c u:=by
 intro i x j c hi hj
 by_cases hl:i<rows.length
 ·grind
 ·rw[List.getElem?_append_right (by omega)]at hi
  obtain⟨u,hu,hr⟩:=hy _ x j c hi hj;have hle:rows.length*sz≤i*sz:=Nat.mul_le_mul_right _ (by omega)
  refine⟨u,?_,hr⟩;rw[List.getElem?_append_right (by omega),←hu]
  congr 1;rw[h1,Nat.sub_mul];omega
theorem HL {ys:List D}(h1:∀x∈rows,x.fits ag sz) (h2:∀x∈ys,x.fits ag sz):∀x∈rows++ys,x.fits ag sz:=by
 grind
theorem CX {P:Program}{w:World}{t ty:TypeId}{i:TypeInfo}(ht:P.underlying t=some (.slice e)) (hi:P.info? e=some i) {base:Option Addr}{n cap c:Nat}(hn:n≤cap):
  (Builtin.append_ #[t,t] ty #[.slice base n cap,.slice A 0 c]).run P w= .ok (.slice base n cap) w:=by
 have hz:((some (TypeDesc.slice e)) matches some (.int _))=false:=rfl;cases base<;>cases A<;>simp[Builtin.append_,underlying,typeInfo,sizeOf,ht,hi,Builtin.lenOf,hn,Builtin.firstCells,loadCells,loadCellsFrom,storeCells]
theorem AY.plain (R:AY C F s h g a w) (hg:w.grownBy w' none) {zs:List Value}(hsz:0<sz) (hown:w'.ownsRow w.heap.size e sz v out.length zs)
  (hfit:∀x∈out,x.fits ag sz) (hr:∀(i:Nat) x (j:Nat) c,out[i]?=some x→x.cells[j]?=some c→∃u,zs[i*sz+j]?=some u∧AZ w (Av (zone g h) C.X) c u):
  AY C F s h g a w'∧AZ w' (Av (zone g h) C.X) (.list ag sz out) v:=by
 have R':=R.grow hg;obtain⟨w1,w2,w3,w4,w5⟩:=hg;have hX:∀b o,C.X b o→b<w.heap.size:=fun b o hx=>Nat.lt_of_lt_of_le (R.xs b o hx) R.frame.size
 refine⟨R',HK hsz (e:=e) (zs:=zs) ?_ hfit ?_ ?_⟩
 ·obtain⟨h1,h2⟩:=hown;refine⟨h1,?_⟩;grind
 ·intro b hb o _
  have hge:w.heap.size≤b:=by
   rcases hown.2 with⟨h3,_⟩ | ⟨q,cap,cur,h3,hq,_⟩
   ·simp_all
   ·rw[h3]at hb;simp[blk]at hb;omega
  rintro (hz | hx)
  ·exact absurd (XI R.heap hz) (by omega)
  grind
 ·intro i x j c hi hj;obtain⟨u,hu,hru⟩:=hr i x j c hi hj;refine⟨u,hu,hru.mono fun b o u hu hz=>⟨?_,hz⟩⟩
  exact (World.cell?_of_block (a:=⟨b,o,none⟩) (w5 b (World.block_lt_of_cell? w ⟨b,o,none⟩ hu) (by simp))).trans hu
theorem AY.owned (R:AY C F s h g a w) {n:Nat}(hf:F n) (hg:w.grownBy w' none) {zs:List Value}(hsz:0<sz) (hown:w'.ownsRow w.heap.size e sz v out.length zs)
  (hfit:∀x∈out,x.fits ag sz) (hr:∀(i:Nat) x (j:Nat) c,out[i]?=some x→x.cells[j]?=some c→∃u,zs[i*sz+j]?=some u∧AZ w (Av (zone g h) C.X) c u):
  AY C (fun k=>F k∧k≠n) s (AK h (.loc n) (.tok out.length sz e)) (Ap g (.loc n) v) a w'∧
   BB w' (Av (zone (Ap g (.loc n) v) (AK h (.loc n) (.tok out.length sz e))) C.X) (Ap g (.loc n) v) (AK h (.loc n) (.tok out.length sz e)) (.lst (.loc n) ag sz out) v:=by
 obtain⟨w1,w2,w3,w4,w5⟩:=hg;obtain⟨hgn,hhn⟩:=R.free n hf;have hX:∀b o,C.X b o→b<w.heap.size:=fun b o hx=>Nat.lt_of_lt_of_le (R.xs b o hx) R.frame.size
 have hblk:∀b,b<w.heap.size→w'.heap[b]?=w.heap[b]?:=fun b hb=>w5 b hb (by simp)
 have hcell:∀b o u,w.cell? ⟨b,o,none⟩=some u→w'.cell? ⟨b,o,none⟩=some u:=fun b o u hu=>
  (World.cell?_of_block (a:=⟨b,o,none⟩) (hblk b (World.block_lt_of_cell? w ⟨b,o,none⟩ hu))).trans hu
 have hvb:∀b,blk v=some b→w.heap.size≤b:=by
  intro b hb;rcases hown.2 with⟨h3,_⟩ | ⟨q,cap,cur,h3,hq,_⟩
  ·rw[h3]at hb;simp[blk]at hb
  ·rw[h3]at hb;simp[blk]at hb;omega
 have hsl:Il v:=by
  rcases hown.2 with⟨h3,_⟩ | ⟨q,cap,cur,h3,hq,_⟩<;>rw[h3]<;>trivial
 have hne:∀{i:Id} {u:Value},g i=u→u≠undef→i≠ .loc n:=by
  grind
 have now:∀{i:Id},isTu (g i)→i≠ .loc n:=by
  rintro i hi rfl
  rw[hgn]at hi;exact BT hi
 have hzz:∀b o,Av (zone (Ap g (.loc n) v) (AK h (.loc n) (.tok out.length sz e))) C.X b o→Av (zone g h) C.X b o∨(w.heap.size≤b∧blk v=some b∧out.length*sz≤o):=by
  rintro b o (⟨i,ob,hi,h1⟩ | hx)
  ·by_cases hin:i= .loc n
   ·subst hin;simp[AK,Ap]at hi h1;subst hi;have h1:Bc v b∧out.length*sz≤o:=h1;have h2:=h1.1.YA hsl;simp_all
   ·simp only[AK,Ap,if_neg hin]at hi h1;exact .inl (.inl ⟨i,ob,hi,h1⟩)
  ·exact .inl (.inr hx)
 have E:HC w (Av (zone g h) C.X) g h w' (Av (zone (Ap g (.loc n) v) (AK h (.loc n) (.tok out.length sz e))) C.X) (Ap g (.loc n) v) (AK h (.loc n) (.tok out.length sz e)):=by
  refine⟨fun b o u hu hz=>⟨hcell b o u hu,fun hz'=>?_⟩,fun i b hb=>if_neg (hne hb (by simp[undef])),fun i q hq=>if_neg (hne hq (by simp[undef])),fun i hi=>?_,fun i k sz' e' hi hk=>?_,fun i hi=>by simpa [Ap,now hi] using hi,
   fun i hi hk=>⟨by simpa [AK,now hi] using hk,by simp[Ap,now hi]⟩⟩
  ·have:=World.block_lt_of_cell? w ⟨b,o,none⟩ hu;grind
  ·have:i≠ .loc n:=by rintro rfl;rw[hgn]at hi;exact hi
   simpa [Ap,this] using hi
  ·have:i≠ .loc n:=by rintro rfl;rw[hgn]at hi;exact hi
   exact⟨k,Nat.le_refl _,by simpa [AK,this] using hk,fun _=>by simp[Ap,this]⟩
 have hown0:w'.ownsRow 0 e sz v out.length zs:=by
  obtain⟨h1,h2⟩:=hown;refine⟨h1,?_⟩;grind
 refine⟨R.step (F':=fun k=>F k∧k≠n) (fun i=>i= .loc n) E ⟨w1,w2,w3,w4,fun b hb _=>hblk b hb,fun b o u hu _=>hcell b o u hu⟩ ?_ ?_ ?_ ?_ ?_ ?_ ?_,?_⟩
 ·intro i hi;simp[AK,Ap,hi]
 ·intro i o b _ hi hb;exact hblk b ((R.heap.objs i o hi).lt hb)
 ·rintro i o rfl ho
  simp[AK]at ho;subst ho;refine⟨hsz,zs,?_⟩;simpa [Ap] using hown0
 ·rintro i o b p rfl ho hb
  simp[AK]at ho;subst ho;simp[Ap]at hb;exact .inr (hvb b (hb.HA.blk.YA hsl))
 ·simp_all
 ·simp_all
 ·rintro k ⟨hk,hkn⟩
  have:=R.free k hk;simp[Ap,AK,hkn,this]
 ·refine⟨HK hsz hown0 hfit (fun b hb o ho hz=>?_) (fun i x j c hi hj=>?_),by simpa [Ap] using hsl,fun k sz' e' hk=>?_⟩
  ·rcases hzz b o hz with (h1 | hx) | ⟨_,_,h1⟩
   ·exact absurd (XI R.heap h1) (by have:=hvb b hb;omega)
   ·grind
   ·omega
  ·obtain⟨u,hu,hru⟩:=hr i x j c hi hj;exact⟨u,hu,E.GP hru⟩
  ·simp[AK]at hk;obtain⟨rfl,rfl,rfl⟩:=hk;exact⟨rfl,Nat.le_refl _,fun _=>by simp[Ap]⟩
end
end
end Go.AM
namespace Go.AM
open Go Go.RowKit
section
variable {C:Cx}{F:Nat→Prop}{s:AL}{h:Heap}{g:AP}{a:Act}{w w':World}
theorem AY.SD (R:AY C F s h g a w) {i n sz:Nat}{e:TypeId}{ag:Bool}{out:List D}{zs:List Value}{v:Value}(hsz:0<sz) (hi:h (.loc i)=some (.tok n sz e))
  (hos:w'.os=w.os∧w'.tape=w.tape∧w'.output=w.output∧w.heap.size≤w'.heap.size)
  (hblk:∀b,b<w.heap.size→blk (g (.loc i))≠some b→w'.heap[b]?=w.heap[b]?)
  (hcell:∀b o u,w.cell? ⟨b,o,none⟩=some u→¬(blk (g (.loc i))=some b∧n*sz≤o)→w'.cell? ⟨b,o,none⟩=some u)
  (hown:w'.ownsRow 0 e sz v out.length zs) (hvb:∀b,blk v=some b→blk (g (.loc i))=some b∨w.heap.size≤b) (hlt:n<out.length)
  (hfit:∀x∈out,x.fits ag sz) (hr:∀(j:Nat) x (q:Nat) c,out[j]?=some x→x.cells[q]?=some c→∃u,zs[j*sz+q]?=some u∧AZ w (Av (zone g h) C.X) c u):
  AY C F s (AK h (.loc i) (.tok out.length sz e)) (Ap g (.loc i) v) a w'∧
   BB w' (Av (zone (Ap g (.loc i) v) (AK h (.loc i) (.tok out.length sz e))) C.X) (Ap g (.loc i) v) (AK h (.loc i) (.tok out.length sz e)) (.lst (.loc i) ag sz out) v:=by
 have hX:∀b o,C.X b o→b<w.heap.size:=fun b o hx=>Nat.lt_of_lt_of_le (R.xs b o hx) R.frame.size
 have hnm:n*sz≤out.length*sz:=Nat.mul_le_mul_right _ (Nat.le_of_lt hlt);have hzone:∀b o,blk (g (.loc i))=some b→n*sz≤o→zone g h b o:=fun b o hb ho=>⟨.loc i,_,hi,.inl hb,ho⟩
 have hgsl:Il (g (.loc i)):=by
  obtain⟨_,xs,_,h2⟩:=R.heap.objs _ _ hi;rcases h2 with⟨h3,_⟩ | ⟨q,cap,cur,h3,_⟩<;>rw[h3]<;>trivial
 have hzz:∀b o,Av (zone (Ap g (.loc i) v) (AK h (.loc i) (.tok out.length sz e))) C.X b o→Av (zone g h) C.X b o∨w.heap.size≤b:=by
  rintro b o (⟨j,ob,hj,h1⟩ | hx)
  ·by_cases hin:j= .loc i
   ·subst hin;simp[AK,Ap]at hj h1;subst hj;have h1:Bc v b∧out.length*sz≤o:=h1;rcases hvb b (h1.1.YA (Mo hown))with h2 | h2
    ·exact .inl (.inl (hzone b o h2 (Nat.le_trans hnm h1.2)))
    ·exact .inr h2
   ·simp only[AK,Ap,if_neg hin]at hj h1;exact .inl (.inl ⟨j,ob,hj,h1⟩)
  ·exact .inl (.inr hx)
 have E:HC w (Av (zone g h) C.X) g h w' (Av (zone (Ap g (.loc i) v) (AK h (.loc i) (.tok out.length sz e))) C.X) (Ap g (.loc i) v) (AK h (.loc i) (.tok out.length sz e)):=by
  have ne:∀{j:Id} {u:Value},g j=u→¬Il u→j≠ .loc i:=by
   grind
  refine⟨fun b o u hu hz=>⟨hcell b o u hu (fun hh=>hz (.inl (hzone b o hh.1 hh.2))),fun hz'=>?_⟩,fun j b hb=>if_neg (ne hb (by simp[Il])),fun j q hq=>if_neg (ne hq (by simp[Il])),fun j hj=>?_,fun j k sz' e' hj hk=>?_,fun j hj=>?_,fun j hj hk=>?_⟩
  ·have:=World.block_lt_of_cell? w ⟨b,o,none⟩ hu;grind
  ·by_cases hin:j= .loc i
   ·subst hin;simp only[Ap,if_true];rcases hown.2 with⟨h3,_⟩ | ⟨q,cap,cur,h3,_⟩<;>rw[h3]<;>trivial
   ·simpa [Ap,hin] using hj
  ·by_cases hin:j= .loc i
   ·subst hin;simp[AK]at hk;grind
   ·exact⟨k,Nat.le_refl _,by simpa [AK,hin] using hk,fun _=>by simp[Ap,hin]⟩
  ·have hin:j≠ .loc i:=by
    rintro rfl
    exact Eh hgsl hj
   simpa [Ap,hin] using hj
  ·have hin:j≠ .loc i:=by
    rintro rfl
    simp[AK,isLive]at hk
   exact⟨by simpa [AK,hin] using hk,by simp[Ap,hin]⟩
 have hvblk:Il v:=by
  rcases hown.2 with⟨h3,_⟩ | ⟨q,cap,cur,h3,_⟩<;>rw[h3]<;>trivial
 refine⟨R.step (F':=F) (fun j=>j= .loc i) E ⟨hos.1,hos.2.1,hos.2.2.1,hos.2.2.2,fun b hb hz=>hblk b hb (fun hh=>hz (n*sz) (hzone b _ hh (Nat.le_refl _))),fun b o u hu hz=>hcell b o u hu (fun hh=>hz (hzone b o hh.1 hh.2))⟩ ?_ ?_ ?_ ?_ ?_ ?_ ?_,?_⟩
 ·intro j hj;simp[AK,Ap,hj]
 ·intro j o b hj ho hb;refine hblk b ((R.heap.objs j o ho).lt hb) (fun hh=>hj (R.heap.sep j (.loc i) o _ b ho hi hb (.inl hh)))
 ·rintro j o rfl ho
  simp[AK]at ho;subst ho;refine⟨hsz,zs,?_⟩;simpa [Ap] using hown
 ·rintro j o b p rfl ho hb
  simp[AK]at ho;subst ho;simp[Ap]at hb;have hb:Bc v b∧out.length*sz≤p:=hb;rcases hvb b (hb.1.YA (Mo hown))with h1 | h1
  ·exact .inl ⟨_,_,rfl,hi,.inl h1,Nat.le_trans hnm hb.2⟩
  ·exact .inr h1
 ·simp_all
 ·simp_all
 ·intro k hk;have:=R.free k hk;have hne:k≠i:=by grind
  simp[Ap,AK,hne,this]
 ·refine⟨HK hsz hown hfit (fun b hb o ho hz=>?_) (fun j x q c hj hq=>?_),by simpa [Ap] using hvblk,fun k sz' e' hk=>?_⟩
  ·-- the cells below the new length are nobody's
   rcases hz with⟨j,ob,hj,h1⟩ | hx
   ·by_cases hin:j= .loc i
    ·subst hin;simp[AK,Ap]at hj h1;subst hj;have:=(show Bc v b∧out.length*sz≤o from h1).2
     omega
    ·simp only[AK,Ap,if_neg hin]at hj h1;rcases hvb b hb with h2 | h2
     ·exact hin (R.heap.sep j (.loc i) ob _ b hj hi h1.HA (.inl h2))
     ·exact absurd ((R.heap.objs j ob hj).lt h1.HA) (by omega)
   ·rcases hvb b hb with h2 | h2
    ·exact R.heap.apart (.loc i) _ b o hi (.inl h2) hx
    grind
  ·obtain⟨u,hu,hru⟩:=hr j x q c hj hq;exact⟨u,hu,E.GP hru⟩
  ·simp[AK]at hk;obtain⟨rfl,rfl,rfl⟩:=hk;exact⟨rfl,Nat.le_refl _,fun _=>by simp[Ap]⟩
theorem YQ {h:Heap}{i:Id}{o:AD}(hi:h i=some o):AK h i o=h:=by
 funext j;unfold AK;simp_all
theorem YR {g:AP}{i:Id}:Ap g i (g i)=g:=by
 funext j;unfold Ap;simp_all
end
section
variable {C:Cx}{ti:Types}{o:Oper}{fresh:Nat}{s:AL}{h:Heap}{k:Out→Prop}
section
variable {e:TypeId}
theorem Dv (hti:Ay C.P ti) {j:TI}(hj:ti e=some j):∃i,C.P.info? e=some i∧i.size=j.size∧i.bytes=j.bytes∧i.zero=some j.zero∧j.zero.cells.size=j.size:=by
 obtain⟨_,i,h1,h2,h3,h4,h5,_⟩:=hti e j hj;simp_all
variable {t:TypeId}{ag:Bool}
theorem Sf (hti:Ay C.P ti) {ty:TypeId}{q j:TI}(hq:ti t=some q) (hd:q.desc= .slice e) (hj:ti e=some j) (hsz:0<j.size) {w:World}{Z:Ak}{rows ys:List D}{A B:Option Addr}{cap m c:Nat}
  (hr:AZ w Z (.list ag j.size rows) (.slice A rows.length cap)) (hcap:cap=rows.length) (hnil:rows=[]→A=none→cap=0) (hy:AZ w Z (.list ag j.size ys) (.slice B m c)) (hne:ys≠[])
  (hmax:rows.length+ys.length≤maxLen) (hbytes:(rows.length+ys.length)*j.bytes≤140737488355328):
  ∃v' w' zs,(Builtin.append_ #[t,t] ty #[.slice A rows.length cap,.slice B m c]).run C.P w= .ok v' w'∧w'.ownsRow w.heap.size e j.size v' (rows++ys).length zs∧w.grownBy w' none∧
   (∀x∈rows++ys,x.fits ag j.size)∧(∀(i:Nat) x (q:Nat) c,(rows++ys)[i]?=some x→x.cells[q]?=some c→∃u,zs[i*j.size+q]?=some u∧AZ w Z c u):=by
 obtain⟨hm,_,_,hB,hfy,news,n1,n2,n3,n4⟩:=hy.GQ hsz;obtain⟨_,_,_,hA,hfr,olds,o1,o2,o3,o4⟩:=hr.GQ hsz;obtain⟨i,i1,i2,i3,i4,i5⟩:=Dv hti hj;have ht:C.P.underlying t=some (.slice e):=by rw[(hti t q hq).1,hd]
 obtain⟨b,o,rfl⟩:=hB hne;subst hm;have hl:(rows++ys).length=rows.length+ys.length:=List.length_append
 have fin:∀v' w',w'.ownsRow w.heap.size e j.size v' (rows.length+ys.length) (olds++news)→w.grownBy w' none→(Builtin.append_ #[t,t] ty #[.slice A rows.length cap,.slice (some ⟨b,o,none⟩) ys.length c]).run C.P w= .ok v' w'→
   ∃v' w' zs,(Builtin.append_ #[t,t] ty #[.slice A rows.length cap,.slice (some ⟨b,o,none⟩) ys.length c]).run C.P w= .ok v' w'∧w'.ownsRow w.heap.size e j.size v' (rows++ys).length zs∧w.grownBy w' none∧
   (∀x∈rows++ys,x.fits ag j.size)∧(∀(i:Nat) x (q:Nat) c,(rows++ys)[i]?=some x→x.cells[q]?=some c→∃u,zs[i*j.size+q]?=some u∧AZ w Z c u):=
  fun v' w' h1 h2 h3=>⟨v',w',olds++news,h3,by rw[hl];exact h1,h2,HL hfr hfy,M4 o1 hfy hfr o4 n4⟩
 cases A with
 | none=>
  have hr0:rows=[]:=by
   simp_all
  subst hr0;have hc0:=hnil rfl rfl;subst hc0;have ho:olds=[]:=List.eq_nil_of_length_eq_zero (by simpa using o1)
  subst ho
  obtain⟨v',w',hrun,r1,r2,_⟩:=run_append_own (P:=C.P) w w.heap.size t ty e i j.zero j.size j.bytes ht i1 i4 i2 i3 i5 hsz (.slice none 0 0) 0 [] (World.ownsRow_nil w _ _ _) ⟨b,o,none⟩ ys.length c news n1
   (fun j' u hu=>by have:=(n3 b o rfl j' u hu).1;simpa [BV] using this) n2 (by simpa using hmax) (by simpa using hbytes) (Nat.le_refl _)
  exact fin v' w' (by simpa using r1) (by trivial) (by simpa using hrun)
 | some A=>
  by_cases hrn:rows=[]
  ·subst hrn;have ho:olds=[]:=List.eq_nil_of_length_eq_zero (by simpa using o1)
   subst ho
   obtain⟨v',w',hrun,r1,r2⟩:=run_append_arg_grows (P:=C.P) w t ty e i j.zero j.size j.bytes ht i1 i4 i2 i3 i5 hsz A 0 cap [] (by simp) (by simp) ⟨b,o,none⟩ ys.length c news n1
    (fun j' u hu=>by have:=(n3 b o rfl j' u hu).1;simpa [BV] using this) (by grind) (by simpa using hmax) (by simpa using hbytes)
   exact fin v' w' (by simpa using r1) r2 (by simpa using hrun)
  ·obtain⟨b',o',hA'⟩:=hA hrn;cases hA'
   obtain⟨v',w',hrun,r1,r2⟩:=run_append_arg_grows (P:=C.P) w t ty e i j.zero j.size j.bytes ht i1 i4 i2 i3 i5 hsz ⟨b',o',none⟩ rows.length cap olds o1 (fun j' u hu=>by have:=(o3 b' o' rfl j' u hu).1;simpa [BV] using this) ⟨b,o,none⟩ ys.length c news n1
    (fun j' u hu=>by have:=(n3 b o rfl j' u hu).1;simpa [BV] using this) (by subst hcap;grind) hmax hbytes
   grind
theorem Sg {C:Cx}{o:Oper}{fresh:Nat}{s:AL}{h:Heap}{sz:Nat}{out:List D}(hsz:0<sz)
  (hr:∀F σs σh g a w,AY C F σs σh g a w→(∀t,Operand.tmp t∈o.op.operands.toList→σs t=s t)→
   ∃v' w' zs,(execOp a.eval o).run C.P w= .ok (.value v') w'∧w'.ownsRow w.heap.size e sz v' out.length zs∧w.grownBy w' none∧
   (∀x∈out,x.fits ag sz)∧(∀(i:Nat) x (q:Nat) c,out[i]?=some x→x.cells[q]?=some c→∃u,zs[i*sz+q]?=some u∧AZ w (Av (zone g σh) C.X) c u)):
  BN C o fresh s h ⟨.v (.c (.lst (.loc fresh) ag sz out)),[],[(.loc fresh,.tok out.length sz e)]⟩:=by
 rintro F σs σh a w Q ⟨g,R⟩ ho hrd hF hd
 obtain⟨v',w',zs,hrun,r1,r2,r3,r4⟩:=hr F σs σh g a w R ho;unfold Oper.wp;rw[hrun];obtain⟨R',hl⟩:=R.owned (n:=fresh) (hF 0 (by omega)) r2 hsz r1 r3 r4
 exact⟨_,(R'.put hd (v:=.v (.c (.lst (.loc fresh) ag sz out))) hl).Af (fun n hn=>⟨hn.1,fun e=>hn.2 (by omega)⟩)⟩
theorem QW {C:Cx}{o:Oper}{fresh:Nat}{s:AL}{h:Heap}{sz:Nat}{out:List D}
  (hr:∀F σs σh g a w,AY C F σs σh g a w→(∀t,Operand.tmp t∈o.op.operands.toList→σs t=s t)→
   ∃v' w',(execOp a.eval o).run C.P w= .ok (.value v') w'∧AY C F σs σh g a w'∧AZ w' (Av (zone g σh) C.X) (.list ag sz out) v'):
  BN C o fresh s h ⟨.v (.d (.list ag sz out)),[],[]⟩:=by
 rintro F σs σh a w Q ⟨g,R⟩ ho hrd hF hd
 obtain⟨v',w',hrun,R',hl⟩:=hr F σs σh g a w R ho;unfold Oper.wp;rw[hrun];exact⟨g,(R'.put hd (v:=.v (.d (.list ag sz out))) hl).Af (fun n hn=>hn.1)⟩
theorem B7 {P:Program}{o:Oper}{a:Act}{x y:Operand}{w:World}{r:Result Value}(ho:o.op= .call {callee:=.builtin .append,args:=#[x,y],argTypes:=#[t,t]})
  {v:Value} {w':World} (h:(Builtin.append_ #[t,t] o.type #[a.eval x,a.eval y]).run P w= .ok v w'):(execOp a.eval o).run P w= .ok (.value v) w':=by
 simp[execOp,ho,resolve,invoke,builtin,h]
theorem M5 (hti:Ay C.P ti) {q j:TI}(hq:ti t=some q) (hd:q.desc= .slice e) (hj:ti e=some j) (hsz:0<j.size) (x y:Operand) (ho:o.op= .call {callee:=.builtin .append,args:=#[x,y],argTypes:=#[t,t]})
  {isNil:Bool} {rows ys:List D}
  (hx:∀{w:World} {Z:Ak} {g:AP} {h:Heap} {v:Value},An w Z g h (AX ti s t x) v→(∃A,v= .slice A rows.length rows.length∧(isNil=true→rows=[]∧A=none))∧AZ w Z (.list (AR j.desc) j.size rows) v)
  (hy:∀{w:World} {Z:Ak} {g:AP} {h:Heap} {v:Value},An w Z g h (AX ti s t y) v→AZ w Z (.list (AR j.desc) j.size ys) v)
  (hk:MR C.M (AR j.desc) j.size e j.bytes fresh isNil rows ys k):∃out,k out∧BN C o fresh s h out:=by
 unfold MR at hk;obtain⟨hlk,out,rfl,own,hk⟩:=hk;obtain⟨hmax,hbytes⟩:=(C.M.lock_iff _).1 hlk;have ht:C.P.underlying t=some (.slice e):=by rw[(hti t q hq).1,hd]
 obtain⟨i,i1,i2,i3,i4,i5⟩:=Dv hti hj
 have opx:∀{F:Nat→Prop} {σs:AL} {σh:Heap} {g:AP} {a:Act} {w:World} (R:AY C F σs σh g a w),(∀t,Operand.tmp t∈o.op.operands.toList→σs t=s t)→An w (Av (zone g σh) C.X) g σh (AX ti s t x) (a.eval x):=
  fun R hs=>AI ti t x R (s:=s) (fun k hk=>hs k (by subst hk;simp[ho,Op.operands,Call.operands]))
 have opy:∀{F:Nat→Prop} {σs:AL} {σh:Heap} {g:AP} {a:Act} {w:World} (R:AY C F σs σh g a w),(∀t,Operand.tmp t∈o.op.operands.toList→σs t=s t)→An w (Av (zone g σh) C.X) g σh (AX ti s t y) (a.eval y):=
  fun R hs=>AI ti t y R (s:=s) (fun k hk=>hs k (by subst hk;simp[ho,Op.operands,Call.operands]))
 cases own with
 | true=>
  obtain⟨hne,hk⟩:=hk;refine⟨_,hk,Sg hsz fun F σs σh g a w R hs=>?_⟩
  obtain⟨⟨A,hv,hnil⟩,hrx⟩:=hx (opx R hs);have hry:=hy (opy R hs)
  by_cases hys:ys=[]
  ·-- nil, and nothing
   subst hys;rcases hne with hni | hni
   ·obtain⟨rfl,rfl⟩:=hnil hni;generalize hyv:a.eval y=v at hry;cases hry with
    | list _ _ _ B c b o' U hcap hmx hfit ha hc hr=>
     refine⟨.slice none 0 0,w,[],?_,?_,⟨rfl,rfl,rfl,Nat.le_refl _,fun _ _ _=>rfl⟩,by simp,by simp⟩
     ·refine B7 (r:=.ok (.slice none 0 0) w) ho ?_;rw[hv,hyv];exact CX (P:=C.P) ht i1 (Nat.le_refl _)
     ·exact World.ownsRow_nil w _ _ _
   ·exact absurd rfl hni
  ·generalize hyv:a.eval y=v at hry;cases hry0:v with
   | slice B m c=>
    subst hry0;have hrx':=hrx;rw[hv]at hrx';obtain⟨v',w',zs,h1,h2,h3,h4,h5⟩:=Sf hti (ty:=o.type) hq hd hj hsz hrx' rfl (fun h1 h2=>by rw[h1];rfl) hry hys hmax hbytes
    refine⟨v',w',zs,B7 (r:=.ok v' w') ho (by rw[hv,hyv];exact h1),h2,h3,h4,h5⟩
   | _=>subst hry0;cases hry
 | false=>
  refine⟨_,hk,QW fun F σs σh g a w R hs=>?_⟩
  obtain⟨⟨A,hv,hnil⟩,hrx⟩:=hx (opx R hs);have hry:=hy (opy R hs)
  by_cases hys:ys=[]
  ·subst hys;generalize hyv:a.eval y=v at hry;cases hry with
   | list _ _ _ B c b o' U hcap hmx hfit ha hc hr=>
    refine⟨a.eval x,w,?_,R,by simpa using hrx⟩
    refine B7 (r:=.ok (a.eval x) w) ho ?_;rw[hv,hyv];exact CX (P:=C.P) ht i1 (Nat.le_refl _)
  ·generalize hyv:a.eval y=v at hry;cases hry0:v with
   | slice B m c=>
    subst hry0;have hrx':=hrx;rw[hv]at hrx';obtain⟨v',w',zs,h1,h2,h3,h4,h5⟩:=Sf hti (ty:=o.type) hq hd hj hsz hrx' rfl (fun h1 h2=>by rw[h1];rfl) hry hys hmax hbytes
    obtain⟨r1,r2⟩:=R.plain h3 hsz h2 h4 h5;exact⟨v',w',B7 (r:=.ok v' w') ho (by rw[hv,hyv];exact h1),r1,r2⟩
   | _=>subst hry0;cases hry
end
end
end Go.AM
namespace Go.AM
open Go Go.RowKit
section
variable {C:Cx}{ti:Types}{o:Oper}{fresh:Nat}{s:AL}{h:Heap}{k:Out→Prop}
theorem QX (hti:Ay C.P ti) {t e:TypeId}{q j:TI}(hq:ti t=some q) (hd:q.desc= .slice e) (hj:ti e=some j) (hsz:0<j.size) (x y:Operand) (ho:o.op= .call {callee:=.builtin .append,args:=#[x,y],argTypes:=#[t,t]})
  {i:Nat} {rows ys:List D} (hx0:AX ti s t x= .v (.c (.lst (.loc i) (AR j.desc) j.size rows))) (hi:h (.loc i)=some (.tok rows.length j.size e))
  (hy:∀{w:World} {Z:Ak} {g:AP} {h:Heap} {v:Value},An w Z g h (AX ti s t y) v→AZ w Z (.list (AR j.desc) j.size ys) v)
  (hmax:rows.length+ys.length≤maxLen) (hbytes:(rows.length+ys.length)*j.bytes≤140737488355328):
  BN C o fresh s h ⟨.v (.c (.lst (.loc i) (AR j.desc) j.size (rows++ys))),[.loc i],[(.loc i,.tok (rows++ys).length j.size e)]⟩:=by
 rintro F σs σh a w Q ⟨g,R⟩ hs hrd hF hdst
 have hσi:σh (.loc i)=some (.tok rows.length j.size e):=(hrd _ (by simp)).trans hi
 have hx:=AI ti t x R (s:=s) (fun k hk=>hs k (by subst hk;simp[ho,Op.operands,Call.operands]))
 rw[hx0]at hx;obtain⟨hrx,hsl,htok⟩:=hx;obtain⟨_,_,hv⟩:=htok _ _ _ hσi;have hv:=hv rfl;have hry:=hy (AI ti t y R (s:=s) (fun k hk=>hs k (by subst hk;simp[ho,Op.operands,Call.operands])))
 have ht:C.P.underlying t=some (.slice e):=by rw[(hti t q hq).1,hd]
 obtain⟨ii,i1,i2,i3,i4,i5⟩:=Dv hti hj;obtain⟨_,xs,hown⟩:=R.heap.objs _ _ hσi;have hl:(rows++ys).length=rows.length+ys.length:=List.length_append
 -- the end: a run, and what it leaves
 have fin:∀v' w',(Builtin.append_ #[t,t] o.type #[a.eval x,a.eval y]).run C.P w= .ok v' w'→
   (AY C F σs (AK σh (.loc i) (.tok (rows++ys).length j.size e)) (Ap g (.loc i) v') a w'∧
   BB w' (Av (zone (Ap g (.loc i) v') (AK σh (.loc i) (.tok (rows++ys).length j.size e))) C.X) (Ap g (.loc i) v') (AK σh (.loc i) (.tok (rows++ys).length j.size e)) (.lst (.loc i) (AR j.desc) j.size (rows++ys)) v')→
   o.wp C.P a w (fun a' w'=>Rel C (fun n=>F n∧¬(fresh≤n∧n<fresh+32)) (CR σs o.dst (.v (.c (.lst (.loc i) (AR j.desc) j.size (rows++ys))))) (Az σh [(.loc i,.tok (rows++ys).length j.size e)]) a' w') Q:=by
  rintro v' w' hrun ⟨R',hlst⟩
  unfold Oper.wp;rw[B7 (r:=.ok v' w') ho hrun];exact⟨_,(R'.put hdst (v:=.v (.c (.lst (.loc i) (AR j.desc) j.size (rows++ys)))) hlst).Af (fun n hn=>hn.1)⟩
 generalize hyv:a.eval y=vy at hry fin
 by_cases hys:ys=[]
 ·subst hys;cases hry with
  | list _ _ _ B c b o' U hcap hmx hfit ha hc hr=>
   obtain⟨hlx,h2⟩:=hown
   have hrun:(Builtin.append_ #[t,t] o.type #[a.eval x,.slice B 0 c]).run C.P w= .ok (g (.loc i)) w:=by
    rw[hv];rcases h2 with⟨h3,h4⟩ | ⟨qb,cap,cur,h3,_,h5,h6,_⟩
    ·rw[h3];exact CX (P:=C.P) ht i1 (Nat.le_refl _)
    ·rw[h3];exact CX (P:=C.P) ht i1 h6
   refine fin (g (.loc i)) w hrun ?_;have e1:AK σh (.loc i) (.tok (rows++[]).length j.size e)=σh:=YQ (by simpa using hσi)
   rw[e1,YR];refine⟨R,?_⟩;rw[List.append_nil,←hv];trivial
 ·cases vy with
  | slice B m c=>
   obtain⟨hm,_,_,hB,hfy,news,n1,n2,n3,n4⟩:=hry.GQ hsz;obtain⟨bb,oo,rfl⟩:=hB hys;subst hm
   have hmpos:0<ys.length:=by
    grind
   have hnews:∀(j':Nat) u,news[j']?=some u→w.cell? ((⟨bb,oo,none⟩:Addr).add j')=some u:=fun j' u hu=>by
    have:=(n3 bb oo rfl j' u hu).1;simpa [BV] using this
   generalize hgi:g (.loc i)=gi at hown hv;rw[hv]at hrx fin;obtain⟨hlx,h2⟩:=hown;rcases h2 with⟨rfl,h4⟩ | ⟨qb,cap,cur,rfl,_,h5,h6,h7,h8,h9⟩
   ·-- the list is nil
    have hr0:rows=[]:=List.eq_nil_of_length_eq_zero h4;subst hr0;obtain⟨v',w',hrun,r1,r2,_⟩:=run_append_own (P:=C.P) w w.heap.size t o.type e ii j.zero j.size j.bytes ht i1 i4 i2 i3 i5 hsz (.slice none 0 0) 0 [] (World.ownsRow_nil w _ _ _) ⟨bb,oo,none⟩ ys.length c news n1 hnews n2 (by simpa using hmax) (by simpa using hbytes) (Nat.le_refl _)
    obtain⟨g1,g2,g3,g4,g5⟩:=r2;refine fin v' w' (by simpa using hrun) (R.SD hsz hσi (zs:=news) ⟨g1,g2,g3,g4⟩ (fun b hb _=>g5 b hb (by simp[Value.ownBlock])) (fun b o u hu _=>?_) ?_ (fun b hb=>.inr ?_) (by simp;omega) (by simpa using hfy) (by simpa using n4))
    ·exact (World.cell?_of_block (a:=⟨b,o,none⟩) (g5 b (World.block_lt_of_cell? w ⟨b,o,none⟩ hu) (by simp[Value.ownBlock]))).trans hu
    ·obtain⟨p1,p2⟩:=r1;refine⟨by simpa using p1,?_⟩
     grind
    ·rcases r1.2 with⟨p3,_⟩ | ⟨q',c',cu',p3,p4,_⟩
     ·grind
     ·rw[p3]at hb;simp[blk]at hb;omega
   ·-- a row
    obtain⟨_,_,_,hA,hfr,olds,o1,o2,o3,o4⟩:=hrx.GQ hsz
    have hxs:∀(k:Nat) u,olds[k]?=some u→xs[k]?=some u:=by
     intro k u hu;have hc:=(o3 qb 0 rfl k u hu).1;have hk:=(List.getElem?_eq_some_iff.1 hu).1;rw[o1]at hk;have:cur[k]?=some u:=by simpa [World.cell?,h5] using hc
     grind
    have o4':∀(i:Nat) x (q:Nat) c,rows[i]?=some x→x.cells[q]?=some c→∃u,xs[i*j.size+q]?=some u∧AZ w (Av (zone g σh) C.X) c u:=by
     intro i x q c hx hq;obtain⟨u,hu,hr⟩:=o4 i x q c hx hq;grind
    have hrow:=M4 hlx hfy hfr o4' n4;have hfit:=HL hfr hfy;have hownw:w.ownsRow 0 e j.size (.slice (some ⟨qb,0,none⟩) rows.length cap) rows.length xs:=⟨hlx,.inr ⟨qb,cap,cur,rfl,Nat.zero_le _,h5,h6,h7,h8,h9⟩⟩
    by_cases hroom:rows.length+ys.length≤cap
    ·-- in place
     obtain⟨v',w',hrun,r1,r2,_⟩:=run_append_own (P:=C.P) w 0 t o.type e ii j.zero j.size j.bytes ht i1 i4 i2 i3 i5 hsz _ rows.length xs hownw ⟨bb,oo,none⟩ ys.length c news n1 hnews n2 hmax hbytes (Nat.zero_le _)
     have hrun2:=run_append_room_cells (P:=C.P) w t o.type e ii ht i1 qb 0 rows.length cap ⟨bb,oo,none⟩ ys.length c news (by rw[i2];exact n1) hnews n2 hroom
      (fun k hk=>by
       have hlt:rows.length*ii.size+k<cur.size:=by
        rw[h8,i2];rw[n1]at hk;have:=Nat.mul_le_mul_right j.size hroom;grind
       simp[World.cell?,h5,hlt])
      (fun k hk=>by simp[World.frozen?,h5])
     rw[hrun]at hrun2
     obtain⟨rfl,rfl⟩:v'= .slice (some ⟨qb,0,none⟩) (rows.length+ys.length) cap∧w'=w.setCells qb (0+rows.length*ii.size) news:=by
      grind
     obtain⟨g1,g2,g3,g4,g5⟩:=r2;refine fin _ _ hrun (R.SD hsz hσi (zs:=xs++news) ⟨g1,g2,g3,g4⟩ (fun b hb hne=>g5 b hb (by rw[hgi]at hne;simpa [Value.ownBlock,blk,eq_comm] using hne)) (fun b o' u hu hz=>?_) (by rw[hl];exact r1) (fun b hb=>.inl ?_) (by omega) hfit hrow)
     ·have:=World.cell?_setCells_out qb news (0+rows.length*ii.size) w ⟨b,o',none⟩ (fun hb _=>.inl ?_)
      ·rw[this];exact hu
      ·rw[hgi]at hz;simp only at hb;subst hb;rw[i2,Nat.zero_add]
       by_cases hlo:o'<rows.length*j.size
       ·exact hlo
       ·exact absurd ⟨rfl,by omega⟩ hz
     ·rw[hgi];exact hb
    ·-- a new row
     obtain⟨v',w',hrun,r1,r2⟩:=run_append_arg_grows (P:=C.P) w t o.type e ii j.zero j.size j.bytes ht i1 i4 i2 i3 i5 hsz ⟨qb,0,none⟩ rows.length cap xs hlx
      (fun k u hu=>by
       have hk:=(List.getElem?_eq_some_iff.1 hu).1;rw[←h9,List.getElem?_take]at hu;split at hu
       ·have hu:cur[k]?=some u:=by simpa using hu
        simp[BV,World.cell?,h5,hu]
       ·cases hu)
      ⟨bb,oo,none⟩ ys.length c news n1 hnews (by omega) hmax hbytes
     obtain⟨g1,g2,g3,g4,g5⟩:=r2;refine fin v' w' hrun (R.SD hsz hσi (zs:=xs++news) ⟨g1,g2,g3,g4⟩ (fun b hb _=>g5 b hb (by simp)) (fun b o' u hu _=>?_) ?_ (fun b hb=>.inr ?_) (by omega) hfit hrow)
     ·exact (World.cell?_of_block (a:=⟨b,o',none⟩) (g5 b (World.block_lt_of_cell? w ⟨b,o',none⟩ hu) (by simp))).trans hu
     ·obtain⟨p1,p2⟩:=r1;rw[hl];refine⟨p1,?_⟩;grind
     ·rcases r1.2 with⟨p3,_⟩ | ⟨q',c',cu',p3,p4,_⟩
      ·grind
      ·rw[p3]at hb;simp[blk]at hb;omega
  | _=>cases hry
theorem YS (hti:Ay C.P ti) (t:TypeId) (x y:Operand) (ho:o.op= .call {callee:=.builtin .append,args:=#[x,y],argTypes:=#[t,t]}) (hk:Fx C.M ti t (AX ti s t x) (AX ti s t y) fresh h k):∃out,k out∧BN C o fresh s h out:=by
 unfold Fx at hk;obtain⟨q,hq,hk⟩:=AF.1 hk;split at hk
 ·rename_i e hd;obtain⟨j,hj,hk⟩:=AF.1 hk;replace hk:=AA.1 hk;obtain⟨hsz,hk⟩:=hk;have hsz:0<j.size:=by simp_all
  replace hk:=En hk;obtain⟨ag,sz,ys,hy,hk⟩:=hk;replace hk:=AA.1 hk;obtain⟨hag,hk⟩:=hk;replace hk:=AA.1 hk;obtain⟨hs2,hk⟩:=hk;have hag:AR j.desc=ag:=by simpa using hag
  have hs2:sz=j.size:=Nat.eq_of_beq_eq_true hs2;subst hag;subst hs2;split at hk
  ·rename_i ag' sz' hop;refine M5 hti hq hd hj hsz x y ho (fun r=>?_) hy hk
   rw[hop]at r;rw[show _=_ from r]
   exact⟨⟨none,rfl,fun _=>⟨rfl,rfl⟩⟩,Fv _ _⟩
  ·rename_i ag' sz' rows hop;replace hk:=AA.1 hk;obtain⟨ha',hk⟩:=hk;replace hk:=AA.1 hk;obtain⟨hs',hk⟩:=hk;have ha':AR j.desc=ag':=by simpa using ha'
   have hs':sz'=j.size:=Nat.eq_of_beq_eq_true hs';subst ha';subst hs';refine M5 hti hq hd hj hsz x y ho (fun r=>?_) hy hk
   rw[hop]at r;obtain⟨r1,A,r2⟩:=r;simp_all
  ·rename_i i ag' sz' rows hop;replace hk:=AA.1 hk;obtain⟨ha',hk⟩:=hk;replace hk:=AA.1 hk;obtain⟨hs',hk⟩:=hk;have ha':AR j.desc=ag':=by simpa using ha'
   have hs':sz'=j.size:=Nat.eq_of_beq_eq_true hs';subst ha';subst hs';split at hk
   ·rename_i n sz2 e2 hi;replace hk:=AA.1 hk;obtain⟨h1,hk⟩:=hk;replace hk:=AA.1 hk;obtain⟨h2,rfl,hlk,out,rfl,hk⟩:=hk;obtain⟨h3,h4⟩:=(C.M.lock_iff _).1 hlk;have h1:=Nat.eq_of_beq_eq_true h1;have h2:=Nat.eq_of_beq_eq_true h2;subst h1;subst h2;exact⟨_,hk,QX hti hq hd hj hsz x y ho hop hi hy h3 h4⟩
   ·exact hk.elim
  ·exact hk.elim
 ·exact hk.elim
end
end Go.AM
namespace Go.AM
open Go Go.RowKit
theorem Kl {P:Program}(w:World) (t ty e e0:TypeId) (i:TypeInfo) (ht:P.underlying t=some (.slice e)) (hi:P.info? e=some i)
  (g sLen sCap:Nat) (cur:Array Value) (hg:w.heap[g]?=some (.cells cur e0 (0,0)))
  (a:Addr) (m c:Nat) (news:List Value) (hl:news.length=m*i.size) (hnews:∀(j:Nat) u,news[j]?=some u→w.cell? (a.add j)=some u) (h1:∀u∈news,u.oneCell'=true)
  (hroom:sLen+m≤sCap) (hfit:sLen*i.size+news.length≤cur.size):
  (Builtin.append_ #[t,t] ty #[.slice (some ⟨g,0,none⟩) sLen sCap,.slice (some a) m c]).run P w=
   .ok (.slice (some ⟨g,0,none⟩) (sLen+m) sCap) (w.setRow g (cur.toList.take (sLen*i.size)++news++cur.toList.drop (sLen*i.size+news.length)).toArray):=by
 have hf:=run_firstCells_some (P:=P) w i.size m a m c news hl hnews;have hst:=run_storeCells_at P g (sLen*i.size) e0 news 0 cur w hg (by simpa using hfit) h1
 simp only[Nat.add_zero]at hst;simp[Builtin.append_,run_underlying ht,sizeOf,typeInfo,hi,Builtin.lenOf,hroom,hf,Addr.add_lit,hst]
theorem Ez {P:Program}{ti:Types}(hti:Ay P ti) {t ty e:TypeId}{q j:TI}(hq:ti t=some q) (hd:q.desc= .slice e) (hj:ti e=some j) (hsz:0<j.size) {w:World}{v:Value}{n:Nat}{xs:List Value}
  (hx:Holds w .row j.size v n xs) {B:Option Addr} {m c:Nat} {news:List Value} (n1:news.length=m*j.size)
  (hB:0<m→∃bb oo,B=some ⟨bb,oo,none⟩∧∀(k:Nat) u,news[k]?=some u→w.cell? ⟨bb,oo+k,none⟩=some u) (n2:∀u∈news,u.oneCell'=true)
  (hmax:n+m≤maxLen) (hbytes:(n+m)*j.bytes≤140737488355328):
  ∃v' w',(Builtin.append_ #[t,t] ty #[v,.slice B m c]).run P w= .ok v' w'∧Holds w' .row j.size v' (n+m) (xs++news)∧(w'.os=w.os∧w'.tape=w.tape∧w'.output=w.output∧w.heap.size≤w'.heap.size)∧
   (∀b,b<w.heap.size→blk v≠some b→w'.heap[b]?=w.heap[b]?)∧(∀b,blk v'=some b→blk v=some b∨w.heap.size≤b):=by
 obtain⟨_,ii,i1,i2,i3,i4,i5,_⟩:=hti e j hj;have i4':=i4;have ht:P.underlying t=some (.slice e):=by rw[(hti t q hq).1,hd]
 by_cases hm:m=0
 ·subst hm;have hn:news=[]:=List.eq_nil_of_length_eq_zero (by simpa using n1)
  subst hn;obtain⟨A,cap,hv,hcap,_⟩:=hx.row;subst hv;exact⟨_,w,CX (P:=P) ht i1 hcap,by simpa using hx,⟨rfl,rfl,rfl,Nat.le_refl _⟩,fun _ _ _=>rfl,fun _ h=>.inl h⟩
 ·obtain⟨bb,oo,rfl,hnews⟩:=hB (by omega)
  have hnews':∀(k:Nat) u,news[k]?=some u→w.cell? ((⟨bb,oo,none⟩:Addr).add k)=some u:=fun k u hu=>by rw[BV];exact hnews k u hu
  obtain⟨e0,hx1,hx2⟩:=hx
  have big:∀{v':Value} {w':World},w'.ownsRow w.heap.size e j.size v' (n+m) (xs++news)→Holds w' .row j.size v' (n+m) (xs++news)∧(∀b,blk v'=some b→blk v=some b∨w.heap.size≤b):=by
   rintro v' w' ⟨p1,p2⟩
   rcases p2 with⟨p3,p4⟩ | ⟨qb,cap,cur,p3,p4,p5⟩
   ·simp_all
   ·exact⟨⟨e,p1,.inr ⟨qb,cap,cur,p3,Nat.zero_le _,p5⟩⟩,fun b hb=>by rw[p3]at hb;simp[blk]at hb;exact .inr (by omega)⟩
  rcases hx2 with⟨rfl,h4⟩ | ⟨qb,cap,cur,rfl,_,h5,h6,h7,h8,h9⟩
  ·subst h4;have hx0:xs=[]:=List.eq_nil_of_length_eq_zero (by simpa using hx1)
   subst hx0;obtain⟨v',w',hrun,r1,r2,_⟩:=run_append_own (P:=P) w w.heap.size t ty e ii j.zero j.size j.bytes ht i1 i4 i2 i3 i5 hsz (.slice none 0 0) 0 [] (World.ownsRow_nil w _ _ _) ⟨bb,oo,none⟩ m c news n1 hnews' n2 hmax hbytes (Nat.le_refl _);obtain⟨g1,g2,g3,g4,g5⟩:=r2;obtain⟨b1,b2⟩:=big r1;exact⟨v',w',hrun,b1,⟨g1,g2,g3,g4⟩,fun b hb _=>g5 b hb (by simp[Value.ownBlock]),b2⟩
  ·by_cases hroom:n+m≤cap
   ·have hle:=Nat.mul_le_mul_right j.size hroom;rw[Nat.add_mul]at hle;have hrun:=Kl (P:=P) w t ty e e0 ii ht i1 qb n cap cur h5 ⟨bb,oo,none⟩ m c news (by rw[i2];exact n1) hnews' n2 hroom (by simp_all)
    refine⟨_,_,hrun,⟨e0,?_,.inr ⟨qb,cap,_,rfl,Nat.zero_le _,setRow_heap w qb cur _ e0 _ h5,hroom,h7,?_,?_⟩⟩,⟨rfl,rfl,rfl,by simp⟩,fun b _ hb=>setRow_other w qb b _ (fun e=>hb (by rw[e];rfl)),fun b hb=>.inl hb⟩
    ·grind
    ·grind
    ·have e1:(xs++news).length=(n+m)*j.size:=by grind
     grind
   ·obtain⟨v',w',hrun,r1,r2⟩:=run_append_arg_grows (P:=P) w t ty e ii j.zero j.size j.bytes ht i1 i4 i2 i3 i5 hsz ⟨qb,0,none⟩ n cap xs hx1
     (fun k u hu=>by
      have hk:=(List.getElem?_eq_some_iff.1 hu).1;rw[←h9,List.getElem?_take]at hu;split at hu
      ·have hu:cur[k]?=some u:=by simpa using hu
       simp[BV,World.cell?,h5,hu]
      ·cases hu)
     ⟨bb,oo,none⟩ m c news n1 hnews' (by omega) hmax hbytes
    obtain⟨g1,g2,g3,g4,g5⟩:=r2;grind
end Go.AM
namespace Go.AM
open Go Go.RowKit
structure EY (w:World) (ag:Bool) (sz:Nat) (rows:List D) (xs:List Value) (T:Nat→Nat→Nat→Prop) (S:Nat→Prop):Prop where
 fits:∀r∈rows,r.fits ag sz
 len:xs.length=rows.length*sz
 cell:∀(i:Nat) r (j:Nat) c,rows[i]?=some r→r.cells[j]?=some c→∃u,xs[i*sz+j]?=some u∧B6 w c u (T i j)
 bound:∀i j b,T i j b→∃r c,rows[i]?=some r∧r.cells[j]?=some c
 inj:∀i j i' j' b,T i j b→T i' j' b→i=i'∧j=j'
 sub:∀i j b,T i j b→S b
theorem EY.nil (w:World) (ag:Bool) (sz:Nat):EY w ag sz [] [] (fun _ _ _=>False) (fun _=>False):=
 ⟨by simp,by simp,by simp,by simp,by simp,by simp⟩
theorem EY.append {w:World}{ag:Bool}{sz:Nat}{rows ys:List D}{xs zs:List Value}{T T':Nat→Nat→Nat→Prop}{S S':Nat→Prop}(h:EY w ag sz rows xs T S) (h':EY w ag sz ys zs T' S') (hd:∀b,S b→S' b→False):
  EY w ag sz (rows++ys) (xs++zs) (fun i j b=>if i<rows.length then T i j b else T' (i - rows.length) j b) (fun b=>S b∨S' b):=by
 refine⟨HL h.fits h'.fits,by rw[List.length_append,List.length_append,h.len,h'.len,Nat.add_mul],fun i r j c hi hj=>?_,fun i j b hb=>?_,fun i j i' j' b hb hb'=>?_,fun i j b hb=>?_⟩
 ·by_cases hl:i<rows.length
  ·rw[List.getElem?_append_left hl]at hi;obtain⟨u,hu,hr⟩:=h.cell i r j c hi hj;refine⟨u,by grind,?_⟩
   simp_all
  ·rw[List.getElem?_append_right (by omega)]at hi
   obtain⟨u,hu,hr⟩:=h'.cell _ r j c hi hj;have hle:rows.length*sz≤i*sz:=Nat.mul_le_mul_right _ (by omega)
   refine⟨u,?_,?_⟩
   ·rw[List.getElem?_append_right (by rw[h.len];omega),←hu]
    congr 1;rw[h.len,Nat.sub_mul];omega
   ·simp only[hl,if_false];exact hr
 ·skip;split at hb
  ·rename_i hl;obtain⟨r,c,h1,h2⟩:=h.bound i j b hb;grind
  ·rename_i hl;obtain⟨r,c,h1,h2⟩:=h'.bound _ j b hb;grind
 ·skip;split at hb<;>split at hb'
  ·exact h.inj _ _ _ _ b hb hb'
  ·exact (hd b (h.sub _ _ b hb) (h'.sub _ _ b hb')).elim
  ·exact (hd b (h.sub _ _ b hb') (h'.sub _ _ b hb)).elim
  ·obtain⟨e1,e2⟩:=h'.inj _ _ _ _ b hb hb';grind
 ·skip;split at hb
  ·exact .inl (h.sub _ _ b hb)
  ·exact .inr (h'.sub _ _ b hb)
theorem EY.same {w w':World}{ag:Bool}{sz:Nat}{rows:List D}{xs:List Value}{T:Nat→Nat→Nat→Prop}{S:Nat→Prop}(h:EY w ag sz rows xs T S) (hb:∀b,S b→w'.heap[b]?=w.heap[b]?):EY w' ag sz rows xs T S:=
 {h with cell:=fun i r j c hi hj=>let ⟨u,hu,hr⟩:=h.cell i r j c hi hj;⟨u,hu,hr.same fun b hb'=>hb b (h.sub i j b hb')⟩}
section
variable {C:Cx}{F:Nat→Prop}{s:AL}{h:Heap}{g:AP}{a:Act}{w:World}
theorem EY.qL {X:Ak}(R:DA w X g h) {i:Id}{kd:Kd}{ag:Bool}{sz:Nat}{rows:List D}(hi:h i=some (.tree kd ag sz rows none)) (hkf:kd.IT=false:=by rfl):
  ∃xs T,Holds w kd sz (gval (g i)) rows.length xs∧EY w ag sz rows xs T (fun b=>Bc (g i) b)∧(∀i' j b,T i' j b→blk (gval (g i))≠some b)∧(∀b,blk (gval (g i))=some b→Bc (g i) b)∧0<sz:=by
 obtain⟨ht,h0,hf,xs,hx,_,U,T,h1,h2,h3,h4,h5⟩:=R.objs i _ hi;refine⟨xs,T,hx,⟨hf,hx.len,fun i r j c hr hj=>⟨_,(h1 i r j c (fun _ _ h=>by cases h) hr hj).1,(Cm.own hkf).1 (h1 i r j c (fun _ _ h=>by cases h) hr hj).2⟩,fun i j b hb=>(h2 i j b hb).2,h4,fun i j b hb=>(h5 b).2 (.inr ⟨i,j,hb⟩)⟩,h3,fun b hb=>(h5 b).2 (.inl hb),h0⟩
theorem EY.of_closed {X Z:Ak}(R:DA w X g h) {ag:Bool}{sz n:Nat}{cs:List CV}{ds:List D}{iss:List (List Id)}{vs:List Value}(hsz:0<sz) (hag:ag=false→sz=1) (hn:cs.length=n*sz)
  (hds:ds.length=cs.length) (his:iss.length=cs.length) (hvs:vs.length=cs.length) (hnd:iss.flatten.Nodup)
  (hc:∀(q:Nat) c d is,cs[q]?=some c→ds[q]?=some d→iss[q]?=some is→BU h c d is) (hr:∀(q:Nat) c u,cs[q]?=some c→vs[q]?=some u→BB w Z g h c u):
  EY w ag sz (rowsOf ag sz n ds) vs (fun i j b=>i<n∧j<sz∧∃is,iss[i*sz+j]?=some is∧∃x∈is,Bc (g x) b) (fun b=>∃x∈iss.flatten,Bc (g x) b):=by
 have bound:∀i j,i<n→j<sz→i*sz+j<cs.length:=by
  intro i j hi hj;rw[hn];have:=Nat.mul_le_mul_right sz (show i+1≤n from hi)
  grind
 have own:∀q,q<cs.length→∃d is u,ds[q]?=some d∧iss[q]?=some is∧vs[q]?=some u∧B6 w d u (fun b=>∃x∈is,Bc (g x) b):=by
  intro q hq;have p1:cs[q]?=some cs[q]:=by simp
  have p2:ds[q]?=some (ds[q]'(by omega)):=List.getElem?_eq_getElem (by omega)
  have p3:iss[q]?=some (iss[q]'(by omega)):=List.getElem?_eq_getElem (by omega)
  have p4:vs[q]?=some (vs[q]'(by omega)):=List.getElem?_eq_getElem (by omega)
  exact⟨_,_,_,p2,p3,p4,(hc q _ _ _ p1 p2 p3).rel R ((List.sublist_flatten_of_mem (List.mem_of_getElem? p3)).nodup hnd) (hr q _ _ p1 p4)⟩
 have hda:∀d∈ds,d.isAgg=false:=by
  intro d hd;obtain⟨q,hq⟩:=List.mem_iff_getElem?.1 hd;obtain⟨d',_,_,e1,_,_,ho⟩:=own q (by grind)
  rw[hq]at e1;cases e1
  exact ho.isAgg
 have row:∀i,i<n→(rowOf ag ((ds.drop (i*sz)).take sz)).cells=(ds.drop (i*sz)).take sz∧(rowOf ag ((ds.drop (i*sz)).take sz)).isAgg=ag:=by
  intro i hi;refine FG (fun d hd=>hda d (List.mem_of_mem_drop (List.mem_of_mem_take hd))) (fun e=>?_)
  grind
 refine⟨fun r hr'=>?_,by rw[hvs,hn,I4],fun i r j c hi hj=>?_,fun i j b hb=>?_,fun i j i' j' b hb hb'=>?_,fun i j b hb=>?_⟩
 ·obtain⟨i,hi⟩:=List.mem_iff_getElem?.1 hr';obtain⟨hlt,rfl⟩:=GR hi;obtain⟨r1,r2⟩:=row i hlt;have:=bound i (sz - 1) hlt (by omega)
  exact⟨r2,by rw[r1];simp;omega,by grind⟩
 ·obtain⟨hlt,rfl⟩:=GR hi;rw[(row i hlt).1,List.getElem?_take]at hj;split at hj
  ·rename_i hjs;rw[List.getElem?_drop]at hj;obtain⟨d,is,u,e1,e2,e3,ho⟩:=own (i*sz+j) (bound i j hlt hjs);simp_all
  ·cases hj
 ·obtain⟨hi,hj,is,e2,_⟩:=hb;have hlt:=bound i j hi hj;refine⟨_,ds[i*sz+j]'(by omega),by simp[rowsOf,hi];rfl,?_⟩
  simp_all
 ·obtain⟨hi,hj,is,e2,x,hx,hb⟩:=hb;obtain⟨hi',hj',is',e2',x',hx',hb'⟩:=hb'
  have wh:∀{q:Nat} {is:List Id} {x:Id},iss[q]?=some is→x∈is→∃ob,h x=some ob∧B4 ob:=by
   intro q is x hq hx;have hlt:=(List.getElem?_eq_some_iff.1 hq).1;exact (hc q (cs[q]'(by omega)) (ds[q]'(by omega)) is (List.getElem?_eq_getElem (by omega)) (List.getElem?_eq_getElem (by omega)) hq).whole x hx
  obtain⟨ob,o1,o2⟩:=wh e2 hx;obtain⟨ob',o1',o2'⟩:=wh e2' hx';have:=R.sep x x' ob ob' b o1 o1' (o2.HA hb) (o2'.HA hb');subst this;have hq:=Mv hnd e2 e2' hx hx'
  have e:i=i':=by
   rcases Nat.lt_trichotomy i i' with hl | hl | hl
   ·have:=Nat.mul_le_mul_right sz (show i+1≤i' from hl)
    grind
   ·exact hl
   ·have:=Nat.mul_le_mul_right sz (show i'+1≤i from hl)
    grind
  simp_all
 ·obtain⟨_,_,is,e2,x,hx,hb⟩:=hb;exact⟨x,List.mem_flatten.2 ⟨is,List.mem_of_getElem? e2,hx⟩,hb⟩
theorem AY.SE (R:AY C F s h g a w) {T0:List Id}(hT:∀i∈T0,∃ob,h i=some ob∧B4 ob) {n:Nat}(hf:F n) {w':World}
  (hos:w'.os=w.os∧w'.tape=w.tape∧w'.output=w.output∧w.heap.size≤w'.heap.size)
  (hblk:∀b,b<w.heap.size→(∀i∈T0,¬Bc (g i) b)→w'.heap[b]?=w.heap[b]?)
  {kd:Kd} {ag:Bool} {sz:Nat} {out:List D} {v:Value} {zs:List Value} {T:Nat→Nat→Nat→Prop} {S:Nat→Prop} (hsz:0<sz) (hx:Holds w' kd sz v out.length zs) (ho:EY w' ag sz out zs T S)
  (hS:∀b,S b→∃i∈T0,Bc (g i) b) (hv:∀b,blk v=some b→(∃i∈T0,Bc (g i) b)∨w.heap.size≤b) (hdis:∀i j b,T i j b→blk v≠some b) (hkf:kd.IT=false:=by rfl):
  ∃g',AY C (fun k=>F k∧k≠n) s (AK (Az h (Aj T0)) (.loc n) (.tree kd ag sz out none)) g' a w'∧
   BB w' (Av (zone g' (AK (Az h (Aj T0)) (.loc n) (.tree kd ag sz out none))) C.X) g' (AK (Az h (Aj T0)) (.loc n) (.tree kd ag sz out none)) (.ow (.loc n)) v:=by
 obtain⟨l,hl⟩:=Bc.mJ (g:=g) T0;refine R.SC hT hf hos hblk (fun b=>blk v=some b∨∃i j,T i j b) ((blk v).toList++l) (fun b hb=>?_) (fun b hb=>?_) hx.BR (fun Z' g' h' gv gt gg gb _=>?_)
 ·rcases hb with hb | ⟨i,j,hb⟩
  ·simp_all
  ·obtain⟨x,hx1,hx2⟩:=hS b (ho.sub i j b hb);grind
 ·rcases hb with hb | ⟨i,j,hb⟩
  ·exact hv b hb
  ·exact .inl (hS b (ho.sub i j b hb))
 ·subst gg
  let U:Nat→Nat→Value:=fun i j=>zs.getD (i*sz+j) undef
  refine⟨gt,hsz,ho.fits,zs,hx,(fun _ _ h=>by cases h),U,T,fun i r j c _ hr hj=>?_,fun i j b hb=>⟨fun _ _ h=>(by cases h),ho.bound i j b hb⟩,hdis,ho.inj,gb⟩
  obtain⟨u,hu,hrel⟩:=ho.cell i r j c hr hj;have e1:U i j=u:=by simp[U,hu]
  rw[e1];exact⟨hu,(Cm.own hkf).2 hrel⟩
end
end Go.AM
namespace Go.AM
open Go Go.RowKit
def HM (ds:List D):List CV:=(ds.flatMap D.cells).map CV.d
theorem YT {ds:List D}{sz:Nat}(h:∀d∈ds,d.cells.length=sz):(HM ds).length=ds.length*sz:=by
 unfold HM;rw[List.length_map]
 induction ds with
 | nil=>simp
 | cons d ds ih=>grind
theorem PO {ds:List D}{sz:Nat}(h:∀d∈ds,d.cells.length=sz):∀(i:Nat) x (j:Nat) c,ds[i]?=some x→x.cells[j]?=some c→(HM ds)[i*sz+j]?=some (.d c):=by
 induction ds with
 | nil=>simp_all
 | cons d ds ih=>
  intro i x j c hx hj;have hd:=h d (by simp)
  match i with
  | 0=>
   simp at hx;subst hx;have hlt:=(List.getElem?_eq_some_iff.1 hj).1;simp only[HM,List.flatMap_cons,List.map_append,Nat.zero_mul,Nat.zero_add];grind
  | i+1=>
   simp at hx;simp only[HM,List.flatMap_cons,List.map_append];rw[List.getElem?_append_right (by grind)]
   have:=ih (fun x hx=>h x (by simp[hx])) i x j c hx hj
   rw[←this];simp only[HM,List.length_map,hd];grind
theorem Sh {ti:Types}{s:AL}{e:TypeId}{ag:Bool}{sz:Nat}{k:List D→Prop}:
  ∀(L:List (Nat×Operand)) (n:Nat) (k:List D→Prop),PE ti s e ag sz n L k→∃ds,k ds∧ds.length=L.length∧(∀d∈ds,d.isAgg=ag∧d.cells.length=sz)∧
   ∀(w:World) (Z:Ak) (g:AP) (h:Heap) (ev:Operand→Value),(∀t i p,(i,p)∈L→An w Z g h (AX ti s t p) (ev p))→
    (∀(i:Nat) d,ds[i]?=some d→∃v,AZ w Z d v)∧
    ∀(cs:List CV) (vs:Array Value),FH w Z g h cs vs→(n+L.length)*sz≤cs.length→
    ∃vs',Instr.fill (fun i=>some (i*sz,sz)) vs (L.map fun x=>(x.1,ev x.2))=some vs'∧FH w Z g h (cs.take (n*sz)++HM ds++cs.drop ((n+L.length)*sz)) vs'
 | [],n,k,hk=>⟨[],hk,rfl,by simp,fun w Z g h ev _=>⟨by simp,fun cs vs hc _=>⟨vs,rfl,by simpa [HM] using hc⟩⟩⟩
 | (i,x)::L,n,k,hk=>by
  unfold PE at hk;replace hk:=AA.1 hk;obtain⟨hin,hk⟩:=hk;have hin:=Nat.eq_of_beq_eq_true hin;subst hin;split at hk
  ·rename_i y hy;split at hk
   ·rename_i d hd;replace hk:=AA.1 hk;obtain⟨hag,hk⟩:=hk;replace hk:=AA.1 hk;obtain⟨hsz,hk⟩:=hk;have hag:d.isAgg=ag:=by simpa using hag
    have hsz:=Nat.eq_of_beq_eq_true hsz;obtain⟨ds,k1,k2,k3,k4⟩:=Sh (k:=k) L (i+1) _ hk;refine⟨d::ds,k1,by simp[k2],?_,fun w Z g h ev hev=>?_⟩
    ·simp_all
    ·have hr:=hev e i x (by simp)
     rw[hy]at hr;have hr:=Ah.norm hr;rw[hd]at hr;obtain⟨k5,k6⟩:=k4 w Z g h ev (fun t i' p hp=>hev t i' p (List.mem_cons_of_mem _ hp))
     refine⟨fun q d' hq=>?_,fun cs vs hc hb=>?_⟩
     ·match q with
      | 0=>simp at hq;subst hq;exact⟨_,hr⟩
      | q+1=>grind
     ·obtain⟨c1,c2⟩:=Ah.cells hr;have hcl:(V1.cells (.d d)).length=sz:=by simpa [V1.cells] using hsz
      have hb':i*sz+sz≤cs.length:=by
       grind
      have step:=MU (off:=i*sz) hc ⟨c1,c2⟩ (by rw[hcl];exact hb')
      rw[hcl]at step
      obtain⟨vs',h1,h2⟩:=k6 _ _ step (by
       simp[hsz,V1.cells,Nat.add_mul]at hb ⊢;omega)
      refine⟨vs',?_,?_⟩
      ·simp only[List.map_cons,Instr.fill];rw[if_neg]
       ·exact h1
       ·rw[c1,hcl,hc.1];simp_all
      ·have e1:(cs.take (i*sz)++V1.cells (.d d)++cs.drop (i*sz+sz)).take ((i+1)*sz)=cs.take (i*sz)++V1.cells (.d d):=by
        rw[List.take_append_of_le_length (by simp[hsz,V1.cells,Nat.add_mul];omega),List.take_of_length_le (by simp[hsz,V1.cells,Nat.add_mul];omega)]
       have e2:(cs.take (i*sz)++V1.cells (.d d)++cs.drop (i*sz+sz)).drop ((i+1+L.length)*sz)=cs.drop ((i+(L.length+1))*sz):=by
        rw[List.drop_append,List.drop_of_length_le (by simp[hsz,V1.cells,Nat.add_mul];omega),List.nil_append,List.drop_drop]
        congr 1;simp[hsz,V1.cells,Nat.add_mul];omega
       rw[e1,e2]at h2;simpa [HM,V1.cells,List.append_assoc] using h2
   ·exact hk.elim
  ·exact hk.elim
section
variable {C:Cx}{ti:Types}{o:Oper}{fresh:Nat}{s:AL}{h:Heap}{k:Out→Prop}
theorem M6 (w:World) (ob:Obj):w.grownBy (w.alloc ob) none:=World.grownBy_alloc w ob none
theorem Ou (hti:Ay C.P ti) (t:TypeId) (len:Nat) (parts:Array (Nat×Operand)) (ho:o.op= .buildSlice t len parts) (hk:DE ti s t len parts.toList k):∃out,k out∧BN C o fresh s h out:=by
 unfold DE at hk;replace hk:=AF.1 hk;obtain⟨q,hq,hk⟩:=hk;split at hk
 ·rename_i e hd;replace hk:=AF.1 hk;obtain⟨j,hj,hk⟩:=hk;replace hk:=AA.1 hk;obtain⟨hle,hk⟩:=hk;replace hk:=AA.1 hk;obtain⟨hlen,hk⟩:=hk;replace hk:=AA.1 hk;obtain⟨hsz,hk⟩:=hk;have hle:=Nat.le_of_ble_eq_true hle;have hlen:=Nat.eq_of_beq_eq_true hlen;have hsz:0<j.size:=by simp_all
  obtain⟨ds,hk,hdl,hds,hfill⟩:=Sh (k:=fun ds=>k ⟨.v (.c (.tl (AR j.desc) j.size ds)),[],[]⟩) _ _ _ hk
  refine⟨_,hk,?_⟩
  rintro F σs σh a w Q ⟨g,R⟩ hs hrd hF hdst
  have hev:∀t i p,(i,p)∈parts.toList→An w (Av (zone g σh) C.X) g σh (AX ti s t p) (a.eval p):=fun t i p hp=>
   AI ti t p R (s:=s) (fun k hk=>hs k (by
    subst hk;simp only[ho,Op.operands,List.mem_map];grind))
  obtain⟨f1,f2⟩:=hfill w _ g σh a.eval hev;obtain⟨ii,i1,i2,i3,i4,i5⟩:=Dv hti hj;obtain⟨_,ii',j1,j2,_,_,j5,j6,j7⟩:=hti e j hj
  -- the row of zero cells
  let zs:Array Value:=(Array.range (len*j.size)).map (fun i=>j.zero.cells[i % j.zero.cells.size]!)
  have hz0:FH w (Av (zone g σh) C.X) g σh (List.replicate (len*j.size) CV.un) zs:=by
   refine⟨by simp[zs],fun i c u hc hu=>?_⟩
   obtain rfl:=List.eq_of_mem_replicate (List.mem_of_getElem? hc)
   have hlt:i<len*j.size:=by
    grind
   have hu':u=j.zero.cells[i % j.zero.cells.size]!:=by
    grind
   have hm:i % j.zero.cells.size<j.zero.cells.size:=Nat.mod_lt _ (by rw[j5];exact hsz)
   have hzc:∃c,j.zc[i % j.zero.cells.size]?=some c:=⟨_,List.getElem?_eq_getElem (by simp_all)⟩
   obtain⟨c,hc⟩:=hzc;have:=j7 _ c _ hc (show j.zero.cells[i % j.zero.cells.size]?=some j.zero.cells[i % j.zero.cells.size]from by simp[hm])
   have:=BB.BR (EE (w:=w) (Z:=fun _ _=>False) (g:=g) (h:=σh) this)
   subst hu';show _=true;simpa [hm] using this
  obtain⟨vs',h1,h2⟩:=f2 _ _ hz0 (by simp[hlen])
  have hflat:(List.replicate (len*j.size) CV.un).take (0*j.size)++HM ds++(List.replicate (len*j.size) CV.un).drop ((0+parts.toList.length)*j.size)=HM ds:=by
   simp[hlen]
  rw[hflat]at h2;have hfl:=YT (ds:=ds) (sz:=j.size) (fun d hd=>(hds d hd).2)
  have hn:ds.length=len:=by rw[hdl,hlen]
  -- the run
  have e1:=Cp hti hq w;rw[hd]at e1;have e2:=Dr hti hj w;have e3:(zeroValue e).run C.P w= .ok j.zero w:=by simp[zeroValue,typeInfo,i1,i4]
  have hrun:(execOp a.eval o).run C.P w= .ok (.value (.slice (some ⟨w.heap.size,0,none⟩) len len)) (w.alloc (.cells vs' e)):=by
   have hnot:¬(len*j.size>2 ^ 24):=by omega
   have r0:∀f:Nat→Value,Array.map f (Array.range 0)=#[]:=fun f=>by apply Array.ext';simp
   have h1':Instr.fill (fun i=>some (i*j.size,j.size)) (Array.map (fun i=>j.zero.cells[i % j.zero.cells.size]!) (Array.range (len*j.size))) (List.map (fun x=>(x.1,a.eval x.2)) parts.toList)=some vs':=h1
   by_cases h0:len*j.size=0
   ·rw[h0,r0]at h1';simp[execOp,ho,Instr.buildSlice,e1,e2,h0,r0,h1',newRow]
   ·simp[execOp,ho,Instr.buildSlice,e1,e2,hnot,h0,e3,h1',newRow]
  unfold Oper.wp;rw[hrun]
  have hown:(w.alloc (.cells vs' e)).ownsRow w.heap.size e j.size (.slice (some ⟨w.heap.size,0,none⟩) len len) ds.length vs'.toList:=by
   refine⟨by rw[Array.length_toList,h2.1,hfl],.inr ⟨w.heap.size,len,vs',by rw[hn],Nat.le_refl _,heap_alloc_new w _,by omega,?_,by rw[h2.1,hfl,hn],?_⟩⟩
   ·have:len≤len*j.size:=Nat.le_mul_of_pos_right _ hsz;simp only[maxLen];omega
   ·rw[List.take_of_length_le];rw[Array.length_toList,h2.1,hfl];exact Nat.le_refl _
  have hrel:∀(i:Nat) x (q:Nat) c,ds[i]?=some x→x.cells[q]?=some c→∃u,vs'.toList[i*j.size+q]?=some u∧AZ w (Av (zone g σh) C.X) c u:=by
   intro i x q c hx hc;have hg:=PO (sz:=j.size) (fun d hd=>(hds d hd).2) i x q c hx hc
   have hlt:=(List.getElem?_eq_some_iff.1 hg).1;have hlt':i*j.size+q<vs'.size:=by rw[h2.1];exact hlt
   exact⟨vs'[i*j.size+q],by simp[hlt'],(h2.2 _ _ _ hg (by simp[hlt'])).1⟩
  have hfit:∀x∈ds,x.fits (AR j.desc) j.size:=by
   intro x hx;obtain⟨a1,a2⟩:=hds x hx;refine⟨a1,a2,fun c hc=>?_⟩
   obtain⟨i,hi⟩:=List.mem_iff_getElem?.1 hx;obtain⟨q,hq'⟩:=List.mem_iff_getElem?.1 hc;have hg:=PO (sz:=j.size) (fun d hd=>(hds d hd).2) i x q c hi hq'
   have hlt':i*j.size+q<vs'.size:=by rw[h2.1];grind
   exact (h2.2 _ _ _ hg (show vs'[i*j.size+q]?=some vs'[i*j.size+q]from by simp[hlt'])).2
  obtain⟨r1,r2⟩:=R.plain (M6 w _) hsz hown hfit hrel;exact⟨g,(r1.put hdst (v:=.v (.c (.tl (AR j.desc) j.size ds))) ⟨r2,_,by rw[hn]⟩).Af (fun n hn=>hn.1)⟩
 ·exact hk.elim
theorem PQ {ti:Types}{s:AL}{e:TypeId}{sz:Nat}:
  ∀(L:List (Nat×Operand)) (n:Nat) (k:List CV→Prop),GS ti s e sz n L k→∃ys,k ys∧ys.length=L.length*sz∧
   ∀(w:World) (Z:Ak) (g:AP) (h:Heap) (ev:Operand→Value),(∀t i p,(i,p)∈L→An w Z g h (AX ti s t p) (ev p))→
    ∀(cs:List CV) (vs:Array Value),FH w Z g h cs vs→(n+L.length)*sz≤cs.length→
    ∃vs',Instr.fill (fun i=>some (i*sz,sz)) vs (L.map fun x=>(x.1,ev x.2))=some vs'∧FH w Z g h (cs.take (n*sz)++ys++cs.drop ((n+L.length)*sz)) vs'
 | [],n,k,hk=>⟨[],hk,by simp,fun w Z g h ev _ cs vs hc _=>⟨vs,rfl,by simpa using hc⟩⟩
 | (i,x)::L,n,k,hk=>by
  unfold GS at hk;replace hk:=AA.1 hk;obtain⟨hin,hk⟩:=hk;have hin:=Nat.eq_of_beq_eq_true hin;subst hin;split at hk
  ·rename_i y hy;replace hk:=AA.1 hk;obtain⟨hsz,hk⟩:=hk;have hsz:=Nat.eq_of_beq_eq_true hsz;obtain⟨ys,k1,k2,k4⟩:=PQ L (i+1) _ hk;refine⟨y.cells++ys,k1,by grind,fun w Z g h ev hev cs vs hc hb=>?_⟩
   have hr:=hev e i x (by simp)
   rw[hy]at hr;obtain⟨c1,c2⟩:=Ah.cells hr
   have hb':i*sz+sz≤cs.length:=by
    simp[Nat.add_mul]at hb;omega
   have step:=MU (off:=i*sz) hc ⟨c1,c2⟩ (by rw[hsz];exact hb')
   rw[hsz]at step
   obtain⟨vs',h1,h2⟩:=k4 w Z g h ev (fun t i' p hp=>hev t i' p (List.mem_cons_of_mem _ hp)) _ _ step (by
    simp[hsz,Nat.add_mul]at hb ⊢;omega)
   refine⟨vs',?_,?_⟩
   ·simp only[List.map_cons,Instr.fill];rw[if_neg]
    ·exact h1
    ·rw[c1,hsz,hc.1];simp;omega
   ·have e1:(cs.take (i*sz)++y.cells++cs.drop (i*sz+sz)).take ((i+1)*sz)=cs.take (i*sz)++y.cells:=by
     rw[List.take_append_of_le_length (by grind),List.take_of_length_le (by grind)]
    have e2:(cs.take (i*sz)++y.cells++cs.drop (i*sz+sz)).drop ((i+1+L.length)*sz)=cs.drop ((i+(L.length+1))*sz):=by
     rw[List.drop_append,List.drop_of_length_le (by grind),List.nil_append,List.drop_drop]
     congr 1;grind
    simp_all
  ·exact hk.elim
theorem EZ (hti:Ay C.P ti) (t:TypeId) (len:Nat) (parts:Array (Nat×Operand)) (ho:o.op= .buildSlice t len parts) {K:Bool→Nat→List CV→Prop}
  (hk:Ao ti t fun q=>match q.desc with
   | .slice e=>Ao ti e fun j=>BJ (Nat.ble (len*j.size) 16777216)<| BJ (Nat.beq parts.toList.length len)<| BJ (Nat.blt 0 j.size)<| GS ti s e j.size 0 parts.toList (K (AR j.desc) j.size)
   | _=>False):
  ∃e j ys,ti e=some j∧0<j.size∧K (AR j.desc) j.size ys∧ys.length=len*j.size∧len*j.size≤16777216∧∀F σs σh g a w,AY C F σs σh g a w→(∀t,Operand.tmp t∈o.op.operands.toList→σs t=s t)→
   ∃vs',(execOp a.eval o).run C.P w= .ok (.value (.slice (some ⟨w.heap.size,0,none⟩) len len)) (w.alloc (.cells vs' e))∧FH w (Av (zone g σh) C.X) g σh ys vs':=by
 replace hk:=AF.1 hk;obtain⟨q,hq,hk⟩:=hk;split at hk
 ·rename_i e hd;replace hk:=AF.1 hk;obtain⟨j,hj,hk⟩:=hk;replace hk:=AA.1 hk;obtain⟨hle,hk⟩:=hk;replace hk:=AA.1 hk;obtain⟨hlen,hk⟩:=hk;replace hk:=AA.1 hk;obtain⟨hsz,hk⟩:=hk;have hle:=Nat.le_of_ble_eq_true hle;have hlen:=Nat.eq_of_beq_eq_true hlen;have hsz:0<j.size:=by simp_all
  obtain⟨ys,hk,hyl,f2⟩:=PQ _ _ _ hk;refine⟨e,j,ys,hj,hsz,hk,by rw[hyl,hlen],hle,?_⟩
  rintro F σs σh g a w R hs
  have hev:∀t i p,(i,p)∈parts.toList→An w (Av (zone g σh) C.X) g σh (AX ti s t p) (a.eval p):=fun t i p hp=>
   AI ti t p R (s:=s) (fun k hk=>hs k (by
    subst hk;simp only[ho,Op.operands,List.mem_map];grind))
  have f2:=f2 w _ g σh a.eval hev;obtain⟨ii,i1,i2,i3,i4,i5⟩:=Dv hti hj;obtain⟨_,ii',j1,j2,_,_,j5,j6,j7⟩:=hti e j hj
  let zs:Array Value:=(Array.range (len*j.size)).map (fun i=>j.zero.cells[i % j.zero.cells.size]!)
  have hz0:FH w (Av (zone g σh) C.X) g σh (List.replicate (len*j.size) CV.un) zs:=by
   refine⟨by simp[zs],fun i c u hc hu=>?_⟩
   obtain rfl:=List.eq_of_mem_replicate (List.mem_of_getElem? hc)
   have hlt:i<len*j.size:=by
    grind
   have hu':u=j.zero.cells[i % j.zero.cells.size]!:=by
    grind
   have hm:i % j.zero.cells.size<j.zero.cells.size:=Nat.mod_lt _ (by rw[j5];exact hsz)
   have hzc:∃c,j.zc[i % j.zero.cells.size]?=some c:=⟨_,List.getElem?_eq_getElem (by simp_all)⟩
   obtain⟨c,hc⟩:=hzc;have:=j7 _ c _ hc (show j.zero.cells[i % j.zero.cells.size]?=some j.zero.cells[i % j.zero.cells.size]from by simp[hm])
   have:=BB.BR (EE (w:=w) (Z:=fun _ _=>False) (g:=g) (h:=σh) this)
   subst hu';show _=true;simpa [hm] using this
  obtain⟨vs',h1,h2⟩:=f2 _ _ hz0 (by simp[hlen])
  have hflat:(List.replicate (len*j.size) CV.un).take (0*j.size)++ys++(List.replicate (len*j.size) CV.un).drop ((0+parts.toList.length)*j.size)=ys:=by
   simp[hlen]
  rw[hflat]at h2;have e1:=Cp hti hq w;rw[hd]at e1;have e2:=Dr hti hj w;have e3:(zeroValue e).run C.P w= .ok j.zero w:=by simp[zeroValue,typeInfo,i1,i4]
  have hrun:(execOp a.eval o).run C.P w= .ok (.value (.slice (some ⟨w.heap.size,0,none⟩) len len)) (w.alloc (.cells vs' e)):=by
   have hnot:¬(len*j.size>2 ^ 24):=by omega
   have r0:∀f:Nat→Value,Array.map f (Array.range 0)=#[]:=fun f=>by apply Array.ext';simp
   have h1':Instr.fill (fun i=>some (i*j.size,j.size)) (Array.map (fun i=>j.zero.cells[i % j.zero.cells.size]!) (Array.range (len*j.size))) (List.map (fun x=>(x.1,a.eval x.2)) parts.toList)=some vs':=h1
   by_cases h0:len*j.size=0
   ·rw[h0,r0]at h1';simp[execOp,ho,Instr.buildSlice,e1,e2,h0,r0,h1',newRow]
   ·simp[execOp,ho,Instr.buildSlice,e1,e2,hnot,h0,e3,h1',newRow]
  grind
 ·exact hk.elim
theorem M7 (hti:Ay C.P ti) (t:TypeId) (len:Nat) (parts:Array (Nat×Operand)) (ho:o.op= .buildSlice t len parts) (hk:DZ ti s t len parts.toList fresh k):∃out,k out∧BN C o fresh s h out:=by
 obtain⟨e,j,ys,hj,hsz,hk,hyl,hle,H⟩:=EZ (K:=fun _ _ cs=>k ⟨.v (.c (.sl (.loc fresh) len)),[],[(.loc fresh,.cells cs)]⟩) hti t len parts ho hk
 refine⟨_,hk,?_⟩
 rintro F σs σh a w Q ⟨g,R⟩ hs hrd hF hdst
 obtain⟨vs',hrun,h2⟩:=H F σs σh g a w R hs;unfold Oper.wp;rw[hrun];have R':=R.alloc (n:=fresh) (hF 0 (by omega)) vs' e ys h2.1 h2.2
 exact⟨_,(R'.put hdst (v:=.v (.c (.sl (.loc fresh) len))) ⟨⟨w.heap.size,by simp[Ap]⟩,by simp[Ap,tM]⟩).Af (fun n hn=>⟨hn.1,fun e=>hn.2 (by omega)⟩)⟩
theorem YU (hti:Ay C.P ti) (t:TypeId) (x y:Operand) (ok:Bool) (ho:o.op= .lookup t x y ok) (hk:F0 ti t (AX ti s t x) (AX ti s 0 y) ok k):∃out,k out∧BN C o fresh s h out:=by
 unfold F0 at hk;replace hk:=AF.1 hk;obtain⟨q,hq,hk⟩:=hk;split at hk
 ·rename_i kt et hd;replace hk:=AF.1 hk;obtain⟨kk,hkk,hk⟩:=hk;replace hk:=AF.1 hk;obtain⟨j,hj,hk⟩:=hk;replace hk:=AA.1 hk;obtain⟨hpk,hk⟩:=hk;replace hk:=AA.1 hk;obtain⟨hz0,hk⟩:=hk;split at hk
  ·rename_i hop;obtain⟨ii,i1,i2,i3,i4,i5⟩:=Dv hti hj;obtain⟨_,ii',j1,j2,_,_,j5,j6,j7⟩:=hti et j hj
   have run:∀F σs σh g a w,AY C F σs σh g a w→(∀t,Operand.tmp t∈o.op.operands.toList→σs t=s t)→
     (execOp a.eval o).run C.P w= .ok (.value (if ok then .tuple #[j.zero,.bool false]else j.zero)) w:=by
    intro F σs σh g a w R hs;have hx:=AI ti t x R (s:=s) (fun t ht=>hs t (by subst ht;simp[ho,Op.operands]))
    rw[hop]at hx;have hx:a.eval x= .map none:=hx;have e1:=Cp hti hq w;rw[hd]at e1;have e2:=Cp hti hkk w;have e3:(zeroValue et).run C.P w= .ok j.zero w:=by simp[zeroValue,typeInfo,i1,i4]
    have e5:∀n v,(Instr.checkKey true (n+1) kt v).run C.P w= .ok () w:=by
     intro n v;have:plainKey kk.desc=true:=hpk;unfold plainKey at this;split at this
     ·rename_i hk2;rw[hk2]at e2;simp[Instr.checkKey,e2]
     ·rename_i hk2;rw[hk2]at e2;simp[Instr.checkKey,e2]
     ·cases this
    have e4:∀v,(Instr.checkKey true 10000 kt v).run C.P w= .ok () w:=e5 9999;simp[execOp,ho,Instr.lookup,e1,hx,e4,Instr.findKey,e2,Instr.findNow,e3]
   have rel:∀(w:World) (Z:Ak) (g:AP) (h:Heap),Ah w Z g h (V1.Aa (AR j.desc) j.zc) j.zero:=by
    intro w Z g h;have hc:∀(q:Nat) c u,j.zc[q]?=some c→j.zero.cells[q]?=some u→BB w Z g h c u:=fun q c u h1 h2=>EE (j7 q c u h1 h2)
    have hl:j.zero.cells.size=j.zc.length:=by rw[j5,j6]
    have hz1:=hz0;unfold I5 at hz1;split at hz1
    ·rename_i cs hcs;rw[hcs]at hc hl ⊢;exact (Ah.Aa hl hc).1 hz1
    ·cases hz1
    ·rename_i v h1 h2;have hrow:AR j.desc=false:=by cases hh:AR j.desc<;>simp[hh,DC]at hz1 ⊢
     have hcell:j.zero.cells=#[j.zero]:=by
      cases hz:j.zero<;>first | rfl | exact absurd hz (h1 _)
     exact (Ah.Aa hl hc).2 hrow _ hcell
   cases ok with
   | true=>
    refine⟨_,hk,AE fun F σs σh g a w R hs _=>⟨_,run F σs σh g a w R hs,?_⟩⟩
    refine⟨#[j.zero,.bool false],rfl,rfl,fun q c u hc hu=>?_⟩
    match q with
    | 0=>simp_all
    | 1=>simp at hc hu;subst hc;subst hu;exact .bool _
    | q+2=>simp at hc
   | false=>exact⟨_,hk,AE fun F σs σh g a w R hs _=>⟨_,run F σs σh g a w R hs,rel _ _ _ _⟩⟩
  ·exact hk.elim
 ·exact hk.elim
end
end Go.AM
namespace Go.AM
open Go Go.RowKit
def M8 (ys:List D):Prop:=∀r∈ys,∀c∈r.cells,EF c=false
def Zp (x:AV) (h:Heap) (ag:Bool) (sz:Nat) (K:List Id→List D→Prop):Prop:=
 match x with
 | .v (.c (.nils _ _))=>K [] []
 | .v (.c (.ow i))=>match h i with
  | some (.tree kd ag' sz' rows foc)=>match kd with
   | .row=>match foc with
    | none=>BJ (ag'==ag) (BJ (Nat.beq sz' sz) (K [i] rows))
    | some _=>False
   | _=>False
  | _=>False
 | _=>False
def Zq (y:AV) (h:Heap) (ag:Bool) (sz:Nat) (K:List Id→List D→Prop):Prop:=
 match y with
 | .v (.c (.sl jj n))=>match h jj with
  | some (.cells cs)=>BJ (Nat.beq cs.length (n*sz)) (Mu h cs fun ds is=>∃ys,rowsOf ag sz n ds=ys∧K is ys)
  | _=>False
 | .v (.c (.ow i))=>match h i with
  | some (.tree kd ag' sz' rows foc)=>match kd with
   | .row=>match foc with
    | none=>BJ (ag'==ag) (BJ (Nat.beq sz' sz) (K [i] rows))
    | some _=>False
   | _=>False
  | some (.part c ag' sz' rows)=>BJ (Nat.beq c 0) (BJ (ag'==ag) (BJ (Nat.beq sz' sz) (K [i] rows)))
  | _=>False
 | y=>HD y fun ag' sz' ys=>BJ (ag'==ag) (BJ (Nat.beq sz' sz) (M8 ys∧K [] ys))
def nH:AV→List Id
 | .v (.c (.sl j _))=>[j]
 | _=>[]
def Jt (M:Aw) (ti:Types) (t:TypeId) (x y:AV) (fresh:Nat) (h:Heap) (k:Out→Prop):Prop:=
 Ao ti t fun q=>match q.desc with
 | .slice e=>Ao ti e fun j=>BJ (Nat.blt 0 j.size)<| Zp x h (AR j.desc) j.size fun ids rows=>Zq y h (AR j.desc) j.size fun is ys=>
   BJ (nodupB (ids++is))<| (M.lock fun _=>rows.length+ys.length≤maxLen∧(rows.length+ys.length)*j.bytes≤140737488355328)∧∃out,rows++ys=out∧
    k ⟨.v (.c (.ow (.loc fresh))),ids++(is++nH y),Aj (ids++is)++[(.loc fresh,.tree .row (AR j.desc) j.size out none)]⟩
 | _=>False
def M9 (M:Aw) (ti:Types) (t:TypeId) (x y:AV) (fresh:Nat) (h:Heap) (k:Out→Prop):Prop:=I6 h (fun h'=>Jt M ti t x y fresh h') k
def Zr (h:Heap) (len fresh:Nat) (k:Out→Prop) (ag:Bool) (sz:Nat) (cs:List CV):Prop:=
 Mu h cs fun ds is=>BJ (nodupB is)<| BJ (Nat.ble len maxLen)<| ∃ys,rowsOf ag sz len ds=ys∧k ⟨.v (.c (.ow (.loc fresh))),is,Aj is++[(.loc fresh,.tree .row ag sz ys none)]⟩
def FI (ti:Types) (s:AL) (t:TypeId) (len:Nat) (parts:List (Nat×Operand)) (fresh:Nat) (h:Heap) (k:Out→Prop):Prop:=
 Ao ti t fun q=>match q.desc with
 | .slice e=>Ao ti e fun j=>BJ (Nat.ble (len*j.size) 16777216)<| BJ (Nat.beq parts.length len)<| BJ (Nat.blt 0 j.size)<| GS ti s e j.size 0 parts (Zr h len fresh k (AR j.desc) j.size)
 | _=>False
def HN (ti:Types) (s:AL) (t:TypeId) (len:Nat) (parts:List (Nat×Operand)) (fresh:Nat) (h:Heap) (k:Out→Prop):Prop:=I6 h (fun h'=>FI ti s t len parts fresh h') k
section
variable {C:Cx}{ti:Types}{o:Oper}{fresh:Nat}{s:AL}{h:Heap}{k:Out→Prop}
section
variable {w:World}
theorem AZ.own {Z:Ak}{x:D}{v:Value}(r:AZ w Z x v) (h1:EF x=false) (h2:x.isAgg=false):B6 w x v (fun _=>False):=by
 cases r with
 | int k n=>exact .int k n
 | bool b=>exact .bool b
 | str s=>exact .str s
 | nil=>exact .nil
 | agg=>cases h2
 | _=>cases h1
structure nI (w:World) (X:Ak) (g:AP) (σh:Heap) (ag:Bool) (sz:Nat) (ids:List Id) (rows:List D) (u:Value):Prop where
 whole:∀i∈ids,∃ob,σh i=some ob∧B4 ob
 own:∃xs T S,Holds w .row sz u rows.length xs∧EY w ag sz rows xs T S∧(∀b,S b→∃i∈ids,Bc (g i) b)∧(∀b,blk u=some b→∃i∈ids,Bc (g i) b)∧(∀i j b,T i j b→blk u≠some b)
variable {ag:Bool}{sz:Nat}
theorem nI.tI {Z X:Ak}{g:AP}{σh:Heap}{u:Value}{rows:List D}{i:Id}(RH:DA w X g σh) (hσ:σh i=some (.tree .row ag sz rows none)) (hr:An w Z g σh (.v (.c (.ow i))) u):
  nI w X g σh ag sz [i] rows u:=by
 refine⟨fun j hj=>?_,?_⟩
 ·obtain rfl:j=i:=by simpa using hj
  exact⟨_,hσ,trivial⟩
 ·obtain⟨xs,T,p1,p2,p3,p4,_⟩:=EY.qL RH hσ;have hu:u=gval (g i):=hr.2.2 (by rw[hσ];rfl)
  grind
variable {K:List Id→List D→Prop}
theorem nJ {x:AV}(hsz:0<sz) (hk:Zp x h ag sz K):
  ∃ids rows,K ids rows∧∀{w:World} {Z X:Ak} {g:AP} {σh:Heap} {u:Value},DA w X g σh→(∀i∈ids,σh i=h i)→An w Z g σh x u→nI w X g σh ag sz ids rows u:=by
 unfold Zp at hk;split at hk
 ·refine⟨[],[],hk,fun _ _ hr=>⟨by simp,[],fun _ _ _=>False,fun _=>False,?_⟩⟩
  rw[show _=_ from hr]
  exact⟨⟨0,World.ownsRow_nil _ 0 0 sz⟩,EY.nil _ _ _,by simp,by simp[blk],by simp⟩
 ·rename_i i;split at hk
  ·rename_i kd ag' sz' rows foc hi;split at hk
   ·split at hk
    ·replace hk:=AA.1 hk;obtain⟨h1,hk⟩:=hk;replace hk:=AA.1 hk;obtain⟨h2,hk⟩:=hk;have h1:ag'=ag:=by simpa using h1
     have h2:=Nat.eq_of_beq_eq_true h2;subst h1;subst h2;exact⟨[i],rows,hk,fun RH he hr=>.tI RH ((he i (by simp)).trans hi) hr⟩
    ·exact hk.elim
   ·exact hk.elim
  ·exact hk.elim
 ·exact hk.elim
structure AFl (w:World) (X:Ak) (g:AP) (σh:Heap) (ag:Bool) (sz:Nat) (ids:List Id) (rows:List D) (u:Value):Prop where
 whole:∀i∈ids,∃ob,σh i=some ob∧B4 ob
 own:∃A cap xs T S,u= .slice A rows.length cap∧(0<rows.length→∃bb oo,A=some ⟨bb,oo,none⟩∧∀(k:Nat) u,xs[k]?=some u→w.cell? ⟨bb,oo+k,none⟩=some u)∧(∀u∈xs,u.oneCell'=true)∧
  EY w ag sz rows xs T S∧(∀b,S b→∃i∈ids,Bc (g i) b)
theorem EY.one {rows:List D}{xs:List Value}{T:Nat→Nat→Nat→Prop}{S:Nat→Prop}(hsz:0<sz) (h:EY w ag sz rows xs T S):∀u∈xs,u.oneCell'=true:=by
 intro u hu;obtain⟨k,hk⟩:=List.mem_iff_getElem?.1 hu;have hlt:=(List.getElem?_eq_some_iff.1 hk).1;rw[h.len]at hlt;have hi:k / sz<rows.length:=Nat.div_lt_of_lt_mul (by grind)
 have hx:rows[k / sz]?=some rows[k / sz]:=List.getElem?_eq_getElem hi;have hj:k % sz<rows[k / sz].cells.length:=by rw[(h.fits _ (List.getElem_mem hi)).2.1];exact Nat.mod_lt _ hsz
 obtain⟨u',hu',hr⟩:=h.cell _ _ _ _ hx (List.getElem?_eq_getElem hj);rw[show k / sz*sz+k % sz=k from by rw[Nat.mul_comm];exact Nat.div_add_mod k sz,hk]at hu'
 cases hu'
 exact hr.BR
theorem nK {y:AV}(hsz:0<sz) (hag:ag=false→sz=1) (hk:Zq y h ag sz K):
  ∃ids rows,K ids rows∧(ids.Nodup→∀{w:World} {Z X:Ak} {g:AP} {σh:Heap} {u:Value},DA w X g σh→(∀i∈ids++nH y,σh i=h i)→An w Z g σh y u→AFl w X g σh ag sz ids rows u):=by
 unfold Zq at hk;split at hk
 ·rename_i jj n;split at hk
  ·rename_i cs hj;replace hk:=AA.1 hk;obtain⟨h1,hk⟩:=hk;have h1:=Nat.eq_of_beq_eq_true h1;obtain⟨ds,iss,⟨ys,rfl,hk⟩,q1,q2,q3⟩:=IV hk;refine⟨_,_,hk,fun hnd=>fun RH he hr=>?_⟩
   rename_i w Z X g σh u;have hσ:=(he jj (by simp[nH])).trans hj
   obtain⟨b,c,e,hg,hh,hs,hrel⟩:=RH.objs jj _ hσ;obtain⟨_,hu⟩:=hr;rw[hg]at hu;have hu:u= .slice (some ⟨b,0,none⟩) n n:=hu
   have hc:∀(q:Nat) c d is,cs[q]?=some c→ds[q]?=some d→iss[q]?=some is→BU σh c d is:=fun q c d is e1 e2 e3=>
    (q3 q c d is e1 e2 e3).at fun x hx=>he x (List.mem_append.2 (.inl (List.mem_flatten.2 ⟨is,List.mem_of_getElem? e3,hx⟩)))
   have ho:=EY.of_closed (vs:=c.toList) RH hsz hag h1 q1 q2 (by simpa using hs) hnd hc (fun q x u h1 h2=>hrel q x u h1 (by simpa using h2))
   refine⟨fun x hx=>?_,some ⟨b,0,none⟩,n,c.toList,_,_,by rw[hu,I4],fun _=>⟨b,0,rfl,fun k u hu=>?_⟩,ho.one hsz,ho,fun _ h=>h⟩
   ·obtain⟨is,h6,h7⟩:=List.mem_flatten.1 hx;obtain⟨q,hq⟩:=List.mem_iff_getElem?.1 h6;have hlt:=(List.getElem?_eq_some_iff.1 hq).1;exact (hc q (cs[q]'(by omega)) (ds[q]'(by omega)) is (List.getElem?_eq_getElem (by omega)) (List.getElem?_eq_getElem (by omega)) hq).whole x h7
   ·have:c[k]?=some u:=by simpa using hu
    simp[World.cell?,hh,this]
  ·exact hk.elim
 ·rename_i i;split at hk
  ·rename_i kd ag' sz' rows foc hi;split at hk
   ·split at hk
    ·replace hk:=AA.1 hk;obtain⟨h1,hk⟩:=hk;replace hk:=AA.1 hk;obtain⟨h2,hk⟩:=hk;have h1:ag'=ag:=by simpa using h1
     have h2:=Nat.eq_of_beq_eq_true h2;subst h1;subst h2;refine⟨[i],rows,hk,fun _=>fun RH he hr=>?_⟩
     obtain⟨hw,xs,T,S,p1,p2,p3,p4,p5⟩:=nI.tI RH ((he i (by simp)).trans hi) hr
     obtain⟨A,cap,hu,_,_,hA⟩:=p1.row;refine⟨hw,A,cap,xs,T,S,hu,fun h0=>?_,p2.one hsz,p2,p3⟩
     obtain⟨b,rfl⟩:=hA h0;exact⟨b,0,rfl,fun k u hk=>by rw[Nat.zero_add];exact p1.cell rfl (by rw[hu];rfl) hk⟩
    ·exact hk.elim
   ·exact hk.elim
  ·rename_i c ag' sz' rows hi;replace hk:=AA.1 hk;obtain⟨h0,hk⟩:=hk;replace hk:=AA.1 hk;obtain⟨h1,hk⟩:=hk;replace hk:=AA.1 hk;obtain⟨h2,hk⟩:=hk;have h0:=Nat.eq_of_beq_eq_true h0;have h1:ag'=ag:=by simpa using h1
   have h2:=Nat.eq_of_beq_eq_true h2;subst h0;subst h1;subst h2;refine⟨[i],rows,hk,fun _=>fun RH he hr=>?_⟩
   rename_i w Z X g σh u;have hσ:=(he i (by simp)).trans hi
   obtain⟨_,hf,A,cap,b,o,hv,hc1,hc2,hA,U,T,g1,g2,g3,g4⟩:=(RH.objs i _ hσ).2;obtain⟨_,_,hu⟩:=hr;have hu:=hu (by rw[hσ];rfl)
   rw[Nat.zero_add]at hv hA
   have own:EY w ag' sz' rows ((List.range (rows.length*sz')).map fun m=>U (m / sz') (m % sz')) T (fun b=>∃i j,T i j b):=by
    refine⟨hf,by simp,fun x r jj d hr hd=>⟨U x jj,?_,(g1 x r jj d hr hd).2.2⟩,g2,g3,fun x jj b hb=>⟨x,jj,hb⟩⟩
    have hx:=(List.getElem?_eq_some_iff.1 hr).1
    have hj:jj<sz':=by
     have:=(List.getElem?_eq_some_iff.1 hd).1;rw[(hf r (List.mem_of_getElem? hr)).2.1]at this;exact this
    have hlt:x*sz'+jj<rows.length*sz':=Nat.lt_of_lt_of_le (show x*sz'+jj<(x+1)*sz' by grind) (Nat.mul_le_mul_right sz' hx)
    rw[List.getElem?_map,List.getElem?_range hlt];show some (U ((x*sz'+jj) / sz') ((x*sz'+jj) % sz'))=some (U x jj);rw[Nat.mul_comm x sz',Nat.mul_add_div hsz,Nat.div_eq_of_lt hj,Nat.mul_add_mod,Nat.mod_eq_of_lt hj,Nat.add_zero]
   refine⟨fun x hx=>?_,A,cap,_,T,_,hu.trans hv,fun hp=>⟨b,o,hA hp,fun m v hm=>?_⟩,own.one hsz,own,fun b hb=>⟨i,by simp,(g4 b).2 hb⟩⟩
   ·obtain rfl:x=i:=by simpa using hx
    exact⟨_,hσ,trivial⟩
   ·rw[List.getElem?_map]at hm
    have hlt:m<rows.length*sz':=by
     grind
    rw[List.getElem?_range hlt]at hm;have hm:some (U (m / sz') (m % sz'))=some v:=hm;have hx:m / sz'<rows.length:=Nat.div_lt_of_lt_mul (by grind)
    have hj:m % sz'<rows[m / sz'].cells.length:=by rw[(hf _ (List.getElem_mem hx)).2.1];exact Nat.mod_lt _ hsz
    have:=(g1 (m / sz') _ (m % sz') _ (List.getElem?_eq_getElem hx) (List.getElem?_eq_getElem hj)).1;rw[Nat.zero_add,Nat.mul_comm (m / sz') sz',Nat.div_add_mod]at this;grind
  ·exact hk.elim
 ·replace hk:=En hk;obtain⟨ag',sz',ys,hrel,hk⟩:=hk;replace hk:=AA.1 hk;obtain⟨h1,hk⟩:=hk;replace hk:=AA.1 hk;obtain⟨h2,hsc,hk⟩:=hk;have h1:ag'=ag:=by simpa using h1
  have h2:=Nat.eq_of_beq_eq_true h2;subst h1;subst h2;refine⟨[],ys,hk,fun _=>fun RH he hr=>?_⟩
  have hd:=hrel hr;obtain⟨A,cap,hv,_⟩:=Jp hd;rw[hv]at hd;obtain⟨_,_,_,hA,hf,news,n1,n2,n3,n4⟩:=hd.GQ hsz;refine⟨by simp,A,cap,news,fun _ _ _=>False,fun _=>False,hv,fun h0=>?_,n2,⟨hf,n1,fun i r j c hi hj=>?_,by simp,by simp,by simp⟩,by simp⟩
  ·obtain⟨b,o,rfl⟩:=hA (fun e=>by simp_all)
   grind
  ·obtain⟨u,hu,hr⟩:=n4 i r j c hi hj;exact⟨u,hu,hr.own (hsc r (List.mem_of_getElem? hi) c (List.mem_of_getElem? hj)) ((hf r (List.mem_of_getElem? hi)).2.2 c (List.mem_of_getElem? hj))⟩
theorem VH (hti:Ay C.P ti) (h1:BH ti) (t:TypeId) (x y:Operand) (ho:o.op= .call {callee:=.builtin .append,args:=#[x,y],argTypes:=#[t,t]}) (hk:M9 C.M ti t (AX ti s t x) (AX ti s t y) fresh h k):∃out,k out∧BN C o fresh s h out:=by
 obtain⟨gs,hk⟩:=hk;refine EG hk (fun h' k' hk'=>?_)
 clear hk;unfold Jt at hk';obtain⟨q,hq,hk'⟩:=AF.1 hk';split at hk'
 ·rename_i e hd;obtain⟨j,hj,hk'⟩:=AF.1 hk';replace hk':=AA.1 hk';obtain⟨hsz,hk'⟩:=hk';have hsz:0<j.size:=by simp_all
  obtain⟨ids,rows,hk',hold⟩:=nJ hsz hk';obtain⟨is,ys,hk',hnew⟩:=nK hsz (fun e=>h1 _ _ hj e) hk'
  obtain⟨hnd,hlk,out,rfl,hk'⟩:=AA.1 hk';obtain⟨hmax,hbytes⟩:=(C.M.lock_iff _).1 hlk;have hnd:=CB.1 hnd;obtain⟨nd1,nd2,nd3⟩:=List.nodup_append.1 hnd;refine⟨_,hk',?_⟩
  rintro F σs σh a w Q ⟨g,R⟩ hs hrd hF hdst
  have hx:=AI ti t x R (s:=s) (fun k hk=>hs k (by subst hk;simp[ho,Op.operands,Call.operands]))
  have hy:=AI ti t y R (s:=s) (fun k hk=>hs k (by subst hk;simp[ho,Op.operands,Call.operands]))
  obtain⟨w1,xs,T,S,p1,p2,p3,p4,p5⟩:=hold R.heap (fun i hi=>hrd i (List.mem_append.2 (.inl hi))) hx
  obtain⟨w2,A,cap,news,T',S',q1,q2,q3,q4,q5⟩:=hnew nd2 R.heap (fun i hi=>hrd i (List.mem_append.2 (.inr hi))) hy
  have hw0:∀i∈ids++is,∃ob,σh i=some ob∧B4 ob:=fun i hi=>by
   grind
  have apart:∀b,(∃i∈ids,Bc (g i) b)→(∃i∈is,Bc (g i) b)→False:=by
   rintro b ⟨i,hi,hb⟩ ⟨i',hi',hb'⟩
   obtain⟨ob,o1,o2⟩:=w1 i hi;obtain⟨ob',o1',o2'⟩:=w2 i' hi';exact nd3 i hi i' hi' (R.heap.sep i i' ob ob' b o1 o1' (o2.HA hb) (o2'.HA hb'))
  obtain⟨v',w',hrun,r1,r2,r3,r4⟩:=Ez hti (ty:=o.type) hq hd hj hsz p1 (B:=A) (c:=cap) q4.len q2 q3 hmax hbytes;have hown:=p2.append q4 (fun b hb hb'=>apart b (p3 b hb) (q5 b hb'))
  have hlt:∀b,(∃i∈ids++is,Bc (g i) b)→b<w.heap.size:=by
   rintro b ⟨i,hi,hb⟩
   obtain⟨ob,o1,o2⟩:=hw0 i hi;exact (R.heap.objs i ob o1).lt (o2.HA hb)
  have hsame:∀b,S b∨S' b→w'.heap[b]?=w.heap[b]?∨blk (a.eval x)=some b:=by
   grind
  -- none of the rows lies in the list's own block
  have hdis:∀i j b,(if i<rows.length then T i j b else T' (i - rows.length) j b)→blk (a.eval x)≠some b:=by
   intro i j b hb;split at hb
   ·exact p5 _ _ b hb
   ·exact fun he=>apart b (p4 b he) (q5 b (q4.sub _ _ b hb))
  have hown':EY w' (AR j.desc) j.size (rows++ys) (xs++news) (fun i j b=>if i<rows.length then T i j b else T' (i - rows.length) j b) (fun b=>S b∨S' b):=
   {hown with cell:=fun i r j c hi hj=>let ⟨u,hu,hr⟩:=hown.cell i r j c hi hj;⟨u,hu,hr.same fun b hb=>(hsame b (hown.sub i j b hb)).resolve_right (hdis i j b hb)⟩}
  obtain⟨g',R',hrel⟩:=R.SE (T0:=ids++is) hw0 (hF 0 (by omega)) r2 (fun b hb hn=>r3 b hb fun he=>by
    grind) hsz (by rw[List.length_append];exact r1) hown' (fun b hb=>by
     grind)
   (fun b hb=>by
    grind)
   (fun i j b hb he=>by
    rcases r4 b he with he | he
    ·exact hdis i j b hb he
    ·have:=hlt b (by
      rcases hown.sub i j b hb with hb | hb
      ·grind
      grind)
     omega)
  unfold Oper.wp;rw[B7 (r:=.ok v' w') ho (by rw[q1];exact hrun)]
  rw[show Az σh (Aj (ids++is)++[(.loc fresh,.tree .row (AR j.desc) j.size (rows++ys) none)])=AK (Az σh (Aj (ids++is))) (.loc fresh) (.tree .row (AR j.desc) j.size (rows++ys) none)from Cs]
  exact⟨g',(R'.put hdst (v:=.v (.c (.ow (.loc fresh)))) hrel).Af (fun n hn=>⟨hn.1,fun e=>hn.2 (by omega)⟩)⟩
 ·exact hk'.elim
theorem NA (hti:Ay C.P ti) (h1:BH ti) (t:TypeId) (len:Nat) (parts:Array (Nat×Operand)) (ho:o.op= .buildSlice t len parts) (hk:HN ti s t len parts.toList fresh h k):∃out,k out∧BN C o fresh s h out:=by
 obtain⟨gs,hk⟩:=hk;refine EG hk (fun h' k' hk'=>?_)
 clear hk;obtain⟨e,j,cs,hj,hsz,hk',hyl,hle,H⟩:=EZ (C:=C) (K:=Zr h' len fresh k') hti t len parts ho hk';obtain⟨ds,iss,hk2,q1,q2,q3⟩:=IV hk';replace hk2:=AA.1 hk2;obtain⟨hnd,hk2⟩:=hk2;replace hk2:=AA.1 hk2;obtain⟨hmx,ys,rfl,hk2⟩:=hk2;have hnd:=CB.1 hnd;have hmx:=Nat.le_of_ble_eq_true hmx;refine⟨_,hk2,?_⟩
 rintro F σs σh a w Q ⟨g,R⟩ hs hrd hF hdst
 obtain⟨vs,hrun,h2⟩:=H F σs σh g a w R hs
 have hc:∀(q:Nat) c d is,cs[q]?=some c→ds[q]?=some d→iss[q]?=some is→BU σh c d is:=fun q c d is e1 e2 e3=>
  (q3 q c d is e1 e2 e3).at fun x hx=>hrd x (List.mem_flatten.2 ⟨is,List.mem_of_getElem? e3,hx⟩)
 have hw:∀x∈iss.flatten,∃ob,σh x=some ob∧B4 ob:=by
  intro x hx;obtain⟨is,h6,h7⟩:=List.mem_flatten.1 hx;obtain⟨q,hq⟩:=List.mem_iff_getElem?.1 h6;have hlt:=(List.getElem?_eq_some_iff.1 hq).1;exact (hc q (cs[q]'(by omega)) (ds[q]'(by omega)) is (List.getElem?_eq_getElem (by omega)) (List.getElem?_eq_getElem (by omega)) hq).whole x h7
 have hlt:∀b,(∃i∈iss.flatten,Bc (g i) b)→b<w.heap.size:=by
  rintro b ⟨i,hi,hb⟩
  obtain⟨ob,o1,o2⟩:=hw i hi;exact (R.heap.objs i ob o1).lt (o2.HA hb)
 have ho:=EY.of_closed (vs:=vs.toList) R.heap hsz (fun e=>h1 _ _ hj e) hyl q1 q2 (by simpa using h2.1) hnd hc (fun q x u h3 h4=>h2.2 q x u h3 (by simpa using h4))
 have hl1:vs.size=len*j.size:=by rw[h2.1,hyl]
 have hho:Holds (w.alloc (.cells vs e)) .row j.size (.slice (some ⟨w.heap.size,0,none⟩) len len) (rowsOf (AR j.desc) j.size len ds).length vs.toList:=by
  rw[I4];refine⟨e,by simp[hl1],.inr ⟨w.heap.size,len,vs,rfl,Nat.zero_le _,heap_alloc_new w _,Nat.le_refl _,hmx,hl1,?_⟩⟩
  exact List.take_of_length_le (by simp[hl1])
 have ho':=ho.same (w':=w.alloc (.cells vs e)) fun b hb=>Below.heap_alloc w _ b (hlt b hb)
 obtain⟨g',R',hrel⟩:=R.SE (T0:=iss.flatten) (v:=.slice (some ⟨w.heap.size,0,none⟩) len len) (kd:=.row) (w':=w.alloc (.cells vs e)) hw (hF 0 (by omega)) ⟨rfl,rfl,rfl,by simp⟩ (fun b hb _=>Below.heap_alloc w _ b hb) hsz
  hho
  ho' (fun b hb=>hb) (fun b hb=>.inr (by simp[blk]at hb;omega)) (fun i j b hb he=>by
   have:=hlt b (ho.sub i j b hb);simp[blk]at he;omega)
 unfold Oper.wp;rw[hrun];rw[show Az σh (Aj iss.flatten++[(.loc fresh,.tree .row (AR j.desc) j.size (rowsOf (AR j.desc) j.size len ds) none)])=AK (Az σh (Aj iss.flatten)) (.loc fresh) (.tree .row (AR j.desc) j.size (rowsOf (AR j.desc) j.size len ds) none)from Cs]
 exact⟨g',(R'.put hdst (v:=.v (.c (.ow (.loc fresh)))) hrel).Af (fun n hn=>⟨hn.1,fun e=>hn.2 (by omega)⟩)⟩
end
end
end Go.AM
namespace Go.AM
open Go Go.RowKit
def Zs (P:Program) (t:TypeId) (fs:List Field):Prop:=P.stoodInHeld t=false∧P.eqGuardType P.depth t=false∧Bd (fun f=>f.name != "_") fs=true
def Zt:AV→Bool
 | .v (.d (.agg _))=>true
 | _=>false
section
variable {C:Cx}{ti:Types}{o:Oper}{fresh:Nat}{s:AL}{h:Heap}{k:Out→Prop}
def Zu:AV→Bool
 | .v (.d (.int _ _))=>true
 | _=>false
end
end Go.AM
namespace Go.AM
open Go Go.RowKit
def Zv:D→D→Option Bool
 | .int q a,.int q' b=>match decide (q=q')with
  | true=>some (a==b)
  | false=>none
 | .str a,.str b=>some (a==b)
 | _,_=>none
def DS (e:Bool) (key:D):List D→Option (Option D)
 | []=>some none
 | .agg (k::vs)::r=>match Zv key k with
  | some true=>some (some (rowOf e vs))
  | some false=>DS e key r
  | none=>none
 | _::_=>none
def G9 (key:D) (ws:List D):List D→Option (List D)
 | []=>some [.agg (key::ws)]
 | .agg (k::vs)::r=>match Zv key k with
  | some true=>some (.agg (key::ws)::r)
  | some false=>match G9 key ws r with
   | some r'=>some (.agg (k::vs)::r')
   | none=>none
  | none=>none
 | _::_=>none
structure NB (w:World) (Z:Ak) (e:Bool) (sz:Nat) (row:D) (en:MapEntry):Prop where
 ok:∃k cs,row= .agg (k::cs)∧cs.length+1=sz∧(∀c∈k::cs,c.isAgg=false)∧AZ w Z k en.key∧AZ w Z (rowOf e cs) en.val
 val:XF e en.val
 size:en.val.cells.size+1=sz
def E0 (w:World) (Z:Ak) (e:Bool) (sz:Nat):List D→List MapEntry→Prop
 | [],[]=>True
 | r::rs,m::ms=>NB w Z e sz r m∧E0 w Z e sz rs ms
 | _,_=>False
section
variable {w:World}{Z:Ak}{e:Bool}{sz:Nat}
theorem E0.len:∀{rows:List D}{ms:List MapEntry},E0 w Z e sz rows ms→ms.length=rows.length
 | [],[],_=>rfl
 | r::rs,m::ms,h=>by simp[E0.len h.2]
 | [],_::_,h=>h.elim
 | _::_,[],h=>h.elim
theorem E0.get:∀{rows:List D}{ms:List MapEntry},E0 w Z e sz rows ms→∀(i:Nat) r m,rows[i]?=some r→ms[i]?=some m→NB w Z e sz r m
 | [],[],_,i,r,m,h1,_=>by simp at h1
 | r::rs,m::ms,h,i,r',m',h1,h2=>by
  match i with
  | 0=>simp at h1 h2;subst h1;subst h2;exact h.1
  | i+1=>simp at h1 h2;exact E0.get h.2 i r' m' h1 h2
 | [],_::_,h,_,_,_,_,_=>h.elim
 | _::_,[],h,_,_,_,_,_=>h.elim
theorem E0.mO:∀{rows:List D}{ms:List MapEntry},ms.length=rows.length→(∀(i:Nat) r m,rows[i]?=some r→ms[i]?=some m→NB w Z e sz r m)→E0 w Z e sz rows ms
 | [],[],_,_=>trivial
 | r::rs,m::ms,hl,h=>⟨h 0 r m rfl rfl,E0.mO (by simpa using hl) fun i r' m' h1 h2=>h (i+1) r' m' (by simpa using h1) (by simpa using h2)⟩
 | [],_::_,h,_=>by simp at h
 | _::_,[],h,_=>by simp at h
theorem E0.mono {w':World}{Z':Ak}(hD:∀{x v},AZ w Z x v→AZ w' Z' x v):∀{rows:List D}{ms:List MapEntry},E0 w Z e sz rows ms→E0 w' Z' e sz rows ms
 | [],[],_=>trivial
 | r::rs,m::ms,h=>⟨⟨let ⟨k,cs,h1,h2,h3,h4,h5⟩:=h.1.ok;⟨k,cs,h1,h2,h3,hD h4,hD h5⟩,h.1.val,h.1.size⟩,E0.mono hD h.2⟩
 | [],_::_,h=>h.elim
 | _::_,[],h=>h.elim
theorem Km {sz:Nat}:∀{m:List MapEntry},(∀e∈m,e.val.cells.size+1=sz)→∀(i:Nat) en (j:Nat),m[i]?=some en→j<sz→(m.flatMap fun e=>e.key::e.val.cells.toList)[i*sz+j]?=(en.key::en.val.cells.toList)[j]?
 | [],_,i,en,j,h,_=>by simp at h
 | e::m,hs,i,en,j,h,hj=>by
  have he:=hs e (by simp)
  have hl:(e.key::e.val.cells.toList).length=sz:=by simp;omega
  rw[List.flatMap_cons]
  match i with
  | 0=>
   grind
  | i+1=>
   have:(i+1)*sz+j=sz+(i*sz+j):=by rw[Nat.add_mul];omega
   rw[this,List.getElem?_append_right (by omega),hl]
   rw[show sz+(i*sz+j) - sz=i*sz+j by omega]
   exact Km (fun x hx=>hs x (by simp[hx])) i en j (by simpa using h) hj
theorem Zw {cs:List D}{v:Value}(hv:XF e v) (hs:v.cells.size=cs.length) (ha:∀c∈cs,c.isAgg=false) (h:∀(j:Nat) c u,cs[j]?=some c→v.cells[j]?=some u→AZ w Z c u):AZ w Z (rowOf e cs) v:=by
 cases e with
 | true=>
  obtain⟨vs,rfl⟩:=hv;exact .agg cs vs hs ha h
 | false=>
  have hc:=D6 hv;rw[hc]at hs
  match cs,hs with
  | [d],_=>exact h 0 d v rfl (by rw[hc];rfl)
variable {g:AP}{rows:List D}
theorem QY {h:Heap}{gv:Value}(r:BL w Z g h (.tree (.fmap e) true sz rows none) gv):
  isTu gv∧0<sz∧∃b m clock,gval gv= .map (some b)∧w.heap[b]?=some (.map m clock)∧(∀en∈m,en.born<clock)∧E0 w Z e sz rows m.toList∧∀b',Bc gv b'↔b'=b:=by
 obtain⟨ht,h0,hf,xs,hx,_,U,T,h1,h2,h3,h4,h5⟩:=r;obtain⟨b,m,clock,hv,hh,hn,hb,hs,hok,rfl⟩:=hx
 have nT:∀i j b',¬T i j b':=by
  intro i j b' hT;obtain⟨_,r,c,p1,p2⟩:=h2 i j b' hT;exact ((Cm.fz rfl).1 (h1 i r j c (fun _ _ h=>by cases h) p1 p2).2).2 b' hT
 refine⟨ht,h0,b,m,clock,hv,hh,hb,E0.mO (by simpa using hn) fun i r en hr hm=>?_,fun b'=>?_⟩
 ·have hmem:en∈m:=Array.mem_toList_iff.1 (List.mem_of_getElem? hm);obtain⟨f1,f2,f3⟩:=hf r (List.mem_of_getElem? hr);have hsz:=hs en hmem
  match r,f1 with
  | .agg l,_=>
   have f2:l.length=sz:=f2
   match l,f2 with
   | [],f2=>simp at f2;omega
   | k::cs,f2=>
    have cell:∀(j:Nat) c u,(k::cs)[j]?=some c→(en.key::en.val.cells.toList)[j]?=some u→AZ w Z c u:=by
     intro j c u hc hu;have hj:j<sz:=by grind
     obtain⟨p1,p2⟩:=h1 i _ j c (fun _ _ h=>by cases h) hr hc
     have:=Km (sz:=sz) (fun e he=>hs e (Array.mem_toList_iff.1 he)) i en j hm hj
     rw[show O9 m=m.toList.flatMap fun e=>e.key::e.val.cells.toList from rfl,this,hu]at p1
     cases p1
     exact ((Cm.fz rfl).1 p2).1.1
    refine⟨⟨k,cs,rfl,by simpa using f2,f3,cell 0 k _ rfl rfl,Zw (hok en hmem) (by simp at f2;omega) (fun c hc=>f3 c (by simp[D.cells,hc])) fun j c u hc hu=>cell (j+1) c u (by simpa using hc) (by simpa using hu)⟩,hok en hmem,hsz⟩
 ·rw[h5,hv];constructor
  ·rintro (h | ⟨i,j,h⟩)
   ·simp[blk]at h;exact h.symm
   grind
  ·rintro rfl
   exact .inl rfl
variable {m:Array MapEntry}{clock:Nat}
theorem XN {h:Heap}{gv:Value}{b:Nat}(ht:isTu gv) (h0:0<sz) (hv:gval gv= .map (some b)) (hh:w.heap[b]?=some (.map m clock))
  (hb:∀en∈m,en.born<clock) (he:E0 w Z e sz rows m.toList) (hbl:∀b',Bc gv b'↔b'=b):BL w Z g h (.tree (.fmap e) true sz rows none) gv:=by
 have hl:=he.len
 have pick:∀(i:Nat) r,rows[i]?=some r→∃en,m.toList[i]?=some en∧NB w Z e sz r en:=by
  intro i r hr;have hlt:=(List.getElem?_eq_some_iff.1 hr).1;have hm:m.toList[i]?=some (m.toList[i]'(by omega)):=List.getElem?_eq_getElem (by omega)
  exact⟨_,hm,he.get i r _ hr hm⟩
 have pick':∀en∈m,∃r,NB w Z e sz r en:=by
  intro en hen;obtain⟨i,hi⟩:=List.mem_iff_getElem?.1 (Array.mem_toList_iff.2 hen);have hlt:=(List.getElem?_eq_some_iff.1 hi).1;exact⟨_,he.get i (rows[i]'(by omega)) en (List.getElem?_eq_getElem (by omega)) hi⟩
 have hs:∀en∈m,en.val.cells.size+1=sz:=fun en hen=>let ⟨_,h⟩:=pick' en hen;h.size
 refine⟨ht,h0,fun r hr=>?_,O9 m,⟨b,m,clock,hv,hh,by simpa using hl,hb,hs,fun en hen=>let ⟨_,h⟩:=pick' en hen;h.val,rfl⟩,(fun _ _ h=>by cases h),fun i j=>(O9 m).getD (i*sz+j) undef,fun _ _ _=>False,fun i r j c _ hr hc=>?_,fun _ _ _ h=>h.elim,fun _ _ _ h=>h.elim,fun _ _ _ _ _ h=>h.elim,fun b'=>?_⟩
 ·obtain⟨i,hi⟩:=List.mem_iff_getElem?.1 hr;obtain⟨en,_,hen⟩:=pick i r hi;obtain⟨k,cs,rfl,q2,q3,_⟩:=hen.ok;trivial
 ·obtain⟨en,hm,hen⟩:=pick i r hr;obtain⟨k,cs,rfl,q2,q3,q4,q5⟩:=hen.ok;have hc:(k::cs)[j]?=some c:=hc;have hj:j<sz:=by grind
  have hfl:=Km (sz:=sz) (fun e he=>hs e (Array.mem_toList_iff.1 he)) i en j hm hj
  have hfl:(O9 m)[i*sz+j]?=(en.key::en.val.cells.toList)[j]?:=hfl;have hsz:=hen.size;have hjl:j<(en.key::en.val.cells.toList).length:=by simp;omega
  have hu:=List.getElem?_eq_getElem hjl
  have hag:(rowOf e cs).cells=cs:=by
   cases e with
   | true=>rfl
   | false=>
    have hv:=D6 hen.val;rw[hv]at hsz
    match cs,(show cs.length=1 by simp at hsz;omega)with
    | [d],_=>
     have:=q3 d (by simp)
     show d.cells=[d];cases d<;>first | rfl | simp[D.isAgg]at this
  have hcell:=q5.cellsOf;refine⟨by simp[hfl,hu],(Cm.fz rfl).2 ⟨⟨?_,q3 c (List.mem_of_getElem? hc)⟩,fun _ h=>h⟩⟩
  grind
 ·rw[hbl,hv];simp[blk,eq_comm]
variable {es:Array MapEntry}
theorem NC {P:Program}{r:Nat}(hb:w.heap[r]?=some (.map es clock)):(getObj r).run P w= .ok (.map es clock) w:=by simp[getObj,Sem.run,hb]
theorem ND {P:Program}{r:Nat}(o:Obj) (hb:w.heap[r]?=some (.map es clock)):(setObj r o).run P w= .ok () {w with heap:=w.heap.setIfInBounds r o}:=by simp[setObj,Sem.run,hb]
theorem AY.zJ {C:Cx}{F:Nat→Prop}{s:AL}{h:Heap}{a:Act}(R:AY C F s h g a w) {id:Id}{rows':List D}(hid:h id=some (.tree (.fmap e) true sz rows none)) {b:Nat}
  (hv:gval (g id)= .map (some b)) {m':Array MapEntry} {clock':Nat} (hh:w.heap[b]?=some (.map m clock)) (hb:∀en∈m',en.born<clock')
  (he:E0 w (Av (zone g h) C.X) e sz rows' m'.toList):AY C F s (AK h id (.tree (.fmap e) true sz rows' none)) g a {w with heap:=w.heap.setIfInBounds b (.map m' clock')}:=by
 obtain⟨ht,h0,b0,m0,c0,hv0,hh0,_,_,hbl⟩:=QY (R.heap.objs id _ hid);rw[hv]at hv0;cases hv0
 have hlt:b<w.heap.size:=(Array.getElem?_eq_some_iff.1 hh).1
 let w':World:={w with heap:=w.heap.setIfInBounds b (.map m' clock')}
 have hother:∀b',b'≠b→w'.heap[b']?=w.heap[b']?:=fun b' hb'=>by
  grind
 have hself:w'.heap[b]?=some (.map m' clock'):=by
  grind
 have hcell:∀b' o u,w.cell? ⟨b',o,none⟩=some u→w'.cell? ⟨b',o,none⟩=some u:=by
  intro b' o u hu
  have hne:b'≠b:=by
   rintro rfl
   simp[World.cell?,hh]at hu
  simpa [World.cell?,hother b' hne] using hu
 have hz:∀b' o,zone g (AK h id (.tree (.fmap e) true sz rows' none)) b' o→zone g h b' o:=by
  rintro b' o ⟨i,ob,hi,h1⟩
  by_cases hin:i=id
  ·subst hin;simp[AK]at hi;subst hi;exact⟨i,_,hid,h1⟩
  ·simp only[AK,if_neg hin]at hi;exact⟨i,ob,hi,h1⟩
 have E:HC w (Av (zone g h) C.X) g h w' (Av (zone g (AK h id (.tree (.fmap e) true sz rows' none))) C.X) g (AK h id (.tree (.fmap e) true sz rows' none)):=by
  refine⟨fun b' o u hu hn=>⟨hcell b' o u hu,?_⟩,fun _ _ _=>rfl,fun _ _ _=>rfl,fun _ hi=>hi,fun i k sz' e' _ hk=>?_,fun _ hi=>hi,fun i hi hk=>?_⟩
  ·rintro (hx | hx)
   ·exact hn (.inl (hz b' o hx))
   ·exact hn (.inr hx)
  ·have hin:i≠id:=by rintro rfl;simp[AK]at hk
   exact⟨k,Nat.le_refl _,by simpa [AK,hin] using hk,fun _=>rfl⟩
  ·by_cases hin:i=id
   ·subst hin;exact⟨by rw[hid];rfl,rfl⟩
   ·exact⟨by simpa [AK,hin] using hk,rfl⟩
 refine R.step (fun i=>i=id) E ⟨rfl,rfl,rfl,by simp,fun b' _ hzn=>hother b' ?_,fun b' o u hu _=>hcell b' o u hu⟩ ?_ ?_ ?_ ?_ ?_ ?_ ?_
 ·rintro rfl
  exact hzn 0 ⟨id,_,hid,(hbl _).2 rfl⟩
 ·intro i hi;simp[AK,hi]
 ·intro i o b' hi ho hb';refine hother b' ?_
  rintro rfl
  exact hi (R.heap.sep i id o _ _ ho hid hb' ((hbl _).2 rfl))
 ·rintro i o rfl ho
  simp[AK]at ho;subst ho;exact XN ht h0 hv hself hb (he.mono E.GP) hbl
 ·rintro i o b' p rfl ho hb'
  simp[AK]at ho;subst ho;exact .inl ⟨_,_,rfl,hid,hb'⟩
 ·simp_all
 ·rintro j rfl
  exact .refl _
 ·intro k hk;obtain⟨h1,h2⟩:=R.free k hk;have hin:Id.loc k≠id:=by grind
  exact⟨h1,by simp[AK,hin,h2]⟩
def HO (d:TypeDesc) (x:D):Bool:=
 match x with
 | .int _ _=>match d with
  | .int _=>true
  | _=>false
 | .str _=>match d with
  | .string=>true
  | _=>false
 | _=>false
theorem EH {d:TypeDesc}{x y:D}{u v:Value}{q:Bool}(hk:HO d x=true) (hx:AZ w Z x u) (hy:AZ w Z y v) (h:Zv x y=some q):Instr.sameNow d u v=some q∧(q=true→Instr.sameBits 10000 v u=true):=by
 cases x<;>simp[HO]at hk
 ·cases hx
  cases y<;>simp[Zv]at h
  cases hy
  split at hk<;>try cases hk
  split at h
  ·rename_i hq;have hq:=of_decide_eq_true hq;subst hq;cases h
   refine⟨by simp[Instr.sameNow],fun he=>?_⟩
   rw[eq_of_beq he,Instr.sameBits];simp
  ·cases h
 ·cases hx
  cases y<;>simp[Zv]at h
  cases hy
  split at hk<;>try cases hk
  subst h;refine⟨by simp[Instr.sameNow],fun he=>?_⟩
  rw[Instr.sameBits];rw[beq_toListBytes]at he ⊢;simp_all
theorem Si {w:World}{Z:Ak}{e:Bool}{sz:Nat}{d:TypeDesc}{key:D}{kv:Value}(hk:HO d key=true) (hkv:AZ w Z key kv):∀{rows:List D}{ms:List MapEntry}{r:Option D}(i:Nat),E0 w Z e sz rows ms→DS e key rows=some r→
  (r=none∧Instr.findNow d kv ms i=some none)∨∃(y:D) (j:Nat) (en:MapEntry),r=some y∧Instr.findNow d kv ms i=some (some (j,en.val))∧AZ w Z y en.val
 | [],[],r,i,_,h=>by cases h;exact .inl ⟨rfl,rfl⟩
 | r0::rs,m::ms,r,i,he,h=>by
  obtain⟨k,cs,rfl,q2,q3,q4,q5⟩:=he.1.ok;unfold DS at h;split at h
  ·rename_i heq;cases h
   exact .inr ⟨_,i,m,rfl,by simp[Instr.findNow,(EH hk hkv q4 heq).1],q5⟩
  ·rename_i heq;rcases Si hk hkv (i+1) he.2 h with⟨h1,h2⟩ | ⟨y,j,en,h1,h2,h3⟩
   ·exact .inl ⟨h1,by simp[Instr.findNow,(EH hk hkv q4 heq).1,h2]⟩
   ·exact .inr ⟨y,j,en,h1,by simp[Instr.findNow,(EH hk hkv q4 heq).1,h2],h3⟩
  ·cases h
 | [],_::_,_,_,h,_=>h.elim
 | _::_,[],_,_,h,_=>h.elim
theorem XO {w:World}{Z:Ak}{e:Bool}{sz:Nat}{d:TypeDesc}{key:D}{ws:List D}{kv val:Value}(hk:HO d key=true) (hkv:AZ w Z key kv) (hnew:∀b,NB w Z e sz (.agg (key::ws)) ⟨kv,val,b⟩):
  ∀{rows:List D} {ms:List MapEntry} {rows':List D} (i:Nat),E0 w Z e sz rows ms→G9 key ws rows=some rows'→
  (Instr.findNow d kv ms i=some none∧∀b,E0 w Z e sz rows' (ms++[⟨kv,val,b⟩]))∨
   ∃(j:Nat) (en:MapEntry),ms[j]?=some en∧Instr.findNow d kv ms i=some (some (i+j,en.val))∧Instr.sameBits 10000 en.key kv=true∧E0 w Z e sz rows' (ms.set j {en with key:=kv,val:=val})
 | [],[],rows',i,_,h=>by
  cases h
  exact .inl ⟨rfl,fun b=>⟨hnew b,trivial⟩⟩
 | r0::rs,m::ms,rows',i,he,h=>by
  obtain⟨k,cs,rfl,q2,q3,q4,q5⟩:=he.1.ok;unfold G9 at h;split at h
  ·rename_i heq;cases h
   obtain⟨s1,s2⟩:=EH hk hkv q4 heq;exact .inr ⟨0,m,rfl,by simp[Instr.findNow,s1],s2 rfl,⟨⟨(hnew m.born).ok,(hnew m.born).val,(hnew m.born).size⟩,he.2⟩⟩
  ·rename_i heq;split at h
   ·rename_i r' hr';cases h
    obtain⟨s1,s2⟩:=EH hk hkv q4 heq;rcases XO hk hkv hnew (i+1) he.2 hr' with⟨h1,h2⟩ | ⟨j,en,h1,h2,h3,h4⟩
    ·exact .inl ⟨by simp[Instr.findNow,s1,h1],fun b=>⟨he.1,h2 b⟩⟩
    ·exact .inr ⟨j+1,en,by simpa using h1,by simp[Instr.findNow,s1,h2];omega,h3,⟨he.1,h4⟩⟩
   ·cases h
  ·cases h
 | [],_::_,_,_,h,_=>h.elim
 | _::_,[],_,_,h,_=>h.elim
def PR (x:AV) (h:Heap) (K:Id→Bool→Nat→List D→Prop):Prop:=
 match x with
 | .v (.c (.ow id))=>match h id with
  | some (.tree kd ag sz rows foc)=>match kd with
   | .fmap e=>match ag with
    | true=>match foc with
     | none=>K id e sz rows
     | some _=>False
    | false=>False
   | _=>False
  | _=>False
 | _=>False
def E1 (M:Aw) (ti:Types) (t:TypeId) (x key:AV) (ok:Bool) (h:Heap) (k:Out→Prop):Prop:=
 Ao ti t fun q=>match q.desc with
 | .map kt et=>Ao ti kt fun kk=>Ao ti et fun j=>BJ (I5 j)<| match key with
  | .v (.d key)=>BJ (HO kk.desc key)<| PR x h fun id e sz rows=>BJ (e==AR j.desc)<| ∃r,(M.lock fun _=>DS e key rows=some r)∧(match r with
   | some y=>(match ok with
    | true=>k ⟨.t [.d y,.d (.bool true)],[id],[]⟩
    | false=>k ⟨.v (.d y),[id],[]⟩)
   | none=>(match ok with
    | true=>k ⟨.t [V1.Aa (AR j.desc) j.zc,.d (.bool false)],[id],[]⟩
    | false=>k ⟨.v (V1.Aa (AR j.desc) j.zc),[id],[]⟩))
  | _=>False
 | _=>False
def Dw (M:Aw) (ti:Types) (t:TypeId) (x key y:AV) (h:Heap) (k:Out→Prop):Prop:=
 Ao ti t fun q=>match q.desc with
 | .map kt et=>Ao ti kt fun kk=>Ao ti et fun j=>match key with
  | .v (.d key)=>BJ (HO kk.desc key)<| DR y fun y=>match y.norm with
   | .d d=>BJ (d.isAgg==AR j.desc)<| BJ (Nat.beq d.cells.length j.size)<| PR x h fun id e sz rows=>BJ (e==AR j.desc)<| BJ (Nat.beq sz (j.size+1))<|
    ∃rows',(M.lock fun _=>G9 key d.cells rows=some rows')∧k ⟨.u,[id],[(id,.tree (.fmap e) true sz rows' none)]⟩
   | _=>False
  | _=>False
 | _=>False
def FJ (ti:Types) (t:TypeId) (fresh:Nat) (k:Out→Prop):Prop:=
 Ao ti t fun q=>match q.desc with
 | .map _ et=>Ao ti et fun j=>k ⟨.v (.c (.ow (.loc fresh))),[],[(.loc fresh,.tree (.fmap (AR j.desc)) true (j.size+1) [] none)]⟩
 | _=>False
end
section
variable {C:Cx}{ti:Types}{o:Oper}{fresh:Nat}{s:AL}{h:Heap}{k:Out→Prop}
theorem PS {x:AV}{K:Id→Bool→Nat→List D→Prop}(hk:PR x h K):∃id e sz rows,K id e sz rows∧h id=some (.tree (.fmap e) true sz rows none)∧
  ∀{w:World} {Z:Ak} {g:AP} {σh:Heap} {u:Value},σh id=h id→An w Z g σh x u→u=gval (g id):=by
 unfold PR at hk;split at hk
 ·rename_i id;split at hk
  ·rename_i kd ag sz rows foc hid;split at hk
   ·rename_i e;split at hk
    ·split at hk
     ·refine⟨id,e,sz,rows,hk,hid,fun hσ hr=>hr.2.2 (by rw[hσ,hid];rfl)⟩
     ·exact hk.elim
    ·exact hk.elim
   ·exact hk.elim
  ·exact hk.elim
 ·exact hk.elim
theorem Lg {P:Program}{w:World}{kt:TypeId}{d:TypeDesc}{key:D}{Z:Ak}{u:Value}(hd:P.underlying kt=some d) (hk:HO d key=true) (hu:AZ w Z key u) (b:Bool) (n:Nat):(Instr.checkKey b (n+1) kt u).run P w= .ok () w:=by
 have e2:=run_underlying hd w;cases key<;>simp[HO]at hk
 all_goals
  split at hk<;>try cases hk
  simp[Instr.checkKey,e2]
theorem tT {j:TI}{et:TypeId}{P:Program}(hti:Ay P ti) (hj:ti et=some j) (hz0:I5 j=true):∀(w:World) (Z:Ak) (g:AP) (h:Heap),Ah w Z g h (V1.Aa (AR j.desc) j.zc) j.zero:=by
 obtain⟨_,ii',j1,j2,_,_,j5,j6,j7⟩:=hti et j hj;intro w Z g h;have hc:∀(q:Nat) c u,j.zc[q]?=some c→j.zero.cells[q]?=some u→BB w Z g h c u:=fun q c u h1 h2=>EE (j7 q c u h1 h2)
 have hl:j.zero.cells.size=j.zc.length:=by rw[j5,j6]
 have hz1:=hz0;unfold I5 at hz1;split at hz1
 ·rename_i cs hcs;rw[hcs]at hc hl ⊢;exact (Ah.Aa hl hc).1 hz1
 ·cases hz1
 ·rename_i v h1 h2;have hrow:AR j.desc=false:=by cases hh:AR j.desc<;>simp[hh,DC]at hz1 ⊢
  have hcell:j.zero.cells=#[j.zero]:=by
   cases hz:j.zero<;>first | rfl | exact absurd hz (h1 _)
  exact (Ah.Aa hl hc).2 hrow _ hcell
theorem VI (hti:Ay C.P ti) (t:TypeId) (x y:Operand) (ok:Bool) (ho:o.op= .lookup t x y ok) (hk:E1 C.M ti t (AX ti s t x) (AX ti s 0 y) ok h k):∃out,k out∧BN C o fresh s h out:=by
 unfold E1 at hk;obtain⟨q,hq,hk⟩:=AF.1 hk;split at hk
 ·rename_i kt et hd;obtain⟨kk,hkk,hk⟩:=AF.1 hk;obtain⟨j,hj,hk⟩:=AF.1 hk;obtain⟨hz0,hk⟩:=AA.1 hk;split at hk
  ·rename_i key hop;obtain⟨hkey,hk⟩:=AA.1 hk;obtain⟨id,e,sz,rows,hk,hid,hrel⟩:=PS hk;obtain⟨he,hk⟩:=AA.1 hk;obtain rfl:e=AR j.desc:=by simpa using he
   obtain⟨r,hl,hk⟩:=hk;have hfind:=(C.M.lock_iff _).1 hl
   have run:∀F σs σh g a w,AY C F σs σh g a w→(∀t,Operand.tmp t∈o.op.operands.toList→σs t=s t)→(∀i∈[id],σh i=h i)→
     ∃v b,(execOp a.eval o).run C.P w= .ok (.value (if ok then .tuple #[v,.bool b]else v)) w∧(match r with | some y=>AZ w (Av (zone g σh) C.X) y v∧b=true | none=>v=j.zero∧b=false):=by
    intro F σs σh g a w R hs hrd;have hx:=AI ti t x R (s:=s) (fun t ht=>hs t (by subst ht;simp[ho,Op.operands]))
    have hy:=AI ti 0 y R (s:=s) (fun t ht=>hs t (by subst ht;simp[ho,Op.operands]))
    rw[hop]at hy;have hy:AZ w _ key (a.eval y):=hy;have hσ:=hrd id (by simp)
    have hv:=hrel hσ hx;obtain⟨ht,h0,b,m,clock,g1,g2,_,g4,_⟩:=QY (R.heap.objs id _ (hσ.trans hid));rw[g1]at hv;have e1:=Cp hti hq w;rw[hd]at e1;have e2:=Cp hti hkk w;obtain⟨ii,i1,i2,i3,i4,i5⟩:=Dv hti hj;have e3:(zeroValue et).run C.P w= .ok j.zero w:=by simp[zeroValue,typeInfo,i1,i4]
    have e4:∀b,(Instr.checkKey b 10000 kt (a.eval y)).run C.P w= .ok () w:=fun b=>Lg (hti kt kk hkk).1 hkey hy b 9999
    have e5:=NC (P:=C.P) g2;rcases Si hkey hy 0 g4 hfind with⟨rfl,h2⟩ | ⟨y',j',en,rfl,h2,h3⟩
    ·exact⟨j.zero,false,by simp[execOp,ho,Instr.lookup,e1,hv,e5,e4,Instr.findKey,e2,h2,e3],rfl,rfl⟩
    ·exact⟨en.val,true,by simp[execOp,ho,Instr.lookup,e1,hv,e5,e4,Instr.findKey,e2,h2],h3,rfl⟩
   cases r with
   | some y'=>
    cases ok with
    | true=>
     refine⟨_,hk,AE fun F σs σh g a w R hs hrd=>?_⟩
     obtain⟨v,b,e1,e2,rfl⟩:=run F σs σh g a w R hs hrd;refine⟨_,e1,#[v,.bool true],rfl,rfl,fun q c u hc hu=>?_⟩
     match q with
     | 0=>simp at hc hu;subst hc;subst hu;exact e2
     | 1=>simp at hc hu;subst hc;subst hu;exact .bool _
     | q+2=>simp at hc
    | false=>
     refine⟨_,hk,AE fun F σs σh g a w R hs hrd=>?_⟩
     obtain⟨v,b,e1,e2,rfl⟩:=run F σs σh g a w R hs hrd;exact⟨_,e1,e2⟩
   | none=>
    have rel:=tT hti hj hz0;cases ok with
    | true=>
     refine⟨_,hk,AE fun F σs σh g a w R hs hrd=>?_⟩
     obtain⟨v,b,e1,rfl,rfl⟩:=run F σs σh g a w R hs hrd;refine⟨_,e1,#[j.zero,.bool false],rfl,rfl,fun q c u hc hu=>?_⟩
     match q with
     | 0=>grind
     | 1=>simp at hc hu;subst hc;subst hu;exact .bool _
     | q+2=>simp at hc
    | false=>
     refine⟨_,hk,AE fun F σs σh g a w R hs hrd=>?_⟩
     obtain⟨v,b,e1,rfl,rfl⟩:=run F σs σh g a w R hs hrd;exact⟨_,e1,rel _ _ _ _⟩
  ·exact hk.elim
 ·exact hk.elim
theorem Sk (hti:Ay C.P ti) (t:TypeId) (ho:o.op= .makeMap t none) (hk:FJ ti t fresh k):∃out,k out∧BN C o fresh s h out:=by
 unfold FJ at hk;obtain⟨q,hq,hk⟩:=AF.1 hk;split at hk
 ·rename_i kt et hd;obtain⟨j,hj,hk⟩:=AF.1 hk;refine⟨_,hk,?_⟩
  rintro F σs σh a w Q ⟨g,R⟩ hs hrd hF hdst
  have hrun:(execOp a.eval o).run C.P w= .ok (.value (.map (some w.heap.size))) (w.alloc (.map #[] 0)):=by
   simp[execOp,ho,Instr.makeMap]
  obtain⟨g',R',hrel⟩:=R.SC (T0:=[]) (n:=fresh) (w':=w.alloc (.map #[] 0)) (by simp) (hF 0 (by omega)) ⟨rfl,rfl,rfl,by simp⟩ (fun b hb _=>Below.heap_alloc w _ b hb) (kd:=.fmap (AR j.desc)) (ag:=true) (sz:=j.size+1) (out:=[])
   (v:=.map (some w.heap.size)) (fun b=>b=w.heap.size) [w.heap.size] (by simp) (fun b hb=>.inr (by omega)) rfl
   (fun Z' g' h' gv gt gg gb _=>XN gt (by omega) gg (heap_alloc_new w _) (by simp) trivial gb)
  unfold Oper.wp;rw[hrun];exact⟨g',(R'.put hdst (v:=.v (.c (.ow (.loc fresh)))) hrel).Af (fun n hn=>⟨hn.1,fun e=>hn.2 (by omega)⟩)⟩
 ·exact hk.elim
theorem NF (hti:Ay C.P ti) (t:TypeId) (x y z:Operand) (ho:o.op= .mapUpdate t x y z∨o.op= .insert t x y z) (hd:o.dst=none) (hk:Dw C.M ti t (AX ti s t x) (AX ti s 0 y) (AX ti s 0 z) h k):∃out,k out∧BN C o fresh s h out:=by
 unfold Dw at hk;obtain⟨q,hq,hk⟩:=AF.1 hk;split at hk
 ·rename_i kt et hdd;obtain⟨kk,hkk,hk⟩:=AF.1 hk;obtain⟨j,hj,hk⟩:=AF.1 hk;split at hk
  ·rename_i key hop;obtain⟨hkey,hk⟩:=AA.1 hk;obtain⟨yv,hyv,hk⟩:=Cb.1 hk;split at hk
   ·rename_i d hnorm;obtain⟨hag,hk⟩:=AA.1 hk;obtain⟨hcl,hk⟩:=AA.1 hk;obtain⟨id,e,sz,rows,hk,hid,hrel⟩:=PS hk;obtain⟨he,hk⟩:=AA.1 hk;obtain⟨hsz,hk⟩:=AA.1 hk;obtain rfl:e=AR j.desc:=by simpa using he
    obtain rfl:=Nat.eq_of_beq_eq_true hsz;have hcl:=Nat.eq_of_beq_eq_true hcl;have hag:d.isAgg=AR j.desc:=by simpa using hag
    obtain⟨rows',hl,hk⟩:=hk;have hput:=(C.M.lock_iff _).1 hl;refine⟨_,hk,?_⟩
    rintro F σs σh a w Q ⟨g,R⟩ hs hrd hF hdst
    have hx:=AI ti t x R (s:=s) (fun t ht=>hs t (by subst ht;rcases ho with ho | ho<;>simp[ho,Op.operands]))
    have hy:=AI ti 0 y R (s:=s) (fun t ht=>hs t (by subst ht;rcases ho with ho | ho<;>simp[ho,Op.operands]))
    have hz:=AI ti 0 z R (s:=s) (fun t ht=>hs t (by subst ht;rcases ho with ho | ho<;>simp[ho,Op.operands]))
    rw[hop]at hy;have hy:AZ w (Av (zone g σh) C.X) key (a.eval y):=hy;rw[hyv]at hz;have hz:Ah w (Av (zone g σh) C.X) g σh yv (a.eval z):=hz;have hz:=hz.norm;rw[hnorm]at hz;have hz:AZ w (Av (zone g σh) C.X) d (a.eval z):=hz;have hσ:=hrd id (by simp)
    have hv:=hrel hσ hx;obtain⟨ht,h0,b,m,clock,g1,g2,g3,g4,_⟩:=QY (R.heap.objs id _ (hσ.trans hid));rw[g1]at hv;obtain⟨c1,c2⟩:=hz.cellsOf
    have hcells:rowOf (AR j.desc) d.cells=d:=by
     rw[←hag];cases d<;>rfl
    have hnew:∀bn,NB w (Av (zone g σh) C.X) (AR j.desc) (j.size+1) (.agg (key::d.cells)) ⟨a.eval y,a.eval z,bn⟩:=fun bn=>by
     refine⟨⟨key,d.cells,rfl,by omega,fun c hc=>?_,hy,by rw[hcells];exact hz⟩,?_,by simp_all⟩
     ·rcases List.mem_cons.1 hc with rfl | hc
      ·cases c<;>first | rfl | simp[HO]at hkey
      ·obtain⟨q,hq'⟩:=List.mem_iff_getElem?.1 hc;have hlt:=(List.getElem?_eq_some_iff.1 hq').1;exact (c2 q c ((a.eval z).cells[q]'(by omega)) hq' (by simp)).2
     ·show XF (AR j.desc) (a.eval z);rw[←hag];cases hda:d.isAgg with
      | true=>
       cases d<;>simp[D.isAgg]at hda
       obtain⟨vs,hvs⟩:=M1 (g:=g) (h:=σh) (y:=.d (.agg _)) rfl hz;exact⟨vs,hvs⟩
      | false=>exact hz.BR hda
    have e1:=Cp hti hq w;rw[hdd]at e1;have e2:=Cp hti hkk w;have e4:∀b,(Instr.checkKey b 10000 kt (a.eval y)).run C.P w= .ok () w:=fun b=>Lg (hti kt kk hkk).1 hkey hy b 9999
    have e5:=NC (P:=C.P) g2
    have fin:∀(m':Array MapEntry) (clock':Nat),(∀en∈m',en.born<clock')→E0 w (Av (zone g σh) C.X) (AR j.desc) (j.size+1) rows' m'.toList→(execOp a.eval o).run C.P w= .ok .skip {w with heap:=w.heap.setIfInBounds b (.map m' clock')}→
      o.wp C.P a w (fun a' w'=>Rel C (fun n=>F n∧¬(fresh≤n∧n<fresh+32)) (CR σs o.dst .u) (Az σh [(id,.tree (.fmap (AR j.desc)) true (j.size+1) rows' none)]) a' w') Q:=by
     intro m' clock' f1 f2 f3;unfold Oper.wp;rw[f3];have R':=R.zJ (hσ.trans hid) g1 g2 f1 f2;exact⟨g,(R'.put (dst:=o.dst) (v:=.u) (u:=undef) (fun d e=>by rw[hd]at e;cases e) trivial).Af (fun n hn=>hn.1)⟩
    rcases XO hkey hy hnew 0 g4 hput with⟨h1,h2⟩ | ⟨q',en,h1,h2,h3,h4⟩
    ·refine fin (m.push ⟨a.eval y,a.eval z,clock⟩) (clock+1) (fun en hen=>?_) (by simpa using h2 clock) ?_
     ·grind
     ·have:=ND (P:=C.P) (.map (m.push ⟨a.eval y,a.eval z,clock⟩) (clock+1)) g2;rcases ho with ho | ho<;>simp[execOp,ho,Instr.mapUpdate,e1,hv,e5,e4,Instr.findKey,e2,h1,this]
    ·have hlt:=(List.getElem?_eq_some_iff.1 h1).1;have hlt':q'<m.size:=by simpa using hlt
     have hmod:(m.modify q' fun e=>{e with key:=a.eval y,val:=a.eval z}).toList=m.toList.set q' {en with key:=a.eval y,val:=a.eval z}:=by
      apply List.ext_getElem?;grind
     refine fin (m.modify q' fun e=>{e with key:=a.eval y,val:=a.eval z}) clock (fun en' hen=>?_) (by rw[hmod];exact h4) ?_
     ·have hen:=Array.mem_toList_iff.2 hen;grind
     ·have:=ND (P:=C.P) (.map (m.modify q' fun e=>{e with key:=a.eval y,val:=a.eval z}) clock) g2
      have hq'':m[q']?=some en:=by simpa using h1
      simp only[Nat.zero_add]at h2;rcases ho with ho | ho<;>simp[execOp,ho,Instr.mapUpdate,e1,hv,e5,e4,Instr.findKey,e2,h2,hq'',Instr.keyThatStays,h3,this]
   ·exact hk.elim
  ·exact hk.elim
 ·exact hk.elim
def nL (P:Program) (n:FuncId):Prop:=∃fn,P.funcs[n]?=some fn∧(fn.name== "runtime.NumGoroutine")=false∧fn.body.isNone=true∧Extern.findNext fn=none∧Extern.find fn=some add64Entry
def tU (M:Aw) (f:AV) (args:List AV) (k:Out→Prop):Prop:=
 match f with
 | .v (.c (.fn n cap))=>match cap with
  | []=>match G5 args with
   | some xs=>match xs with
    | [.d (.int .u64 x),.d (.int .u64 y),.d (.int .u64 c)]=>(M.lock fun _=>nL M.P n∧0≤x∧0≤y∧0≤c∧c≤1)∧∃z u:Int,(x+y+c) % 18446744073709551616=z∧(x+y+c) / 18446744073709551616=u∧k ⟨.t [.d (.int .u64 z),.d (.int .u64 u)],[],[]⟩
    | _=>False
   | none=>False
  | _=>False
 | _=>False
end
end Go.AM
namespace Go.AM
open Go Go.RowKit
def PT (ti:Types) (t:TypeId):Bool:=
 match ti t with
 | some q=>(match q.desc with
  | .map kt _=>(match ti kt with
   | some j=>(match j.desc with
    | .struct _=>true
    | _=>false)
   | none=>false)
  | _=>false)
 | none=>false
def AAd:AV→Bool
 | .v (.c (.map _))=>true
 | _=>false
section
variable {C:Cx}{ti:Types}{o:Oper}{fresh:Nat}{s:AL}{h:Heap}{k:Out→Prop}
end
end Go.AM
namespace Go.AM
open Go Go.RowKit
def zD:CV→Option D
 | .d (.int k n)=>some (.int k n)
 | .d (.bool b)=>some (.bool b)
 | .d (.str x)=>some (.str x)
 | .nilp=>some .nil
 | .nils ag sz=>match Nat.blt 0 sz with
  | true=>some (.list ag sz [])
  | false=>none
 | _=>none
def zDs:List CV→Option (List D)
 | []=>some []
 | c::r=>match zD c with
  | some d=>match zDs r with
   | some ds=>some (d::ds)
   | none=>none
  | none=>none
theorem IX {h:Heap}{c:CV}{d:D}(e:zD c=some d):BU h c d []∧d.isAgg=false:=by
 unfold zD at e;split at e
 ·cases e;exact⟨.d _ rfl,rfl⟩
 ·cases e;exact⟨.d _ rfl,rfl⟩
 ·cases e;exact⟨.d _ rfl,rfl⟩
 ·cases e;exact⟨.nilp,rfl⟩
 ·rename_i ag sz;cases hs:Nat.blt 0 sz with
  | true=>
   rw[hs]at e;cases e
   exact⟨.nils _ _ (by simp_all),rfl⟩
  | false=>rw[hs]at e;cases e
 ·cases e
theorem XP:∀{cs:List CV}{ds:List D},zDs cs=some ds→ds.length=cs.length∧∀(j:Nat) c,cs[j]?=some c→∃d,ds[j]?=some d∧zD c=some d
 | [],ds,h=>by cases h;simp_all
 | c::cs,ds,h=>by
  simp only[zDs]at h;split at h
  ·rename_i d hd;split at h
   ·rename_i ds' hds;cases h
    obtain⟨h1,h2⟩:=XP hds;grind
   ·cases h
  ·cases h
def Db (M:Aw) (ti:Types) (t:TypeId) (x y:AV) (fresh:Nat) (k:Out→Prop):Prop:=
 DD x fun _ n=>DD y fun _ m=>Ao ti t fun q=>match q.desc with
 | .slice e=>Ao ti e fun j=>BJ (Nat.blt 0 j.size)<| match zDs j.zc with
  | some ds=>(M.lock fun _=>n=m∧0≤n∧n≤9223372036854775807∧(j.bytes:Int)*n≤281474976710656)∧∃rows,List.replicate n.toNat (rowOf (AR j.desc) ds)=rows∧∃own:Bool,match own with
   | true=>k ⟨.v (.c (.ow (.loc fresh))),[],[(.loc fresh,.tree .row (AR j.desc) j.size rows none)]⟩
   | false=>k ⟨.v (.c (.tl (AR j.desc) j.size rows)),[],[]⟩
  | none=>False
 | _=>False
section
variable {C:Cx}{ti:Types}{o:Oper}{fresh:Nat}{s:AL}{h:Heap}{k:Out→Prop}
theorem Ov {z:Array Value}{n i j:Nat}{u:Value}(hi:i<n) (hj:z[j]?=some u):(madeCells z (n*z.size)).toList[i*z.size+j]?=some u:=by
 have hjl:=(Array.getElem?_eq_some_iff.1 hj).1
 have hlt:i*z.size+j<n*z.size:=by
  have:=Nat.mul_le_mul_right z.size (show i+1≤n from hi)
  grind
 have hm:(i*z.size+j) % z.size=j:=by rw[Nat.add_comm,Nat.add_mul_mod_self_right,Nat.mod_eq_of_lt hjl]
 simp only[madeCells,Array.toList_map,List.getElem?_map,Array.toList_range,List.getElem?_range hlt,Option.map_some,hm];simp_all
theorem QZ (hti:Ay C.P ti) (h1:BH ti) (t:TypeId) (x y:Operand) (ho:o.op= .makeSlice t x y) (hk:Db C.M ti t (AX ti s 3 x) (AX ti s 3 y) fresh k):∃out,k out∧BN C o fresh s h out:=by
 unfold Db at hk;obtain⟨q1,n,hx,hk⟩:=CH.1 hk;obtain⟨q2,m,hy,hk⟩:=CH.1 hk;obtain⟨q,hq,hk⟩:=AF.1 hk;split at hk
 rotate_left
 ·exact hk.elim
 rename_i e hd;obtain⟨j,hj,hk⟩:=AF.1 hk;obtain⟨hsz,hk⟩:=AA.1 hk;have hsz:0<j.size:=by simp_all
 split at hk
 rotate_left
 ·exact hk.elim
 rename_i ds hds;obtain⟨hlk,rows,hrows,own,hk⟩:=hk;obtain⟨rfl,h0,hmx,hby⟩:=(C.M.lock_iff _).1 hlk;obtain⟨N,rfl⟩:∃N:Nat,n=N:=⟨n.toNat,by omega⟩
 simp only[Int.toNat_natCast]at hrows;obtain⟨hul,ii,j1,j2,j3,j4,j5,j6,j7⟩:=hti e j hj;obtain⟨d1,d2⟩:=XP hds;have hNmx:N≤maxLen:=by simp[maxLen];omega
 have hrow:(rowOf (AR j.desc) ds).cells=ds∧(rowOf (AR j.desc) ds).isAgg=AR j.desc:=by
  refine FG (fun d hd=>?_) (fun e'=>?_)
  ·obtain⟨q,hq⟩:=List.mem_iff_getElem?.1 hd;have hlt:=(List.getElem?_eq_some_iff.1 hq).1;obtain⟨d',e1,e2⟩:=d2 q _ (List.getElem?_eq_getElem (show q<j.zc.length by omega))
   rw[hq]at e1;cases e1
   exact (IX (h:=h) e2).2
  ·rw[d1,j6];exact h1 _ _ hj e'
 have hfit:∀r∈rows,r.fits (AR j.desc) j.size:=by
  intro r hr;rw[←hrows]at hr;obtain rfl:=List.eq_of_mem_replicate hr;refine⟨hrow.2,by rw[hrow.1,d1,j6],fun c hc=>?_⟩
  rw[hrow.1]at hc;obtain⟨q,hq⟩:=List.mem_iff_getElem?.1 hc;have hlt:=(List.getElem?_eq_some_iff.1 hq).1;obtain⟨d',e1,e2⟩:=d2 q _ (List.getElem?_eq_getElem (show q<j.zc.length by omega))
  rw[hq]at e1;cases e1
  exact (IX (h:=h) e2).2
 have hlen:rows.length=N:=by rw[←hrows];simp
 -- a cell of a row
 have cell:∀(i:Nat) r (q:Nat) c,rows[i]?=some r→r.cells[q]?=some c→∃u c0,(madeCells j.zero.cells (N*j.size)).toList[i*j.size+q]?=some u∧zD c0=some c∧SK c0 u:=by
  intro i r q c hi hq;have hil:i<N:=by grind
  obtain rfl:rowOf (AR j.desc) ds=r:=by
   grind
  rw[hrow.1]at hq;have hlt:=(List.getElem?_eq_some_iff.1 hq).1;obtain⟨u0,hz⟩:∃u0,j.zero.cells[q]?=some u0:=⟨_,Array.getElem?_eq_getElem (by omega)⟩
  obtain⟨d',e1,e2⟩:=d2 q _ (List.getElem?_eq_getElem (show q<j.zc.length by omega))
  rw[hq]at e1;cases e1
  refine⟨u0,_,?_,e2,j7 q _ _ (List.getElem?_eq_getElem (by omega)) hz⟩
  have:=Ov (n:=N) hil hz;simp_all
 cases own with
 | false=>
  refine⟨_,hk,?_⟩
  rintro F σs σh a w Q ⟨g,R⟩ hs hrd hF hdst
  have hxv:=AI ti 3 x R (s:=s) (fun t ht=>hs t (by subst ht;simp[ho,Op.operands]))
  have hyv:=AI ti 3 y R (s:=s) (fun t ht=>hs t (by subst ht;simp[ho,Op.operands]))
  rw[hx]at hxv;rw[hy]at hyv;have hxv:=Ey hxv;have hyv:=Ey hyv;have ht:=(hti t _ hq).1;rw[hd]at ht;obtain⟨w',hrun,hown,hgrow⟩:=run_make_full (P:=C.P) w w.heap.size t e ii j.zero j.size ht j1 j4 j2 q1 q2 N (by grind) hNmx (Nat.le_refl _)
  have hown':w'.ownsRow w.heap.size e j.size (.slice (some ⟨w.heap.size,0,none⟩) N N) rows.length (madeCells j.zero.cells (N*j.size)).toList:=by rw[hlen];exact hown
  obtain⟨R',hrel⟩:=R.plain hgrow hsz hown' hfit (fun i r q c hi hq=>by
   obtain⟨u,c0,h3,h4,h5⟩:=cell i r q c hi hq;refine⟨u,h3,?_⟩;have hr:=EE (w:=w) (Z:=Av (zone g σh) C.X) (g:=g) (h:=σh) h5;have ho:=((IX (h:=σh) h4).1.rel R.heap List.nodup_nil hr);exact ho.toD fun b q' hb=>by simp_all)
  unfold Oper.wp;rw[show execOp a.eval o=Next.value<$>Instr.makeSlice t (a.eval x) (a.eval y)from by simp[execOp,ho],hxv,hyv]
  rw[Sem.run_map,hrun];refine⟨g,(R'.put hdst (v:=.v (.c (.tl (AR j.desc) j.size rows))) ⟨hrel,⟨some ⟨w.heap.size,0,none⟩,by rw[hlen]⟩⟩).Af (fun n hn=>hn.1)⟩
 | true=>
  refine⟨_,hk,?_⟩
  rintro F σs σh a w Q ⟨g,R⟩ hs hrd hF hdst
  have hxv:=AI ti 3 x R (s:=s) (fun t ht=>hs t (by subst ht;simp[ho,Op.operands]))
  have hyv:=AI ti 3 y R (s:=s) (fun t ht=>hs t (by subst ht;simp[ho,Op.operands]))
  rw[hx]at hxv;rw[hy]at hyv;have hxv:=Ey hxv;have hyv:=Ey hyv;have ht:=(hti t _ hq).1;rw[hd]at ht;obtain⟨w',hrun,hown,hgrow⟩:=run_make_full (P:=C.P) w w.heap.size t e ii j.zero j.size ht j1 j4 j2 q1 q2 N (by grind) hNmx (Nat.le_refl _)
  have hho:Holds w' .row j.size (.slice (some ⟨w.heap.size,0,none⟩) N N) rows.length (madeCells j.zero.cells (N*j.size)).toList:=by
   rw[hlen];refine⟨e,hown.1,?_⟩;rcases hown.2 with h3 | ⟨q,cap,cur,h3,_,h4⟩
   ·exact .inl h3
   grind
  have hblk:∀b,b<w.heap.size→w'.heap[b]?=w.heap[b]?:=fun b hb=>hgrow.block b hb (by simp)
  obtain⟨g',R',hrel⟩:=R.SE (T0:=[]) (v:=.slice (some ⟨w.heap.size,0,none⟩) N N) (kd:=.row) (ag:=AR j.desc) (w':=w') (by simp) (hF 0 (by omega)) ⟨hgrow.os,hgrow.tape,hgrow.output,hgrow.size⟩ (fun b hb _=>hblk b hb) hsz hho
   (T:=fun _ _ _=>False) (S:=fun _=>False) ⟨hfit,by simp[size_madeCells,hlen],fun i r q c hi hq=>by
    obtain⟨u,c0,h3,h4,h5⟩:=cell i r q c hi hq;refine⟨u,h3,?_⟩;have hr:=EE (w:=w) (Z:=Av (zone g σh) C.X) (g:=g) (h:=σh) h5;have ho:=((IX (h:=σh) h4).1.rel R.heap List.nodup_nil hr);have hemp:∀b,¬∃i∈([]:List Id),Bc (g i) b:=fun b ⟨i,hi,_⟩=>absurd hi (by simp)
    exact (ho.same (w':=w') fun b hb=>(hemp b hb).elim).congr fun b=>⟨fun hb=>hemp b hb,fun hb=>hb.elim⟩,fun _ _ _ h=>h.elim,fun _ _ _ _ _ h=>h.elim,fun _ _ _ h=>h.elim⟩
   (fun b hb=>hb.elim) (fun b hb=>.inr (by simp[blk]at hb;omega)) (fun _ _ _ h=>h.elim)
  unfold Oper.wp;rw[show execOp a.eval o=Next.value<$>Instr.makeSlice t (a.eval x) (a.eval y)from by simp[execOp,ho],hxv,hyv]
  rw[Sem.run_map,hrun];exact⟨g',(R'.put hdst (v:=.v (.c (.ow (.loc fresh)))) hrel).Af (fun n hn=>⟨hn.1,fun e=>hn.2 (by omega)⟩)⟩
end
end Go.AM
namespace Go.AM
open Go Go.RowKit
theorem Ow (ro:Option Nat):(BM ro).round=ro:=by cases ro<;>rfl
theorem CS (ro:Option Nat) (f:FuncId):(BM ro).fn f:=by cases ro<;>trivial
theorem CC (ro:Option Nat):(BM ro).depth.isSome=true→1≤(0:Nat):=by cases ro<;>intro h<;>cases h
section
variable {ro:Option Nat}{n:Nat}{P:Program}{args:Array Value}{R:Ending→World→Prop}
theorem DF {f:FuncId}{w:World}(h:Calls P f args w R):CallsIn (BM ro) n P f args w R:=by
 cases ro with
 | none=>exact callsIn_wide.2 h
 | some l=>exact CallsIn.inRound l (callsIn_wide.2 h)
theorem Qa {row:String}{w:World}{R:Value→World→Prop}(h:Rows P row args w R):RowsIn (BM ro) n P row args w R:=by
 intro c cs _;obtain⟨v,w',hr,hs⟩:=h c cs;refine⟨v,w',hr,?_⟩;cases ro with
 | none=>exact stepsIn_wide.2 hs
 | some l=>exact stepsIn_wide.2 hs
theorem Ox {m:Nat}{l:Nat}{f:FuncId}{tmps:Array Value}{assign body:Code}{w:World}(h:RoundIn Fence.wide m P l f tmps assign body w R):RoundIn (BM ro) n P l f tmps assign body w R:=by
 refine⟨CS ro f,fun c cs _=>?_⟩
 have:=h.2 c cs (room_wide _);cases ro with
 | none=>exact this
 | some l=>exact this
theorem Ju {o:Oper}{a:Act}{w:World}{next:Act→World→Prop}{Q:Exit→Act→World→Prop}(hd:∀c,o.op≠ .defer c) (h:o.wp P a w next Q):o.wpIn (BM ro) 0 P a w next Q:=by
 refine⟨fun f _=>CS ro f,?_⟩
 rw[Oper.semAt_eq _ _ _ hd];unfold Oper.wp at h;cases hr:(execOp a.eval o).run P w with
 | ok n w'=>
  rw[hr]at h;cases n with
  | value v=>exact h
  | skip=>exact h
  | enter f args=>
   refine⟨CC ro,DF (h.mono ?_)⟩;grind
  | row r args=>exact⟨CC ro,Qa h⟩
  | defer d=>exact h
  | _=>exact h.elim
 | halt q w'=>
  rw[hr]at h;cases q with
  | panic v=>exact h
  | _=>exact h.elim
structure Dc (B:Nat→Prop) (w w':World):Prop where
 os:w'.os=w.os
 tape:w'.tape=w.tape
 output:w'.output=w.output
 size:w.heap.size≤w'.heap.size
 block:∀b,b<w.heap.size→¬B b→w'.heap[b]?=w.heap[b]?
theorem Dc.cell {B:Nat→Prop}{w w':World}(A:Dc B w w') {b o:Nat}{u:Value}(h:w.cell? ⟨b,o,none⟩=some u) (hb:¬B b):w'.cell? ⟨b,o,none⟩=some u:=by
 have hlt:=World.block_lt_of_cell? w ⟨b,o,none⟩ h;have:=A.block b hlt hb;simp only[World.cell?]at h ⊢;rw[this];exact h
end
section
variable {C C':Cx}{F:Nat→Prop}{s:AL}{h h':Heap}{g:AP}{a a':Act}{w w':World}
theorem AY.SF (R:AY C F s h g a w) {B:Nat→Prop}(A:Dc B w w') (hM:C'.M=C.M) (hnt:C'.nt=C.nt) (hh0:∀i o,h' i=some o→h i=some o∨o= .gone)
  (hB:∀b o,B b→Av (zone g h) C.X b o) (hBo:∀i ob b,h' i=some ob→FF (g i) ob b→¬B b)
  (hX:∀b o,C'.X b o→Av (zone g h) C.X b o∨w.heap.size≤b) (hX1:∀b o,C'.X b o→b<w'.heap.size) (hX2:∀i ob b o,h' i=some ob→FF (g i) ob b→¬C'.X b o)
  (hw0:C'.w0=w') (hZ0:∀b o,zone g h' b o→C'.Z0 b o) (hg0:∀j,CU (C'.g0 (.ext j)) (g (.ext j))) (ht:a'.tmps=a.tmps) (hd:(C.M.cl=false→a'.defers=C'.D.map DB)∧(C.M.cl=true→a'.defers=a.defers))
  (hF:∀n,F n→h' (.loc n)=none):AY C' F s h' g a' w':=by
 have hh:∀i ob b,h' i=some ob→FF (g i) ob b→h i=some ob:=by
  intro i ob b hi hb;rcases hh0 i ob hi with h1 | rfl
  ·exact h1
  ·exact hb.elim
 have hzs:∀b o,zone g h' b o→zone g h b o:=fun b o ⟨i,ob,hi,hz⟩=>⟨i,ob,hh i ob b hi hz.HA,hz⟩
 have E:HC w (Av (zone g h) C.X) g h w' (Av (zone g h') C'.X) g h':=by
  refine⟨fun b o u hu hn=>⟨A.cell hu (fun hb=>hn (hB b o hb)),?_⟩,fun _ _ _=>rfl,fun _ _ _=>rfl,fun _ h=>h,fun i n sz e _ hi=>⟨n,Nat.le_refl _,(hh0 _ _ hi).resolve_right (by simp),fun _=>rfl⟩,fun _ h=>h,fun i _ hl=>⟨?_,rfl⟩⟩
  ·rintro (hz | hz)
   ·exact hn (.inl (hzs b o hz))
   ·rcases hX b o hz with hz | hz
    ·exact hn hz
    ·have:=World.block_lt_of_cell? w ⟨b,o,none⟩ hu;grind
  ·cases ho:h' i with
   | none=>rw[ho]at hl;cases hl
   | some ob=>
    rw[ho]at hl;rcases hh0 i ob ho with h1 | rfl
    ·rw[h1];exact hl
    ·cases hl
 have hdf:DY w' (Av (zone g h') C'.X) g C'.M.cl (s DT) a'.defers C'.D:=by
  rw[hM];cases hc:C.M.cl with
  | false=>exact hd.1 hc
  | true=>
   have:=E.tG R.defers;rw[hd.2 hc];rw[hc]at this;exact this
 refine⟨by rw[ht,hnt];exact R.size,hdf,fun t=>by rw[ht];exact E.U0 (R.slots t),⟨fun i ob hi=>?_,fun i j oi oj b hi hj bi bj=>R.heap.sep i j oi oj b (hh i oi b hi bi) (hh j oj b hj bj) bi bj,hX2⟩,by rw[hw0];exact Bs.refl _ _,hg0,
  fun i ob b o hi hz=>.inl (hZ0 b o ⟨i,ob,hi,hz⟩),by rw[hw0];exact hX1,fun n hn=>⟨(R.free n hn).1,hF n hn⟩⟩
 rcases hh0 i ob hi with h1 | rfl
 ·refine (R.heap.objs i ob h1).evo E fun b hb=>?_
  exact A.block b ((R.heap.objs i ob h1).lt hb) (hBo i ob b hi hb)
 ·trivial
structure Dd (C C':Cx):Prop where
 M:C'.M=C.M
 nt:C'.nt=C.nt
 ro:C'.ro=C.ro
 X:∀b o,C.X b o→C'.X b o
 frame:Bs C.Z0 C.w0 C'.w0
 Z0:∀b o,C'.Z0 b o→C.Z0 b o∨C.w0.heap.size≤b
 ext:∀j,CU (C.g0 (.ext j)) (C'.g0 (.ext j))
 same:C.ro≠none→C'.D=C.D
 marks:∃ds,C'.D=ds++C.D∧∀r∈ds,C.w0.heap.size≤r∧∀o,C'.X r o
theorem Dd.refl (C:Cx):Dd C C:=⟨rfl,rfl,rfl,fun _ _ h=>h,Bs.refl _ _,fun _ _ h=>.inl h,fun _=>.refl _,fun _=>rfl,[],rfl,by simp⟩
theorem Bs.then {Z Z':Ak}{a b c:World}(h:Bs Z a b) (k:Bs Z' b c) (hz:∀p o,Z' p o→Z p o∨a.heap.size≤p):Bs Z a c:=by
 refine⟨k.os.trans h.os,k.tape.trans h.tape,k.output.trans h.output,Nat.le_trans h.size k.size,fun p hp hn=>?_,fun p o u hu hn=>?_⟩
 ·refine (k.block p (Nat.lt_of_lt_of_le hp h.size) fun o ho=>?_).trans (h.block p hp hn)
  grind
 ·refine k.cell p o u (h.cell p o u hu hn) fun ho=>?_
  rcases hz p o ho with h1 | h1
  ·exact hn h1
  ·have:=World.block_lt_of_cell? a ⟨p,o,none⟩ hu;grind
theorem Dd.trans {A B C:Cx}(h:Dd A B) (k:Dd B C):Dd A C:=by
 obtain⟨ds,e1,h1⟩:=h.marks;obtain⟨es,e2,h2⟩:=k.marks;refine⟨k.M.trans h.M,k.nt.trans h.nt,k.ro.trans h.ro,fun b o hx=>k.X b o (h.X b o hx),h.frame.then k.frame h.Z0,fun b o hz=>?_,fun j=>(h.ext j).trans (k.ext j),fun hr=>(k.same (by rw[h.ro];exact hr)).trans (h.same hr),es++ds,by simp_all,fun r hr=>?_⟩
 ·rcases k.Z0 b o hz with h3 | h3
  ·exact h.Z0 b o h3
  ·exact .inr (Nat.le_trans h.frame.size h3)
 ·rcases List.mem_append.1 hr with h3 | h3
  ·exact⟨Nat.le_trans h.frame.size (h2 r h3).1,(h2 r h3).2⟩
  ·exact⟨(h1 r h3).1,fun o=>k.X r o ((h1 r h3).2 o)⟩
theorem Dd.down (L:Dd C C') (R:AY C' F s h g a w):Bs C.Z0 C.w0 w∧(∀j,CU (C.g0 (.ext j)) (g (.ext j)))∧∀i ob b o,h i=some ob→BS (g i) ob b o→C.Z0 b o∨C.w0.heap.size≤b:=by
 refine⟨L.frame.then R.frame L.Z0,fun j=>(L.ext j).trans (R.ext j),fun i ob b o hi hz=>?_⟩
 rcases R.within i ob b o hi hz with h1 | h1
 ·exact L.Z0 b o h1
 ·exact .inr (Nat.le_trans L.frame.size h1)
theorem AY.kept (R:AY C F s h g a w) {b:Nat}{o:Obj}(hb:C.w0.heap[b]?=some o) (hz:∀p,¬C.Z0 b p):w.heap[b]?=some o∧∀p,¬zone g h b p:=by
 have hlt:b<C.w0.heap.size:=(Array.getElem?_eq_some_iff.1 hb).1;refine⟨(R.frame.block b hlt hz).trans hb,?_⟩
 rintro p ⟨i,ob,hi,h1⟩
 rcases R.within i ob b p hi h1 with h2 | h2
 ·exact hz p h2
 ·omega
end
theorem map_id' {α:Type}{f:α→α}{l:List α}(h:∀x∈l,f x=x):l.map f=l:=by
 induction l with
 | nil=>rfl
 | cons x l ih=>simp_all
theorem FC.CA (c:FC):c.A0 (fun i=>i)=c:=by cases c<;>rfl
theorem CV.CA (c:CV):c.A0 (fun i=>i)=c:=by
 cases c with
 | fz f cs=>simp only[CV.A0];congr 1;exact map_id' fun y _=>FC.CA y
 | _=>simp[CV.A0]
theorem V1.CA (c:V1):c.A0 (fun i=>i)=c:=by
 cases c with
 | d x=>rfl
 | c x=>simp[V1.A0,CV.CA]
 | agg cs=>simp only[V1.A0];congr 1;exact map_id' fun x _=>CV.CA x
theorem AV.CA (c:AV):c.A0 (fun i=>i)=c:=by
 cases c with
 | u=>rfl
 | v y=>simp[AV.A0,V1.CA]
 | t ys=>simp only[AV.A0];congr 1;exact map_id' fun y _=>V1.CA y
 | df f cs rows=>simp only[AV.A0];congr 1;exact map_id' fun y _=>FC.CA y
theorem AD.CA (c:AD):c.A0 (fun i=>i)=c:=by
 have hc:∀cs:List CV,cs.map (CV.A0 fun i=>i)=cs:=fun cs=>map_id' fun x _=>CV.CA x
 cases c with
 | cells cs=>simp only[AD.A0,hc]
 | tok=>rfl
 | map kt et es=>rfl
 | arr=>simp only[AD.A0,hc]
 | tree kd ag sz rows foc=>cases foc<;>simp[AD.A0,hc]
 | pmap n1 sz n rows foc=>cases foc<;>simp[AD.A0]
 | part=>rfl
 | fnl f cs rows=>simp only[AD.A0];congr 1;exact map_id' fun y _=>FC.CA y
 | gone=>rfl
 | rnd r sl=>simp only[AD.A0];congr 1;exact map_id' fun x _=>by simp[AV.CA]
 | rndX j=>rfl
theorem AY.U1 {C:Cx}{F:Nat→Prop}{s:AL}{h:Heap}{g:AP}{a:Act}{w:World}(R:AY C F s h g a w) {n:Nat}(hf:F n) (L:Loop) (r:Unit→RF) (sl:List (Nat×AV))
  (h1:L.state= .ready) (h2:L.pending=none) (h3:L.params=(r ()).params) (h4:L.assign=(r ()).assign) (h5:L.body=(r ()).body) (h6:L.tmps.size=(r ()).nt)
  (h7:∀t,An w (Av (zone g h) C.X) g h (AQ sl t) (L.tmps.getD t undef)):
  AY C (fun k=>F k∧k≠n) s (AK h (.loc n) (.rnd r sl)) (Ap g (.loc n) (.map (some w.heap.size))) a (w.alloc (.loop L)):=by
 have hX:∀b o,C.X b o→b<w.heap.size:=fun b o hx=>Nat.lt_of_lt_of_le (R.xs b o hx) R.frame.size
 obtain⟨hgn,hhn⟩:=R.free n hf
 have hne:∀{i:Id} {v:Value},g i=v→v≠undef→i≠ .loc n:=by
  grind
 have E:HC w (Av (zone g h) C.X) g h (w.alloc (.loop L)) (Av (zone (Ap g (.loc n) (.map (some w.heap.size))) (AK h (.loc n) (.rnd r sl))) C.X)
   (Ap g (.loc n) (.map (some w.heap.size))) (AK h (.loc n) (.rnd r sl)):=by
  have now:∀{i:Id},isTu (g i)→i≠ .loc n:=by
   rintro i hi rfl
   rw[hgn]at hi;exact BT hi
  refine⟨fun b o u hu hz=>?_,fun i b hb=>?_,fun i q hq=>?_,fun i hi=>?_,fun i k sz e' hi hk=>?_,fun i hi=>by simpa [Ap,now hi] using hi,
   fun i hi hk=>⟨by simpa [AK,now hi] using hk,by simp[Ap,now hi]⟩⟩
  ·have hlt:=World.block_lt_of_cell? w ⟨b,o,none⟩ hu;refine⟨(World.cell?_alloc_lt w _ ⟨b,o,none⟩ hlt).trans hu,?_⟩
   rintro (⟨i,ob,hi,h1⟩ | hx)
   ·by_cases hin:i= .loc n
    ·subst hin;simp only[AK,if_true,Option.some.injEq]at hi;subst hi;have:=Bc.map (q:=w.heap.size) (by simpa [Ap,BS] using h1)
     simp_all
    ·simp only[AK,Ap,if_neg hin]at hi h1;exact hz (.inl ⟨i,ob,hi,h1⟩)
   ·exact hz (.inr hx)
  ·exact if_neg (hne hb (by simp[undef]))
  ·exact if_neg (hne hq (by simp[undef]))
  ·have:i≠ .loc n:=by rintro rfl;rw[hgn]at hi;exact hi
   simpa [Ap,this] using hi
  ·have:i≠ .loc n:=by rintro rfl;rw[hgn]at hi;exact hi
   refine⟨k,Nat.le_refl _,by simpa [AK,this] using hk,fun _=>by simp[Ap,this]⟩
 refine R.step (F':=fun k=>F k∧k≠n) (fun i=>i= .loc n) E ?_ ?_ ?_ ?_ ?_ ?_ ?_ ?_
 ·exact⟨rfl,rfl,rfl,by simp,fun b hb _=>Below.heap_alloc w _ b hb,fun b o u hu _=>(World.cell?_alloc_lt w _ ⟨b,o,none⟩ (World.block_lt_of_cell? w ⟨b,o,none⟩ hu)).trans hu⟩
 ·intro i hi;simp[AK,Ap,hi]
 ·intro i o b _ hi hb;exact Below.heap_alloc w _ b ((R.heap.objs i o hi).lt hb)
 ·rintro i o rfl ho
  simp[AK]at ho;subst ho;exact⟨w.heap.size,L,by simp[Ap],heap_alloc_new w _,h1,h2,h3,h4,h5,h6,fun t=>E.U0 (h7 t)⟩
 ·rintro i o b p rfl ho hb
  simp[AK]at ho;subst ho;have:=Bc.map (q:=w.heap.size) (by simpa [Ap,BS] using hb)
  exact .inr (by omega)
 ·simp_all
 ·simp_all
 ·rintro k ⟨hk,hkn⟩
  have:=R.free k hk;simp[Ap,AK,hkn,this]
def E2:Option Nat→Code
 | none=>.ret
 | some id=>.exit id
abbrev Jump:=Option (Option Nat)
structure PU (l:Nat) (L:Loop) (w:World) (X:Ak) (g:AP) (pre:List AD) (jump:Jump) (post new:List AD) (w':World) (g':AP):Prop where
 heap:DA w' X g' (BQ post new)
 frame:Bs (fun b o=>zone g (Ad pre) b o∨b=l) w w'
 record:w'.heap[l]?=some (.loop {L with state:=if jump.isNone then .ready else .done,pending:=jump.map E2})
 ext:∀j,CU (g (.ext j)) (g' (.ext j))
 within:∀i ob b o,BQ post new i=some ob→BS (g' i) ob b o→zone g (Ad pre) b o∨w.heap.size≤b
 none:∀k,new.length≤k→g' (.loc k)=undef
def Ea (ps:Array Tmp) (vals tmps:Array Value):Array Value:=(ps.zip vals).foldl (fun t (p,v)=>t.setIfInBounds p v) tmps
def Fc (P:Program) (I:Inv) (r:RF) (sl:List (Nat×AV)) (args:List V1) (pre:List AD) (Q:Jump→List AD→List AD→Prop):Prop:=
 args.length=r.params.size∧
 ∀(l:Nat) (L:Loop) w X g (vals:Array Value),(∀b o,X b o→b<w.heap.size)→(∀o,X l o)→w.heap[l]?=some (.loop L)→L.state= .ready→L.pending= .none→L.params=r.params→L.assign=r.assign→L.body=r.body→L.tmps.size=r.nt→
  I.at w (Av (zone g (Ad pre)) X)→DA w X g (Ad pre)→(∀n,g (.loc n)=undef)→vals.size=args.length→
  (∀(j:Nat) x v,args[j]?=some x→vals[j]?=some v→Ah w (Av (zone g (Ad pre)) X) g (Ad pre) x v)→
  (∀t,An w (Av (zone g (Ad pre)) X) g (Ad pre) (AQ sl t) (L.tmps.getD t undef))→
  RoundIn Fence.wide 0 P l L.fn (Ea L.params vals L.tmps) L.assign L.body w fun e w'=>
   ∃jump g' post new,Q jump post new∧e= .returned (.bool jump.isNone)∧PU l L w X g pre jump post new w' g'
def Dx (j:Jump) (r:Unit→RF) (sl:List (Nat×AV)):AD:=
 match j with
 | none=>.rnd r sl
 | some x=>.rndX x
theorem VJ {P:Program}{I:Inv}{r:Unit→RF}{sl:List (Nat×AV)}{args:List V1}{pre:List AD}{Q:Jump→List AD→List AD→Prop}(hK:Fc P I (r ()) sl args pre Q)
  (hQ:∀j post new,Q j post new→Bi pre post∧new.length≤31) {w:World} {X:Ak} {g:AP} {vals:Array Value} (hX:∀b o,X b o→b<w.heap.size)
  (hI:I.at w (Av (zone g (Ad (pre++[.rnd r sl]))) X)) (RH:DA w X g (Ad (pre++[.rnd r sl]))) (hgl:∀n,g (.loc n)=undef) (hsz:vals.size=args.length)
  (hargs:∀(j:Nat) x v,args[j]?=some x→vals[j]?=some v→Ah w (Av (zone g (Ad (pre++[.rnd r sl]))) X) g (Ad (pre++[.rnd r sl])) x v):
  ∃l L,g (.ext pre.length)= .map (some l)∧w.heap[l]?=some (.loop L)∧L.params.size=args.length∧
   RoundIn Fence.wide 0 P l L.fn (Ea L.params vals L.tmps) L.assign L.body w fun e w'=>
    ∃v g' res post new,(∃j post0,Q j post0 new∧res= .v (.d (.bool j.isNone))∧post=post0++[Dx j r sl])∧e= .returned v∧CW w X g (pre++[.rnd r sl]) res post new v w' g':=by
 let n:=pre.length
 let hs:Heap:=Ad pre
 let hb:Heap:=Ad (pre++[.rnd r sl])
 have hrec:hb (.ext n)=some (.rnd r sl):=by
  show (pre++[AD.rnd r sl])[n]?=_;simp[n]
 obtain⟨l,L,hv,hl,l1,l2,l3,l4,l5,l6,l7⟩:=RH.objs _ _ hrec
 have sub:∀i o,hs i=some o→hb i=some o∧i≠ .ext n:=by
  intro i o hi;cases i with
  | loc k=>simp[hs,Ad]at hi
  | ext j=>
   have hi:pre[j]?=some o:=hi;have hlt:=(List.getElem?_eq_some_iff.1 hi).1;refine⟨?_,by simp[n];omega⟩
   show (pre++_)[j]?=some o;grind
 have cas:∀i o,hb i=some o→hs i=some o∨(i= .ext n∧o= .rnd r sl):=by
  intro i o hi;cases i with
  | loc k=>simp[hb,Ad]at hi
  | ext j=>
   have hi:(pre++[AD.rnd r sl])[j]?=some o:=hi
   by_cases hj:j<n
   ·rw[List.getElem?_append_left hj]at hi;exact .inl hi
   grind
 have lz:∀b,Bc (g (.ext n)) b↔b=l:=fun b=>by
  rw[hv];exact⟨fun h=>h.map.symm,fun h=>by subst h;exact .inl rfl⟩
 let X2:Ak:=fun b o=>X b o∨b=l
 have zs:∀b o,zone g hs b o→zone g hb b o:=fun b o ⟨i,ob,hi,h1⟩=>⟨i,ob,(sub i ob hi).1,h1⟩
 have z1:∀b o,Av (zone g hs) X2 b o→Av (zone g hb) X b o:=by
  rintro b o (h | h | h)
  ·exact .inl (zs b o h)
  ·exact .inr h
  ·exact .inl ⟨.ext n,_,hrec,(lz b).2 h⟩
 have z2:∀b o,Av (zone g hb) X b o→Av (zone g hs) X2 b o:=by
  rintro b o (⟨i,ob,hi,h1⟩ | h)
  ·rcases cas i ob hi with hi | ⟨rfl,rfl⟩
   ·exact .inl ⟨i,ob,hi,h1⟩
   ·exact .inr (.inr ((lz b).1 h1))
  ·exact .inr (.inl h)
 have tk:∀i k sz e,hs i=some (.tok k sz e)→hb i=some (.tok k sz e):=fun i k sz e hi=>(sub i _ hi).1
 have live:∀i,isLive (hs i)=true→isLive (hb i)=true:=fun i hi=>by
  cases hc:hs i with
  | none=>rw[hc]at hi;cases hi
  | some o=>simp_all
 have notl:∀i o b,hs i=some o→FF (g i) o b→b≠l:=by
  rintro i o b hi hb rfl
  exact (sub i o hi).2 (RH.sep i (.ext n) o _ b (sub i o hi).1 hrec hb ((lz b).2 rfl))
 have RS:DA w X2 g hs:=by
  refine⟨fun i o hi=>?_,fun i j oi oj b hi hj bi bj=>RH.sep i j oi oj b (sub i oi hi).1 (sub j oj hj).1 bi bj,fun i oi b o hi bi hx=>?_⟩
  ·exact BL.pull (r:=fun i=>i) (g:=g) (h:=hb) z1 (fun _=>rfl) tk live (by rw[AD.CA];exact RH.objs i o (sub i o hi).1)
  ·rcases hx with hx | hx
   ·exact RH.apart i oi b o (sub i oi hi).1 bi hx
   grind
 refine⟨l,L,hv,hl,by rw[l3];exact hK.1.symm,?_⟩
 refine (hK.2 l L w X2 g vals (fun b o hx=>?_) (fun o=>.inr rfl) hl l1 l2 l3 l4 l5 l6 (hI.mono z1) RS hgl hsz (fun j x v hx hvv=>?_) (fun t=>?_)).mono ?_
 ·grind
 ·exact Ah.pull (r:=fun i=>i) (g:=g) (h:=hb) z1 (fun _=>rfl) tk live (by rw[V1.CA];grind)
 ·exact An.pull (r:=fun i=>i) (g:=g) (h:=hb) z1 (fun _=>rfl) tk live (by rw[AV.CA];exact l7 t)
 rintro e w' ⟨jump,g',post,new,hq,rfl,RP⟩
 obtain⟨hk,hnew⟩:=hQ jump post new hq;have plen:post.length=pre.length:=EX hk
 have hgn:g' (.ext n)= .map (some l):=by
  rw[(RP.ext n).eq (by rw[hv];rintro⟨_,_,h,_⟩;cases h)];exact hv
 let hs2:Heap:=BQ post new
 let hb2:Heap:=BQ (post++[Dx jump r sl]) new
 have hrec2:hb2 (.ext n)=some (Dx jump r sl):=by
  show (post++[Dx jump r sl])[n]?=_;simp[n,plen]
 have sub2:∀i o,hs2 i=some o→hb2 i=some o∧i≠ .ext n:=by
  intro i o hi;cases i with
  | loc k=>exact⟨hi,by simp⟩
  | ext j=>
   have hi:post[j]?=some o:=hi;have hlt:=(List.getElem?_eq_some_iff.1 hi).1;refine⟨?_,by simp[n];omega⟩
   show (post++_)[j]?=some o;grind
 have cas2:∀i o,hb2 i=some o→hs2 i=some o∨(i= .ext n∧o=Dx jump r sl):=by
  intro i o hi;cases i with
  | loc k=>exact .inl hi
  | ext j=>
   have hi:(post++[Dx jump r sl])[j]?=some o:=hi
   by_cases hj:j<n
   ·rw[List.getElem?_append_left (by omega)]at hi;exact .inl hi
   grind
 have lz2:∀b o,BS (g' (.ext n)) (Dx jump r sl) b o↔b=l:=fun b o=>by
  have:BS (g' (.ext n)) (Dx jump r sl) b o↔Bc (g' (.ext n)) b:=by cases jump<;>exact Iff.rfl
  simp_all
 have ob2:∀b,FF (g' (.ext n)) (Dx jump r sl) b↔b=l:=fun b=>by
  have:FF (g' (.ext n)) (Dx jump r sl) b↔Bc (g' (.ext n)) b:=by cases jump<;>exact Iff.rfl
  simp_all
 have y1:∀b o,Av (zone g' hs2) X2 b o→Av (zone g' hb2) X b o:=by
  rintro b o (⟨i,ob,hi,h1⟩ | h | h)
  ·exact .inl ⟨i,ob,(sub2 i ob hi).1,h1⟩
  ·exact .inr h
  ·exact .inl ⟨.ext n,_,hrec2,(lz2 b o).2 h⟩
 have y2:∀b o,Av (zone g' hb2) X b o→Av (zone g' hs2) X2 b o:=by
  rintro b o (⟨i,ob,hi,h1⟩ | h)
  ·rcases cas2 i ob hi with hi | ⟨rfl,rfl⟩
   ·exact .inl ⟨i,ob,hi,h1⟩
   ·exact .inr (.inr ((lz2 b o).1 h1))
  ·exact .inr (.inl h)
 have tk2:∀i k sz e,hb2 i=some (.tok k sz e)→hs2 i=some (.tok k sz e):=by
  intro i k sz e hi;rcases cas2 i _ hi with h | ⟨_,h⟩
  ·exact h
  ·cases jump<;>cases h
 have live2:∀i,isLive (hb2 i)=true→isLive (hs2 i)=true:=by
  intro i hi;cases hc:hb2 i with
  | none=>rw[hc]at hi;cases hi
  | some o=>
   rw[hc]at hi;rcases cas2 i o hc with h | ⟨_,rfl⟩
   ·rw[h];exact hi
   ·cases jump<;>cases hi
 have gext:∀i,¬isTu (g i)→g i≠undef→g' i=g i:=by
  intro i ht hu;cases i with
  | ext j=>exact (RP.ext j).eq ht
  | loc k=>exact absurd (hgl k) hu
 have E:HC w (Av (zone g hb) X) g hb w' (Av (zone g' hb2) X) g' hb2:=by
  refine⟨fun b o u hu hn=>⟨RP.frame.cell b o u hu ?_,fun hy=>?_⟩,fun i b hb=>gext i (fun ht=>SX (hb▸ht)) (by rw[hb];simp[undef]),fun i q hq=>gext i (fun ht=>SY (hq▸ht)) (by rw[hq];simp[undef]),fun i hi=>?_,fun i k sz e hi hn=>?_,fun i hi=>?_,fun i hi hn=>?_⟩
  ·rintro (h | rfl)
   ·exact hn (.inl (zs b o h))
   ·exact hn (z1 _ _ (.inr (.inr rfl)))
  ·rcases y2 b o hy with⟨i,ob,hi,h1⟩ | h1
   ·rcases RP.within i ob b o hi h1 with h2 | h2
    ·exact hn (.inl (zs b o h2))
    ·have:=World.block_lt_of_cell? w ⟨b,o,none⟩ hu;grind
   ·exact hn (z1 _ _ (.inr h1))
  ·rw[gext i (Eh hi) (by rintro e;rw[e]at hi;exact hi)];exact hi
  ·have hgi:=gext i (Eh hi) (by rintro e;rw[e]at hi;exact hi)
   have hn:=tk2 i k sz e hn;cases i with
   | loc q=>rw[hgl q]at hi;exact hi.elim
   | ext j=>
    obtain⟨o0,h6,h7⟩:=Da hk hn;cases o0<;>simp[sameKind]at h7
    obtain⟨rfl,rfl,rfl⟩:=h7;exact⟨_,Nat.le_refl _,(sub (.ext j) _ h6).1,fun _=>hgi⟩
  ·cases i with
   | ext j=>exact (RP.ext j).isTu hi
   | loc q=>rw[hgl q]at hi;exact (BT hi).elim
  ·cases i with
   | loc q=>rw[hgl q]at hi;exact (BT hi).elim
   | ext j=>
    refine⟨?_,(RP.ext j).gval⟩;have hn:=live2 _ hn;cases ho:hs2 (.ext j)with
    | none=>rw[ho]at hn;cases hn
    | some ob=>
     rw[ho]at hn;obtain⟨o0,h6,h7⟩:=Da hk ho;rw[(sub (.ext j) _ h6).1];exact Jr h7 hn
 have frame:Bs (zone g hb) w w':=RP.frame.weaken fun b o h=>by
  rcases h with h | rfl
  ·exact zs b o h
  ·exact⟨.ext n,_,hrec,(lz _).2 rfl⟩
 have outl:∀i ob b,hs2 i=some ob→FF (g' i) ob b→b≠l:=by
  rintro i ob b hi hb rfl
  exact RP.heap.apart i ob b 0 hi hb (.inr rfl)
 refine⟨.bool jump.isNone,g',_,_,new,⟨jump,post,hq,rfl,rfl⟩,rfl,⟨⟨fun i o hi=>?_,fun i j oi oj b hi hj bi bj=>?_,fun i oi b o hi bi hx=>?_⟩,AZ.bool _,frame,fun j=>RP.ext j,fun i ob b o hi hz=>?_,RP.none⟩⟩
 ·rcases cas2 i o hi with h | ⟨rfl,rfl⟩
  ·exact BL.pull (r:=fun i=>i) (g:=g') (h:=hs2) y2 (fun _=>rfl) tk2 live2 (by rw[AD.CA];exact RP.heap.objs i o h)
  ·have hloop:=RP.record;cases jump with
   | none=>exact⟨l,_,hgn,hloop,rfl,rfl,l3,l4,l5,l6,fun t=>E.U0 (l7 t)⟩
   | some x=>exact⟨l,_,hgn,hloop,rfl,by cases x<;>rfl⟩
 ·rcases cas2 i oi hi with h1 | ⟨rfl,rfl⟩<;>rcases cas2 j oj hj with h2 | ⟨rfl,rfl⟩
  ·exact RP.heap.sep i j oi oj b h1 h2 bi bj
  ·grind
  ·grind
  ·rfl
 ·rcases cas2 i oi hi with h1 | ⟨rfl,rfl⟩
  ·exact RP.heap.apart i oi b o h1 bi (.inl hx)
  ·have:=(ob2 b).1 bi;subst this;exact RH.apart (.ext n) _ b o hrec ((lz b).2 rfl) hx
 ·rcases cas2 i ob hi with h1 | ⟨rfl,rfl⟩
  ·rcases RP.within i ob b o h1 hz with h2 | h2
   ·exact .inl (zs b o h2)
   ·exact .inr h2
  ·have:=(lz2 b o).1 hz;subst this;exact .inl ⟨.ext n,_,hrec,(lz _).2 rfl⟩
end Go.AM
namespace Go.AM
open Go Go.RowKit
section
variable {C:Cx}{F:Nat→Prop}{s:AL}{h:Heap}{g:AP}{a:Act}{w:World}{ti:Types}
section
variable {ag:Bool}{sz:Nat}{rows:List D}
theorem Jv {Z:Ak}{gv:Value}(r:BL w Z g h (.tree .flat ag sz rows none) gv):
  isTu gv∧0<sz∧(∀r∈rows,r.fits ag sz)∧∃xs,Holds w .flat sz (gval gv) rows.length xs∧
   (∀(i:Nat) r (j:Nat) c,rows[i]?=some r→r.cells[j]?=some c→∃u,xs[i*sz+j]?=some u∧AZ w Z c u)∧∀b,Bc gv b↔blk (gval gv)=some b:=by
 obtain⟨ht,h0,hf,xs,hx,_,U,T,h1,h2,h3,h4,h5⟩:=r
 have nT:∀i j b',¬T i j b':=by
  intro i j b' hT;obtain⟨_,r,c,p1,p2⟩:=h2 i j b' hT;exact ((Cm.fz rfl).1 (h1 i r j c (fun _ _ h=>by cases h) p1 p2).2).2 b' hT
 refine⟨ht,h0,hf,xs,hx,fun i r j c hr hc=>?_,fun b=>?_⟩
 ·obtain⟨p1,p2⟩:=h1 i r j c (fun _ _ h=>by cases h) hr hc
  exact⟨_,p1,((Cm.fz rfl).1 p2).1.1⟩
 grind
theorem Qb {Z:Ak}{gv:Value}(ht:isTu gv) (h0:0<sz) (hf:∀r∈rows,r.fits ag sz) {xs:List Value}(hx:Holds w .flat sz (gval gv) rows.length xs)
  (hc:∀(i:Nat) r (j:Nat) c,rows[i]?=some r→r.cells[j]?=some c→∃u,xs[i*sz+j]?=some u∧AZ w Z c u) (hb:∀b,Bc gv b↔blk (gval gv)=some b):BL w Z g h (.tree .flat ag sz rows none) gv:=by
 refine⟨ht,h0,hf,xs,hx,(fun _ _ h=>by cases h),fun i j=>xs.getD (i*sz+j) undef,fun _ _ _=>False,fun i r j c _ hr hj=>?_,(fun _ _ _ h=>h.elim),(fun _ _ _ h=>h.elim),(fun _ _ _ _ _ h=>h.elim),fun b=>?_⟩
 ·obtain⟨u,hu,hd⟩:=hc i r j c hr hj;have e1:xs.getD (i*sz+j) undef=u:=by simp[hu]
  show xs[i*sz+j]?=some (xs.getD (i*sz+j) undef)∧Cm w Z .flat c (xs.getD (i*sz+j) undef) _;rw[e1];exact⟨hu,(Cm.fz rfl).2 ⟨⟨hd,(hf r (List.mem_of_getElem? hr)).2.2 c (List.mem_of_getElem? hj)⟩,fun _ h=>h⟩⟩
 simp_all
theorem YV (hti:Ay C.P ti) (h1:BH ti) {t:TypeId}{i:TI}(hi:ti t=some i) (R:AY C F s h g a w) {id:Id}{k:Nat}{r:D}
  (hid:h id=some (.tree .flat ag sz rows none)) (hr:rows[k]?=some r) {b o:Nat} (hb:blk (gval (g id))=some b) (ho:o+i.size≤r.cells.length):
  ∃v,(Instr.loadAt t (.pointer (some ⟨b,k*sz+o,none⟩))).run C.P w= .ok v w∧An w (Av (zone g h) C.X) g h (.v (V1.Aa (AR i.desc) (((r.cells.drop o).take i.size).map CV.d))) v:=by
 obtain⟨ht,h0,hf,xs,hx,hcell,hbl⟩:=Jv (R.heap.objs id _ hid);obtain⟨f1,f2,f3⟩:=hf r (List.mem_of_getElem? hr);have hl:=hx.len;have hklt:=(List.getElem?_eq_some_iff.1 hr).1
 have hlt:k*sz+sz≤xs.length:=by
  have:=Nat.mul_le_mul_right sz (show k+1≤rows.length from hklt)
  grind
 let vs:Array Value:=((xs.drop (k*sz+o)).take i.size).toArray
 have hvs:∀(j:Nat) u,vs[j]?=some u→xs[k*sz+(o+j)]?=some u∧j<i.size:=by
  grind
 have hsz:vs.size=i.size:=by simp[vs];omega
 obtain⟨v,hv,ha,hb'⟩:=CJ (P:=C.P) (w:=w) (vs:=vs) (b:=b) (q:=k*sz+o) hti h1 hi hsz (fun j u hu=>by
  have:=hx.cell rfl hb (hvs j u hu).1;grind)
 refine⟨v,hv,?_⟩
 have:=Ah.Aa (w:=w) (Z:=Av (zone g h) C.X) (g:=g) (h:=h) (ag:=AR i.desc) (cs:=((r.cells.drop o).take i.size).map CV.d) (vs:=vs) (by simp[hsz];omega) (fun j c u hc hu=>by
  simp only[List.getElem?_map,Option.map_eq_some_iff]at hc;obtain⟨d,hd,rfl⟩:=hc;rw[List.getElem?_take]at hd;split at hd
  ·rw[List.getElem?_drop]at hd;obtain⟨u',q1,q2⟩:=hcell k r (o+j) d hr hd;rw[(hvs j u hu).1]at q1;cases q1
   exact⟨q2,f3 d (List.mem_of_getElem? hd)⟩
  ·cases hd)
 cases hrow:AR i.desc with
 | true=>rw[ha hrow];rw[hrow]at this;exact this.1 rfl
 | false=>rw[hrow]at this;exact this.2 rfl v (hb' hrow)
theorem AY.ZV (R:AY C F s h g a w) {id:Id}{k:Nat}{r:D}(hid:h id=some (.tree .flat ag sz rows none)) (hr:rows[k]?=some r)
  {b o:Nat} (hb:blk (gval (g id))=some b) {ds:List D} {vals:List Value} (hl:vals.length=ds.length) (ho:o+ds.length≤r.cells.length)
  (hd:∀(j:Nat) x u,ds[j]?=some x→vals[j]?=some u→AZ w (Av (zone g h) C.X) x u) (hda:∀d∈ds,d.isAgg=false) {rows':List D} (hrows:rows.set k (rowOf ag (r.cells.take o++ds++r.cells.drop (o+ds.length)))=rows'):
  ∃c e,w.heap[b]?=some (.cells c e (0,0))∧k*sz+o+vals.length≤c.size∧
   AY C F s (AK h id (.tree .flat ag sz rows' none)) g a (w.setRow b (c.toList.take (k*sz+o)++vals++c.toList.drop (k*sz+o+vals.length)).toArray):=by
 obtain⟨ht,h0,hf,xs,hx,hcell,hbl⟩:=Jv (R.heap.objs id _ hid);obtain⟨f1,f2,f3⟩:=hf r (List.mem_of_getElem? hr);have hk:=(List.getElem?_eq_some_iff.1 hr).1;obtain⟨b',c,e,e1,e2,e3,e4,e5⟩:=hx.block rfl (by omega)
 rw[hb]at e1;cases e1
 have hlt:k*sz+sz≤rows.length*sz:=by
  have:=Nat.mul_le_mul_right sz (show k+1≤rows.length from hk)
  grind
 have hsp:k*sz+o+vals.length≤c.size:=by omega
 let c':Array Value:=(c.toList.take (k*sz+o)++vals++c.toList.drop (k*sz+o+vals.length)).toArray
 have hc':c'.size=c.size:=by simp[c'];omega
 have hget:∀j,c'[j]?=if k*sz+o≤j∧j<k*sz+o+vals.length then vals[j - (k*sz+o)]? else c[j]?:=by
  intro j;have:=DL c.toList vals (k*sz+o) (by simpa using hsp) j
  grind
 have hxs:∀j,xs[j]?=if j<rows.length*sz then c[j]? else none:=by
  grind
 have hxs':∀j,(c'.toList.take (rows.length*sz))[j]?=if j<rows.length*sz then c'[j]? else none:=by
  grind
 let row:List D:=r.cells.take o++ds++r.cells.drop (o+ds.length)
 have hrl:row.length=sz:=by simp[row];omega
 have hra:∀d∈row,d.isAgg=false:=by
  grind
 obtain⟨rc,ra⟩:=FG (ag:=ag) hra (fun e'=>by
  subst e'
  have:r.cells=[r]:=by
   cases r<;>first | rfl | simp[D.isAgg]at f1
  simp_all)
 have hlen:rows'.length=rows.length:=by rw[←hrows];simp
 have hf':∀r∈rows',r.fits ag sz:=by
  intro r' hr';rw[←hrows]at hr';rcases List.mem_or_eq_of_mem_set hr' with hr' | rfl
  ·exact hf r' hr'
  ·exact⟨ra,by rw[rc];exact hrl,by rw[rc];exact hra⟩
 refine⟨c,e,e2,hsp,R.mM hid (fun o'=>(hbl b).2 hb) (fun _ _ hz=>hz) (fun _=>rfl) (fun _ _ _ h=>by cases h) e2 (fun E=>?_)⟩
 refine Qb ht h0 hf' (xs:=c'.toList.take (rows.length*sz)) (by grind) (fun i r' j x hi hj=>?_) hbl
 have hil:i<rows.length:=by grind
 have hjl:j<sz:=by rw[←(hf' r' (List.mem_of_getElem? hi)).2.1];grind
 have hpos:i*sz+j<rows.length*sz:=by
  have:=Nat.mul_le_mul_right sz (show i+1≤rows.length from hil)
  grind
 rw[hxs',if_pos hpos,hget]
 by_cases hik:i=k
 ·subst hik;rw[←hrows,List.getElem?_set_self hk]at hi;cases hi
  have hj:row[j]?=some x:=by rw[←rc];exact hj
  rw[show row=r.cells.take o++ds++r.cells.drop (o+ds.length)from rfl,DL r.cells ds o ho j]at hj
  by_cases hin:o≤j∧j<o+ds.length
  ·rw[if_pos hin]at hj;rw[if_pos (by omega)]
   have hlt2:j - o<vals.length:=by omega
   refine⟨vals[j - o],?_,E.GP (hd (j - o) x _ hj (List.getElem?_eq_getElem hlt2))⟩;rw[←List.getElem?_eq_getElem hlt2];congr 1;omega
  ·rw[if_neg hin]at hj;rw[if_neg (by omega)]
   obtain⟨u,q1,q2⟩:=hcell i r j x hr hj;rw[hxs,if_pos hpos]at q1;exact⟨u,q1,E.GP q2⟩
 ·rw[←hrows,List.getElem?_set_ne (by omega)]at hi
  rw[if_neg]
  ·obtain⟨u,q1,q2⟩:=hcell i r' j x hi hj;rw[hxs,if_pos hpos]at q1;exact⟨u,q1,E.GP q2⟩
  ·rintro⟨q1,q2⟩
   rcases Nat.lt_or_gt_of_ne hik with hlt2 | hlt2
   ·have:=Nat.mul_le_mul_right sz (show i+1≤k from hlt2)
    grind
   ·have:=Nat.mul_le_mul_right sz (show k+1≤i from hlt2)
    grind
end
end
def qQ (h:Heap) (i:Id):Bool:=
 match h i with
 | some (.tree kd _ _ _ _)=>match kd with
  | .flat=>true
  | _=>false
 | _=>false
def Kn (x:AV) (h:Heap):Bool:=
 match x with
 | .v (.c (.op i _ _ _))=>qQ h i
 | .v (.c (.ow i))=>qQ h i
 | _=>false
def Kp (x:AV) (h:Heap) (K:Id→Bool→Nat→List D→Prop):Prop:=
 match x with
 | .v (.c (.ow id))=>match h id with
  | some (.tree kd ag sz rows foc)=>match kd with
   | .flat=>match foc with
    | none=>K id ag sz rows
    | some _=>False
   | _=>False
  | _=>False
 | _=>False
def I7 (x:AV) (h:Heap) (K:Id→Bool→Nat→List D→Nat→Nat→Prop):Prop:=
 match x with
 | .v (.c (.op id sz kk o))=>match h id with
  | some (.tree kd ag sz' rows foc)=>match kd with
   | .flat=>match foc with
    | none=>BJ (Nat.beq sz' sz) (K id ag sz' rows kk o)
    | some _=>False
   | _=>False
  | _=>False
 | _=>False
def Jw (ti:Types) (t:TypeId) (x:AV) (h:Heap) (k:Out→Prop):Prop:=
 Ao ti t fun i=>I7 x h fun id _ _ rows kk o=>∃r,rows[kk]?=some r∧BJ (Nat.ble (o+i.size) r.cells.length) (k ⟨.v (V1.Aa (AR i.desc) (((r.cells.drop o).take i.size).map CV.d)),[id],[]⟩)
def IY (ti:Types) (t:TypeId) (x y:AV) (h:Heap) (k:Out→Prop):Prop:=
 Ao ti t fun i=>DR y fun y=>match y.norm with
 | .d d=>BJ (Nat.beq d.cells.length i.size)<| I7 x h fun id ag sz rows kk o=>∃r,rows[kk]?=some r∧BJ (Nat.ble (o+i.size) r.cells.length)
   (∃rows',rows.set kk (rowOf ag (r.cells.take o++d.cells++r.cells.drop (o+i.size)))=rows'∧k ⟨.u,[id],[(id,.tree .flat ag sz rows' none)]⟩)
 | _=>False
def F5 (ti:Types) (t:TypeId) (x:AV) (f:Nat) (h:Heap) (k:Out→Prop):Prop:=
 Ao ti t fun i=>
 match i.desc with
 | .struct fs=>match fs[f]? with
  | some fd=>Ao ti fd.type fun j=>BJ (Nat.blt 0 j.size)<| I7 x h fun id _ sz _ kk o=>k ⟨.v (.c (.op id sz kk (o+fd.offset))),[id],[]⟩
  | none=>False
 | _=>False
def F7 (M:Aw) (ti:Types) (t:TypeId) (x i:AV) (h:Heap) (k:Out→Prop):Prop:=
 DD i fun _ n=>Ao ti t fun q=>
 match q.desc with
 | .slice e=>Ao ti e fun j=>Kp x h fun id _ sz rows=>BJ (Nat.beq sz j.size)<| (M.lock fun _=>0≤n∧n.toNat<rows.length)∧k ⟨.v (.c (.op id sz n.toNat 0)),[id],[]⟩
 | _=>False
def Jx (M:Aw) (ti:Types) (t:TypeId) (x:AV) (h:Heap) (k:Out→Prop):Prop:=
 Ao ti t fun q=>match q.desc with
 | .slice _=>Kp x h fun id _ _ rows=>∃z:Int,M.lenI rows=z∧k ⟨.v (.d (.int .i64 z)),[id],[]⟩
 | _=>False
def Zx (x:AV) (h:Heap) (ag:Bool) (sz:Nat) (K:List Id→List D→Prop):Prop:=
 match x with
 | .v (.c (.nils _ _))=>K [] []
 | .v (.c (.ow i))=>match h i with
  | some (.tree kd ag' sz' rows foc)=>match foc with
   | none=>(match kd with
    | .flat=>BJ (ag'==ag) (BJ (Nat.beq sz' sz) (K [i] rows))
    | .row=>(match rows with
     | []=>BJ (ag'==ag) (BJ (Nat.beq sz' sz) (K [i] []))
     | _=>False)
    | _=>False)
   | some _=>False
  | _=>False
 | _=>False
def HP (M:Aw) (ti:Types) (t:TypeId) (x y:AV) (fresh:Nat) (h:Heap) (k:Out→Prop):Prop:=
 Ao ti t fun q=>match q.desc with
 | .slice e=>Ao ti e fun j=>BJ (Nat.blt 0 j.size)<| Zx x h (AR j.desc) j.size fun ids rows=>HD y fun ag sz ys=>BJ (ag==AR j.desc)<| BJ (Nat.beq sz j.size)<|
   (M.lock fun _=>rows.length+ys.length≤maxLen∧(rows.length+ys.length)*j.bytes≤140737488355328)∧∃out,rows++ys=out∧
    k ⟨.v (.c (.ow (.loc fresh))),ids,Aj ids++[(.loc fresh,.tree .flat (AR j.desc) j.size out none)]⟩
 | _=>False
section
variable {C:Cx}{ti:Types}{o:Oper}{fresh:Nat}{s:AL}{h:Heap}{k:Out→Prop}
theorem NG {x:AV}{K:Id→Bool→Nat→List D→Prop}(hk:Kp x h K):∃id ag sz rows,K id ag sz rows∧h id=some (.tree .flat ag sz rows none)∧
  ∀{w:World} {Z:Ak} {g:AP} {σh:Heap} {u:Value},σh id=h id→An w Z g σh x u→u=gval (g id):=by
 unfold Kp at hk;split at hk
 ·rename_i id;split at hk
  ·rename_i kd ag sz rows foc hid;split at hk
   ·split at hk
    ·refine⟨id,ag,sz,rows,hk,hid,fun hσ hr=>hr.2.2 (by rw[hσ,hid];rfl)⟩
    ·exact hk.elim
   ·exact hk.elim
  ·exact hk.elim
 ·exact hk.elim
theorem I8 {x:AV}{K:Id→Bool→Nat→List D→Nat→Nat→Prop}(hk:I7 x h K):∃id ag sz rows kk o,K id ag sz rows kk o∧h id=some (.tree .flat ag sz rows none)∧
  ∀{w:World} {Z:Ak} {g:AP} {σh:Heap} {u:Value},σh id=h id→An w Z g σh x u→∃b,blk (gval (g id))=some b∧u= .pointer (some ⟨b,kk*sz+o,none⟩):=by
 unfold I7 at hk;split at hk
 ·rename_i id sz kk o;split at hk
  ·rename_i kd ag sz' rows foc hid;split at hk
   ·split at hk
    ·obtain⟨h1,hk1⟩:=AA.1 hk;have h1:=Nat.eq_of_beq_eq_true h1;subst h1;refine⟨id,ag,sz',rows,kk,o,hk1,hid,fun hσ hr=>hr.2.2 (by rw[hσ,hid];rfl)⟩
    ·exact hk.elim
   ·exact hk.elim
  ·exact hk.elim
 ·exact hk.elim
theorem Zy (hti:Ay C.P ti) (h1:BH ti) (t:TypeId) (x:Operand) (ho:o.op= .load t x) (hk:Jw ti t (AX ti s 0 x) h k):∃out,k out∧BN C o fresh s h out:=by
 unfold Jw at hk;obtain⟨i,hi,hk⟩:=AF.1 hk;obtain⟨id,ag,sz,rows,kk,oo,hk,hid,hpl⟩:=I8 hk;obtain⟨r,hr,hk⟩:=hk;obtain⟨hle,hk⟩:=AA.1 hk;refine⟨_,hk,AE fun F σs σh g a w R hs hrd=>?_⟩
 have hσ:=hrd id (by simp)
 obtain⟨b,hb,hu⟩:=hpl hσ (AI ti 0 x R (s:=s) (fun k hk=>hs k (by subst hk;simp[ho,Op.operands])))
 obtain⟨v,hv,hrel⟩:=YV hti h1 hi R (hσ.trans hid) hr hb (Nat.le_of_ble_eq_true hle);exact⟨v,by simp only[execOp,ho,hu];exact BX hv,hrel⟩
theorem YW (hti:Ay C.P ti) (t:TypeId) (x y:Operand) (ho:o.op= .store t x y) (hd:o.dst=none) (hk:IY ti t (AX ti s 0 x) (AX ti s t y) h k):∃out,k out∧BN C o fresh s h out:=by
 unfold IY at hk;obtain⟨i,hi,hk⟩:=AF.1 hk;obtain⟨yv,hyv,hk⟩:=Cb.1 hk;split at hk
 ·rename_i d hnorm;obtain⟨hlen,hk⟩:=AA.1 hk;have hlen:=Nat.eq_of_beq_eq_true hlen;obtain⟨id,ag,sz,rows,kk,oo,hk,hid,hpl⟩:=I8 hk;obtain⟨r,hr,hk⟩:=hk;obtain⟨hle,rows',hrows,hk⟩:=AA.1 hk;have hle:=Nat.le_of_ble_eq_true hle;refine⟨_,hk,?_⟩
  rintro F σs σh a w Q ⟨g,R⟩ hs hrd hF _
  have hσ:=hrd id (by simp)
  obtain⟨b,hb,hu⟩:=hpl hσ (AI ti 0 x R (s:=s) (fun k hk=>hs k (by subst hk;simp[ho,Op.operands])))
  have hy:=AI ti t y R (s:=s) (fun k hk=>hs k (by subst hk;simp[ho,Op.operands]))
  rw[hyv]at hy;have hy:=Ah.norm (show Ah w _ g σh yv (a.eval y)from hy)
  rw[hnorm]at hy;have hy:AZ w (Av (zone g σh) C.X) d (a.eval y):=hy;obtain⟨c1,c2⟩:=hy.cellsOf
  have hda:∀x∈d.cells,x.isAgg=false:=by
   intro x hx;obtain⟨j,hj⟩:=List.mem_iff_getElem?.1 hx;have hlt:=(List.getElem?_eq_some_iff.1 hj).1;exact (c2 j x ((a.eval y).cells[j]'(by omega)) hj (by simp)).2
  have hone:∀v∈(a.eval y).cells.toList,v.oneCell'=true:=by
   intro v hv;obtain⟨j,hj⟩:=List.mem_iff_getElem?.1 hv;have hlt:=(List.getElem?_eq_some_iff.1 hj).1;simp at hlt hj;obtain⟨q1,q2⟩:=c2 j (d.cells[j]'(by omega)) v (by simp) (by simpa using hj)
   exact q1.BR q2
  obtain⟨c,e,p1,p2,R'⟩:=R.ZV (o:=oo) (rows':=rows') (hσ.trans hid) hr hb (ds:=d.cells) (vals:=(a.eval y).cells.toList) (by simpa using c1) (by omega) (fun j x u h1 h2=>(c2 j x u h1 (by simpa using h2)).1) hda (by rw[hlen];exact hrows)
  unfold Oper.wp;rw[My hti hi ho hu p1 (by rw[c1,hlen]) (by simp at p2;omega) hone]
  exact⟨g,(R'.put (dst:=o.dst) (v:=.u) (u:=undef) (fun d e=>by rw[hd]at e;cases e) trivial).Af (fun n hn=>(hn:F n∧_).1)⟩
 ·exact hk.elim
theorem YX (hti:Ay C.P ti) (t:TypeId) (x:Operand) (f:Nat) (ho:o.op= .fieldAddr t x f) (hk:F5 ti t (AX ti s 0 x) f h k):∃out,k out∧BN C o fresh s h out:=by
 unfold F5 at hk;obtain⟨i,hi,hk⟩:=AF.1 hk;split at hk
 ·rename_i fs hfs;split at hk
  ·rename_i fd hfd;obtain⟨j,hj,hk⟩:=AF.1 hk;obtain⟨hpos,hk⟩:=AA.1 hk
   have hpos:j.size≠0:=by
    have:0<j.size:=by simpa using hpos
    omega
   obtain⟨id,ag,sz,rows,kk,oo,hk,hid,hpl⟩:=I8 hk;refine⟨_,hk,AE fun F σs σh g a w R hs hrd=>?_⟩
   have hσ:=hrd id (by simp)
   obtain⟨b,hb,hu⟩:=hpl hσ (AI ti 0 x R (s:=s) (fun k hk=>hs k (by subst hk;simp[ho,Op.operands])))
   refine⟨.pointer (some ⟨b,kk*sz+oo+fd.offset,none⟩),?_,rfl,(R.heap.objs id _ (hσ.trans hid)).1,fun _=>⟨b,hb,by rw[Nat.add_assoc]⟩⟩
   have h1:=Cp hti hi w;rw[hfs]at h1;have h2:=Dr hti hj w;simp only[execOp,ho,hu];refine BX ?_;simp[Instr.fieldAt,h1,hfd,Instr.sureAddr,fieldPlace,h2,hpos,BV]
  ·exact hk.elim
 ·exact hk.elim
theorem Holds.YB {w:World}{sz:Nat}{v:Value}{n:Nat}{xs:List Value}(h:Holds w .flat sz v n xs):Holds w .row sz v n xs:=h
theorem Holds.toFlat {w:World}{sz:Nat}{v:Value}{n:Nat}{xs:List Value}(h:Holds w .row sz v n xs):Holds w .flat sz v n xs:=h
theorem YY (hti:Ay C.P ti) (t:TypeId) (x y:Operand) (ho:o.op= .indexAddr t x y) (hk:F7 C.M ti t (AX ti s t x) (AX ti s 3 y) h k):∃out,k out∧BN C o fresh s h out:=by
 unfold F7 at hk;obtain⟨q,n,hyv,hk⟩:=CH.1 hk;obtain⟨i,hi,hk⟩:=AF.1 hk;split at hk
 ·rename_i e hdesc;obtain⟨j,hj,hk⟩:=AF.1 hk;obtain⟨id,ag,sz,rows,hk,hid,hrel⟩:=NG hk;obtain⟨hsz,hlk,hk⟩:=AA.1 hk;obtain⟨h0,hlt⟩:=(C.M.lock_iff _).1 hlk;have hsz:=Nat.eq_of_beq_eq_true hsz;refine⟨_,hk,AE fun F σs σh g a w R hs hrd=>?_⟩
  have hσ:=hrd id (by simp)
  have hv:=hrel hσ (AI ti t x R (s:=s) (fun k hk=>hs k (by subst hk;simp[ho,Op.operands])))
  have hn:=AI ti 3 y R (s:=s) (fun k hk=>hs k (by subst hk;simp[ho,Op.operands]))
  rw[hyv]at hn;have hn:=Ey hn;obtain⟨ht,h0',hf,xs,hx,_⟩:=Jv (R.heap.objs id _ (hσ.trans hid));obtain⟨A,cap,hg,hcap,hmax,hA⟩:=hx.YB.row;obtain⟨b,rfl⟩:=hA (by omega)
  rw[hg]at hv;refine⟨.pointer (some ⟨b,n.toNat*sz,none⟩),?_,rfl,ht,fun _=>⟨b,by rw[hg];rfl,by simp⟩⟩
  have h1:=Cp hti hi w;rw[hdesc]at h1;have h2:=Dr hti hj w;have h3:0≤n∧n<(rows.length:Int):=by omega
  simp only[execOp,ho];refine BX ?_;simp[Instr.indexAt,asIntOf,h1,h2,hv,hn,h3,BV,Instr.sureAddr,hsz]
 ·exact hk.elim
theorem nM (hti:Ay C.P ti) (t:TypeId) (x:Operand) (ho:o.op= .call {callee:=.builtin .len,args:=#[x],argTypes:=#[t]}) (hk:Jx C.M ti t (AX ti s t x) h k):∃out,k out∧BN C o fresh s h out:=by
 unfold Jx at hk;obtain⟨i,hi,hk⟩:=AF.1 hk;split at hk
 ·rename_i e hdesc;obtain⟨id,ag,sz,rows,hk,hid,hrel⟩:=NG hk;obtain⟨z,hz,hk⟩:=hk;refine⟨_,hk,AE fun F σs σh g a w R hs hrd=>?_⟩
  have hσ:=hrd id (by simp)
  have hv:=hrel hσ (AI ti t x R (s:=s) (fun k hk=>hs k (by subst hk;simp[ho,Op.operands,Call.operands])))
  obtain⟨ht,h0',hf,xs,hx,_⟩:=Jv (R.heap.objs id _ (hσ.trans hid));obtain⟨A,cap,hg,_⟩:=hx.YB.row;rw[hg]at hv;rw[←hz,C.M.lenI_eq];refine⟨.int .i64 rows.length,?_,.int _ _⟩;have h1:=Cp hti hi w;rw[hdesc]at h1;simp[execOp,ho,resolve,invoke,builtin,Builtin.len_,h1,hv,goInt]
 ·exact hk.elim
structure AAf (w:World) (X Z:Ak) (g:AP) (σh:Heap) (ag:Bool) (sz:Nat) (ids:List Id) (rows:List D) (u:Value):Prop where
 whole:∀i∈ids,∃ob,σh i=some ob∧B4 ob
 own:(∀r∈rows,r.fits ag sz)∧∃xs,Holds w .flat sz u rows.length xs∧(∀(i:Nat) r (j:Nat) c,rows[i]?=some r→r.cells[j]?=some c→∃u,xs[i*sz+j]?=some u∧AZ w (Av (zone g σh) X) c u)∧(∀b,blk u=some b→∃i∈ids,Bc (g i) b)
theorem nN {x:AV}{ag:Bool}{sz:Nat}{K:List Id→List D→Prop}(hk:Zx x h ag sz K):
  ∃ids rows,K ids rows∧ids.Nodup∧∀{w:World} {X:Ak} {g:AP} {σh:Heap} {u:Value},DA w X g σh→(∀i∈ids,σh i=h i)→An w (Av (zone g σh) X) g σh x u→AAf w X (zone g σh) g σh ag sz ids rows u:=by
 unfold Zx at hk;split at hk
 ·refine⟨[],[],hk,List.nodup_nil,fun _ _ hr=>⟨by simp,by simp,[],?_⟩⟩
  rw[show _=_ from hr]
  exact⟨⟨0,World.ownsRow_nil _ 0 0 sz⟩,by simp,by simp[blk]⟩
 ·rename_i i;split at hk
  ·rename_i kd ag' sz' rows foc hid;split at hk
   ·split at hk
    ·obtain⟨h1,hk1⟩:=AA.1 hk;obtain⟨h2,hk2⟩:=AA.1 hk1;have h1:ag'=ag:=by simpa using h1
     have h2:=Nat.eq_of_beq_eq_true h2;subst h1;subst h2;refine⟨[i],rows,hk2,by simp,fun RH he hr=>?_⟩
     have hσ:=he i (by simp)
     have hv:=hr.2.2 (by rw[hσ,hid];rfl)
     obtain⟨ht,h0',hf,xs,hx,hc,hb⟩:=Jv (RH.objs i _ (hσ.trans hid));refine⟨fun j hj=>?_,hf,xs,by rw[hv];exact hx,hc,fun b hbb=>⟨i,by simp,(hb b).2 (by rw[←hv];exact hbb)⟩⟩
     obtain rfl:j=i:=by simpa using hj
     exact⟨_,hσ.trans hid,trivial⟩
    ·split at hk
     ·obtain⟨h1,hk1⟩:=AA.1 hk;obtain⟨h2,hk2⟩:=AA.1 hk1;have h1:ag'=ag:=by simpa using h1
      have h2:=Nat.eq_of_beq_eq_true h2;subst h1;subst h2;refine⟨[i],[],hk2,by simp,fun RH he hr=>?_⟩
      have hσ:=he i (by simp)
      have hv:=hr.2.2 (by rw[hσ,hid];rfl)
      obtain⟨ht,h0',hf,xs,hx,_,U,T,h1,h2,h3,h4,h5⟩:=RH.objs i _ (hσ.trans hid);refine⟨fun j hj=>?_,by simp,xs,by rw[hv];exact hx.toFlat,by simp,fun b hbb=>⟨i,by simp,(h5 b).2 (.inl (by rw[←hv];exact hbb))⟩⟩
      obtain rfl:j=i:=by simpa using hj
      exact⟨_,hσ.trans hid,trivial⟩
     ·exact hk.elim
    ·exact hk.elim
   ·exact hk.elim
  ·exact hk.elim
 ·exact hk.elim
theorem Sl (hti:Ay C.P ti) (h1:BH ti) (t:TypeId) (x y:Operand) (ho:o.op= .call {callee:=.builtin .append,args:=#[x,y],argTypes:=#[t,t]}) (hk:HP C.M ti t (AX ti s t x) (AX ti s t y) fresh h k):∃out,k out∧BN C o fresh s h out:=by
 unfold HP at hk;obtain⟨q,hq,hk⟩:=AF.1 hk;split at hk
 ·rename_i e hd;obtain⟨j,hj,hk⟩:=AF.1 hk;obtain⟨hsz,hk⟩:=AA.1 hk;have hsz:0<j.size:=by simp_all
  obtain⟨ids,rows,hk,hnd,hold⟩:=nN hk;obtain⟨ag',sz',ys,hyrel,hk1⟩:=En hk;obtain⟨e1,hk2⟩:=AA.1 hk1;obtain⟨e2,hk3⟩:=AA.1 hk2;have e1:ag'=AR j.desc:=by simpa using e1
  have e2:=Nat.eq_of_beq_eq_true e2;subst e1;subst e2;obtain⟨hlk,out,rfl,hk⟩:=hk3;obtain⟨hmax,hbytes⟩:=(C.M.lock_iff _).1 hlk;refine⟨_,hk,?_⟩
  rintro F σs σh a w Q ⟨g,R⟩ hs hrd hF hdst
  have hx:=AI ti t x R (s:=s) (fun k hk=>hs k (by subst hk;simp[ho,Op.operands,Call.operands]))
  have hy:=AI ti t y R (s:=s) (fun k hk=>hs k (by subst hk;simp[ho,Op.operands,Call.operands]))
  obtain⟨w1,hf,xs,p1,p2,p4⟩:=hold R.heap (fun i hi=>hrd i hi) hx
  have hyd:=hyrel hy;obtain⟨A,cap,hv,_⟩:=Jp hyd;rw[hv]at hyd;obtain⟨_,_,_,hA,hfy,news,n1,n2,n3,n4⟩:=hyd.GQ hsz
  have q2:0<ys.length→∃bb oo,A=some ⟨bb,oo,none⟩∧∀(k:Nat) u,news[k]?=some u→w.cell? ⟨bb,oo+k,none⟩=some u:=by
   intro h0;obtain⟨b,o,rfl⟩:=hA (fun e=>by simp_all)
   grind
  obtain⟨v',w',hrun,r1,r2,r3,r4⟩:=Ez hti (ty:=o.type) hq hd hj hsz p1.YB (B:=A) (c:=cap) n1 q2 n2 hmax hbytes;have hlx:xs.length=rows.length*j.size:=p1.len
  have hlt:∀b,(∃i∈ids,Bc (g i) b)→b<w.heap.size:=by
   rintro b ⟨i,hi,hb⟩
   obtain⟨ob,o1,o2⟩:=w1 i hi;exact (R.heap.objs i ob o1).lt (o2.HA hb)
  obtain⟨g',R',hrel⟩:=R.SC (T0:=ids) w1 (n:=fresh) (hF 0 (by omega)) r2 (fun b hb hn=>r3 b hb fun he=>by
    grind) (kd:=.flat) (ag:=AR j.desc) (sz:=j.size) (out:=rows++ys) (v:=v') (fun b=>blk v'=some b) (blk v').toList (fun b hb=>by simp[hb]) (fun b hb=>by
     grind) r1.BR
   (fun Z' g' h' gv gt gg gb hmono=>Qb gt hsz (fun r hr=>by
     grind) (xs:=xs++news) (by rw[gg,List.length_append];exact r1.toFlat) (fun i r q c hi hc=>by
     have hq:q<j.size:=by
      have hfit:r.fits (AR j.desc) j.size:=by
       grind
      rw[←hfit.2.1];grind
     by_cases hil:i<rows.length
     ·grind
     ·rw[List.getElem?_append_right (by omega)]at hi
      obtain⟨u,u1,u2⟩:=n4 (i - rows.length) r q c hi hc;refine⟨u,?_,hmono u2⟩
      have e3:i*j.size+q=rows.length*j.size+((i - rows.length)*j.size+q):=by
       rw[Nat.sub_mul];have:=Nat.mul_le_mul_right j.size (show rows.length≤i by omega)
       omega
      rw[e3,List.getElem?_append_right (by omega),hlx,Nat.add_sub_cancel_left]
      exact u1) (fun b=>by rw[gb,gg]))
  unfold Oper.wp;rw[B7 (r:=.ok v' w') ho (by rw[hv];exact hrun)]
  rw[show Az σh (Aj ids++[(.loc fresh,.tree .flat (AR j.desc) j.size (rows++ys) none)])=AK (Az σh (Aj ids)) (.loc fresh) (.tree .flat (AR j.desc) j.size (rows++ys) none)from Cs]
  exact⟨g',(R'.put hdst (v:=.v (.c (.ow (.loc fresh)))) hrel).Af (fun n hn=>⟨hn.1,fun e=>hn.2 (by omega)⟩)⟩
 ·exact hk.elim
end
end Go.AM
namespace Go.AM
open Go Go.RowKit
section
variable {C:Cx}{F:Nat→Prop}{s:AL}{h h':Heap}{g:AP}{a:Act}{w w':World}
end
section
variable {C:Cx}{ti:Types}{o:Oper}{fresh:Nat}{s:AL}{h:Heap}{k:Out→Prop}
def Zz (x:AV) (h:Heap):Bool:=
 match x with
 | .v (.c (.ow i))=>(match h i with
  | some (.pmap ..)=>true
  | _=>false)
 | _=>false
def Z1 (ti:Types) (t:TypeId):Bool:=
 match ti t with
 | some q=>(match q.desc with
  | .map _ et=>(match ti et with
   | some j=>(match j.desc with
    | .pointer _=>true
    | _=>false)
   | none=>false)
  | _=>false)
 | none=>false
def Sm (x:AV) (h:Heap):Bool:=
 match x with
 | .v (.c (.ptr i _))=>(match h i with
  | some (.arr ..)=>true
  | _=>false)
 | .v (.c (.ap i _ _ _ _))=>(match h i with
  | some (.arr ..)=>true
  | _=>false)
 | _=>false
end
end Go.AM
namespace Go.AM
open Go Go.RowKit
def qR (h:Heap) (i:Id):Bool:=
 match h i with
 | some (.fnl _ _ _)=>true
 | _=>false
def Lh (x:AV) (h:Heap):Bool:=
 match x with
 | .v (.c (.op i _ _ _))=>qR h i
 | .v (.c (.ow i))=>qR h i
 | _=>false
def withFn (x:AV) (h:Heap) (K:Id→Nat→List FC→List D→Prop):Prop:=
 match x with
 | .v (.c (.ow id))=>match h id with
  | some (.fnl f cs rows)=>K id f cs rows
  | _=>False
 | _=>False
def HQ (ti:Types) (t:TypeId) (x:AV) (h:Heap) (k:Out→Prop):Prop:=
 Ao ti t fun i=>match x with
 | .v (.c (.op id sz kk o))=>match h id with
  | some (.fnl f cs rows)=>BJ (Nat.beq sz 1)<| BJ (Nat.beq o 0)<| BJ (Nat.beq i.size 1)<| BJ (AR i.desc==false)<| ∃r,rows[kk]?=some r∧k ⟨.v (.c (.fz f (fill cs r.cells))),[id],[]⟩
  | _=>False
 | _=>False
def GA (M:Aw) (ti:Types) (t:TypeId) (x i:AV) (h:Heap) (k:Out→Prop):Prop:=
 DD i fun _ n=>Ao ti t fun q=>
 match q.desc with
 | .slice e=>Ao ti e fun j=>withFn x h fun id _ _ rows=>BJ (Nat.beq j.size 1)<| (M.lock fun _=>0≤n∧n.toNat<rows.length)∧k ⟨.v (.c (.op id 1 n.toNat 0)),[id],[]⟩
 | _=>False
def Jy (M:Aw) (ti:Types) (t:TypeId) (x:AV) (h:Heap) (k:Out→Prop):Prop:=
 Ao ti t fun q=>match q.desc with
 | .slice _=>withFn x h fun id _ _ rows=>∃z:Int,M.lenI rows=z∧k ⟨.v (.d (.int .i64 z)),[id],[]⟩
 | _=>False
def Z2 (x:AV) (h:Heap) (f:Nat) (cs:List FC) (K:List Id→List D→Prop):Prop:=
 match x with
 | .v (.c (.nils _ _))=>K [] []
 | .v (.c (.ow i))=>match h i with
  | some (.fnl f' cs' rows)=>f'=f∧cs'=cs∧K [i] rows
  | _=>False
 | _=>False
def E3 (M:Aw) (ti:Types) (t:TypeId) (x y:AV) (fresh:Nat) (h:Heap) (k:Out→Prop):Prop:=
 Ao ti t fun q=>match q.desc with
 | .slice e=>Ao ti e fun j=>BJ (Nat.beq j.size 1)<| withFn y h fun id f cs ys=>Z2 x h f cs fun ids rows=>BJ (nodupB (id::ids))<|
   (M.lock fun _=>rows.length+ys.length≤maxLen∧(rows.length+ys.length)*j.bytes≤140737488355328)∧∃out,rows++ys=out∧
    k ⟨.v (.c (.ow (.loc fresh))),id::ids,Aj (id::ids)++[(.loc fresh,.fnl f cs out)]⟩
 | _=>False
def Z3 (len fresh:Nat) (k:Out→Prop) (_:Bool) (sz:Nat) (xs:List CV):Prop:=
 BJ (Nat.ble len maxLen)<| BJ (Nat.beq sz 1)<| ∃f cs rows,xs=rows.map (fun r:D=>CV.fz f (fill cs r.cells))∧k ⟨.v (.c (.ow (.loc fresh))),[],[(.loc fresh,.fnl f cs rows)]⟩
def De (ti:Types) (s:AL) (t:TypeId) (len:Nat) (parts:List (Nat×Operand)) (fresh:Nat) (k:Out→Prop):Prop:=
 Ao ti t fun q=>match q.desc with
 | .slice e=>Ao ti e fun j=>BJ (Nat.ble (len*j.size) 16777216)<| BJ (Nat.beq parts.length len)<| BJ (Nat.blt 0 j.size)<| GS ti s e j.size 0 parts (Z3 len fresh k (AR j.desc) j.size)
 | _=>False
def AAg:AV→Bool
 | .v (.c (.fz _ _))=>true
 | _=>false
def qS (ti:Types) (s:AL):List (Nat×Operand)→Bool
 | (_,x)::_=>AAg (AX ti s 0 x)
 | []=>false
section
variable {C:Cx}{ti:Types}{o:Oper}{fresh:Nat}{s:AL}{h:Heap}{k:Out→Prop}
theorem I9 {x:AV}{K:Id→Nat→List FC→List D→Prop}(hk:withFn x h K):∃id f cs rows,K id f cs rows∧h id=some (.fnl f cs rows)∧
  ∀{w:World} {Z:Ak} {g:AP} {σh:Heap} {u:Value},σh id=h id→An w Z g σh x u→u=gval (g id):=by
 unfold withFn at hk;split at hk
 ·rename_i id;split at hk
  ·rename_i f cs rows hid;exact⟨id,f,cs,rows,hk,hid,fun hσ hr=>hr.2.2 (by rw[hσ,hid];rfl)⟩
  ·exact hk.elim
 ·exact hk.elim
theorem Z4 (hti:Ay C.P ti) (h1:BH ti) (t:TypeId) (x:Operand) (ho:o.op= .load t x) (hk:HQ ti t (AX ti s 0 x) h k):∃out,k out∧BN C o fresh s h out:=by
 unfold HQ at hk;obtain⟨i,hi,hk⟩:=AF.1 hk;split at hk
 ·rename_i id sz kk oo hop;split at hk
  ·rename_i f cs rows hid;replace hk:=AA.1 hk;obtain⟨e1,hk⟩:=hk;replace hk:=AA.1 hk;obtain⟨e2,hk⟩:=hk;replace hk:=AA.1 hk;obtain⟨e3,hk⟩:=hk;replace hk:=AA.1 hk;obtain⟨e4,r,hr,hk⟩:=hk;have e1:=Nat.eq_of_beq_eq_true e1;have e2:=Nat.eq_of_beq_eq_true e2;have e3:=Nat.eq_of_beq_eq_true e3;have e4:AR i.desc=false:=by simpa using e4
   subst e1;subst e2;refine⟨_,hk,AE fun F σs σh g a w R hs hrd=>?_⟩
   have hσ:=hrd id (by simp)
   have hu:=AI ti 0 x R (s:=s) (fun k hk=>hs k (by subst hk;simp[ho,Op.operands]))
   rw[hop]at hu;obtain⟨b,hb,hu⟩:=hu.2.2 (by rw[hσ,hid];rfl)
   obtain⟨ht,hbl,xs,hx,hrel⟩:=R.heap.objs id _ (hσ.trans hid);have hklt:=(List.getElem?_eq_some_iff.1 hr).1;have hl:=hx.len;obtain⟨u,hxu⟩:∃u,xs[kk]?=some u:=⟨_,List.getElem?_eq_getElem (by omega)⟩
   obtain⟨v,hv,_,hb'⟩:=CJ (P:=C.P) (w:=w) (vs:=#[u]) (b:=b) (q:=kk*1+0) hti h1 hi (by simp[e3]) (fun j u' hu'=>by
    cases j with
    | zero=>simp at hu';subst hu';have:=hx.cell rfl hb hxu;simpa using this
    | succ j=>simp at hu')
   have hvu:=hb' e4;obtain rfl:u=v:=by simpa using hvu
   exact⟨u,by simp only[execOp,ho,hu];exact BX hv,hrel kk r u hr hxu⟩
  ·exact hk.elim
 ·exact hk.elim
theorem YZ (hti:Ay C.P ti) (t:TypeId) (x y:Operand) (ho:o.op= .indexAddr t x y) (hk:GA C.M ti t (AX ti s t x) (AX ti s 3 y) h k):∃out,k out∧BN C o fresh s h out:=by
 unfold GA at hk;obtain⟨q,n,hyv,hk⟩:=CH.1 hk;obtain⟨i,hi,hk⟩:=AF.1 hk;split at hk
 ·rename_i e hdesc;obtain⟨j,hj,hk⟩:=AF.1 hk;obtain⟨id,f,cs,rows,hk,hid,hrel⟩:=I9 hk;obtain⟨hsz,hlk,hk⟩:=AA.1 hk;obtain⟨h0,hlt⟩:=(C.M.lock_iff _).1 hlk;have hsz:=Nat.eq_of_beq_eq_true hsz;refine⟨_,hk,AE fun F σs σh g a w R hs hrd=>?_⟩
  have hσ:=hrd id (by simp)
  have hv:=hrel hσ (AI ti t x R (s:=s) (fun k hk=>hs k (by subst hk;simp[ho,Op.operands])))
  have hn:=AI ti 3 y R (s:=s) (fun k hk=>hs k (by subst hk;simp[ho,Op.operands]))
  rw[hyv]at hn;have hn:=Ey hn;obtain⟨ht,hbl,xs,hx,_⟩:=R.heap.objs id _ (hσ.trans hid);obtain⟨A,cap,hg,hcap,hmax,hA⟩:=hx.row;obtain⟨b,rfl⟩:=hA (by omega)
  rw[hg]at hv;refine⟨.pointer (some ⟨b,n.toNat*1,none⟩),?_,rfl,ht,fun _=>⟨b,by rw[hg];rfl,by simp⟩⟩
  have h1:=Cp hti hi w;rw[hdesc]at h1;have h2:=Dr hti hj w;have h3:0≤n∧n<(rows.length:Int):=by omega
  simp only[execOp,ho];refine BX ?_;simp[Instr.indexAt,asIntOf,h1,h2,hv,hn,h3,BV,Instr.sureAddr,hsz]
 ·exact hk.elim
theorem nP (hti:Ay C.P ti) (t:TypeId) (x:Operand) (ho:o.op= .call {callee:=.builtin .len,args:=#[x],argTypes:=#[t]}) (hk:Jy C.M ti t (AX ti s t x) h k):∃out,k out∧BN C o fresh s h out:=by
 unfold Jy at hk;obtain⟨i,hi,hk⟩:=AF.1 hk;split at hk
 ·rename_i e hdesc;obtain⟨id,f,cs,rows,hk,hid,hrel⟩:=I9 hk;obtain⟨z,hz,hk⟩:=hk;refine⟨_,hk,AE fun F σs σh g a w R hs hrd=>?_⟩
  have hσ:=hrd id (by simp)
  have hv:=hrel hσ (AI ti t x R (s:=s) (fun k hk=>hs k (by subst hk;simp[ho,Op.operands,Call.operands])))
  obtain⟨ht,hbl,xs,hx,_⟩:=R.heap.objs id _ (hσ.trans hid);obtain⟨A,cap,hg,_⟩:=hx.row;rw[hg]at hv;rw[←hz,C.M.lenI_eq];refine⟨.int .i64 rows.length,?_,.int _ _⟩;have h1:=Cp hti hi w;rw[hdesc]at h1;simp[execOp,ho,resolve,invoke,builtin,Builtin.len_,h1,hv,goInt]
 ·exact hk.elim
structure FnL (w:World) (X:Ak) (g:AP) (σh:Heap) (f:Nat) (cs:List FC) (ids:List Id) (rows:List D) (u:Value):Prop where
 whole:∀i∈ids,∃ob,σh i=some ob∧B4 ob
 own:∃xs,Holds w .row 1 u rows.length xs∧(∀(i:Nat) r u,rows[i]?=some r→xs[i]?=some u→Es w (Av (zone g σh) X) g f (fill cs r.cells) u)∧(∀b,blk u=some b→∃i∈ids,Bc (g i) b)
theorem Z5 {w:World}{X:Ak}{g:AP}{σh:Heap}{f:Nat}{cs:List FC}{rows:List D}{i:Id}{u:Value}(RH:DA w X g σh) (hσ:σh i=some (.fnl f cs rows)) (hv:u=gval (g i)):FnL w X g σh f cs [i] rows u:=by
 obtain⟨ht,hb,xs,hx,hc⟩:=RH.objs i _ hσ;refine⟨fun j hj=>?_,xs,by rw[hv];exact hx,hc,fun b hbb=>⟨i,by simp,(hb b).2 (by rw[←hv];exact hbb)⟩⟩
 obtain rfl:j=i:=by simpa using hj
 exact⟨_,hσ,trivial⟩
theorem nQ {x:AV}{f:Nat}{cs:List FC}{K:List Id→List D→Prop}(hk:Z2 x h f cs K):
  ∃ids rows,K ids rows∧∀{w:World} {X:Ak} {g:AP} {σh:Heap} {u:Value},DA w X g σh→(∀i∈ids,σh i=h i)→An w (Av (zone g σh) X) g σh x u→FnL w X g σh f cs ids rows u:=by
 unfold Z2 at hk;split at hk
 ·refine⟨[],[],hk,fun _ _ hr=>⟨by simp,[],?_⟩⟩
  rw[show _=_ from hr]
  exact⟨⟨0,World.ownsRow_nil _ 0 0 1⟩,by simp,by simp[blk]⟩
 ·rename_i i;split at hk
  ·rename_i f' cs' rows hid;obtain⟨rfl,rfl,hk⟩:=hk;exact⟨[i],rows,hk,fun RH he hr=>Z5 RH ((he i (by simp)).trans hid) (hr.2.2 (by rw[he i (by simp),hid];rfl))⟩
  ·exact hk.elim
 ·exact hk.elim
theorem VL (hti:Ay C.P ti) (t:TypeId) (x y:Operand) (ho:o.op= .call {callee:=.builtin .append,args:=#[x,y],argTypes:=#[t,t]}) (hk:E3 C.M ti t (AX ti s t x) (AX ti s t y) fresh h k):∃out,k out∧BN C o fresh s h out:=by
 unfold E3 at hk;obtain⟨q,hq,hk⟩:=AF.1 hk;split at hk
 ·rename_i e hd;obtain⟨j,hj,hk⟩:=AF.1 hk;obtain⟨hsz,hk⟩:=AA.1 hk;have hsz:=Nat.eq_of_beq_eq_true hsz;obtain⟨id,f,cs,ys,hk,hid,hyrel⟩:=I9 hk;obtain⟨ids,rows,hk,hold⟩:=nQ hk;replace hk:=AA.1 hk;obtain⟨hnd,hlk,out,rfl,hk⟩:=hk;obtain⟨hmax,hbytes⟩:=(C.M.lock_iff _).1 hlk;have hnd:=CB.1 hnd;refine⟨_,hk,?_⟩
  rintro F σs σh a w Q ⟨g,R⟩ hs hrd hF hdst
  have hx:=AI ti t x R (s:=s) (fun k hk=>hs k (by subst hk;simp[ho,Op.operands,Call.operands]))
  have hy:=AI ti t y R (s:=s) (fun k hk=>hs k (by subst hk;simp[ho,Op.operands,Call.operands]))
  obtain⟨w1,xs,p1,p2,p4⟩:=hold R.heap (fun i hi=>hrd i (by simp[hi])) hx
  have hyσ:=(hrd id (by simp)).trans hid
  obtain⟨w2,news,q1,q2,q4⟩:=Z5 R.heap hyσ (hyrel (hrd id (by simp)) hy)
  obtain⟨A,cap,hv,hcap,hmx,hA⟩:=q1.row;have n1:news.length=ys.length*j.size:=by rw[hsz];exact q1.len
  have hB:0<ys.length→∃bb oo,A=some ⟨bb,oo,none⟩∧∀(k:Nat) u,news[k]?=some u→w.cell? ⟨bb,oo+k,none⟩=some u:=by
   intro h0;obtain⟨b,rfl⟩:=hA h0;refine⟨b,0,rfl,fun k u hu=>?_⟩
   have:=q1.cell rfl (b:=b) (by rw[hv];rfl) hu
   simpa using this
  have n2:∀u∈news,u.oneCell'=true:=by
   intro u hu;obtain⟨k,hk⟩:=List.mem_iff_getElem?.1 hu;have hlt:=(List.getElem?_eq_some_iff.1 hk).1;have hl:=q1.len;obtain⟨ps,rfl,_⟩:=q2 k (ys[k]'(by omega)) u (List.getElem?_eq_getElem (by omega)) hk
   rfl
  have p1':Holds w .row j.size (a.eval x) rows.length xs:=by rw[hsz];exact p1
  obtain⟨v',w',hrun,r1,r2,r3,r4⟩:=Ez hti (ty:=o.type) hq hd hj (by omega) p1' (B:=A) (c:=cap) n1 hB n2 hmax hbytes
  have hlx:xs.length=rows.length:=by have:=p1.len;omega
  have hw:∀i∈id::ids,∃ob,σh i=some ob∧B4 ob:=by
   simp_all
  obtain⟨g',R',hrel⟩:=R.Ke (T0:=id::ids) hw (n:=fresh) (hF 0 (by omega)) r2 (fun b hb hn=>r3 b hb fun he=>by
    grind) (ob:=.fnl f cs (rows++ys)) (fun _ _ _ h=>h) (v:=v') (fun b=>blk v'=some b) (blk v').toList (fun b hb=>by simp[hb]) (fun b hb=>by
     grind) r1.BR
   (fun Z' g' h' gv gt gg gb E=>⟨gt,fun b=>by rw[gb,gg],xs++news,by simp_all,fun k r u hr hu=>by
     by_cases hkl:k<rows.length
     ·rw[List.getElem?_append_left hkl]at hr;rw[List.getElem?_append_left (by omega)]at hu
      exact E.ZU (p2 k r u hr hu)
     ·rw[List.getElem?_append_right (by omega)]at hr
      rw[List.getElem?_append_right (by omega),hlx]at hu
      exact E.ZU (q2 _ r u hr hu)⟩)
  unfold Oper.wp;rw[B7 (r:=.ok v' w') ho (by rw[hv];exact hrun)]
  rw[show Az σh (Aj (id::ids)++[(.loc fresh,.fnl f cs (rows++ys))])=AK (Az σh (Aj (id::ids))) (.loc fresh) (.fnl f cs (rows++ys))from Cs]
  exact⟨g',(R'.put hdst (v:=.v (.c (.ow (.loc fresh)))) hrel).Af (fun n hn=>⟨hn.1,fun e=>hn.2 (by omega)⟩)⟩
 ·exact hk.elim
theorem NH (hti:Ay C.P ti) (t:TypeId) (len:Nat) (parts:Array (Nat×Operand)) (ho:o.op= .buildSlice t len parts) (hk:De ti s t len parts.toList fresh k):∃out,k out∧BN C o fresh s h out:=by
 obtain⟨e,j,xs,hj,hsz,hk',hyl,hle,H⟩:=EZ (C:=C) (K:=Z3 len fresh k) hti t len parts ho hk;replace hk':=AA.1 hk';obtain⟨hmx,hk'⟩:=hk';replace hk':=AA.1 hk';obtain⟨hs1,f,cs,rows,rfl,hk2⟩:=hk';have hmx:=Nat.le_of_ble_eq_true hmx;have hs1:=Nat.eq_of_beq_eq_true hs1;refine⟨_,hk2,?_⟩
 rintro F σs σh a w Q ⟨g,R⟩ hs hrd hF hdst
 obtain⟨vs,hrun,h2⟩:=H F σs σh g a w R hs;have hl0:rows.length=len:=by simp_all
 have hl1:vs.size=len*1:=by have:=h2.1;simp at this;omega
 have hho:Holds (w.alloc (.cells vs e)) .row 1 (.slice (some ⟨w.heap.size,0,none⟩) len len) rows.length vs.toList:=by
  rw[hl0];refine⟨e,by simp[hl1],.inr ⟨w.heap.size,len,vs,rfl,Nat.zero_le _,heap_alloc_new w _,Nat.le_refl _,hmx,hl1,?_⟩⟩
  exact List.take_of_length_le (by simp[hl1])
 obtain⟨g',R',hrel⟩:=R.Ke (T0:=[]) (by simp) (n:=fresh) (w':=w.alloc (.cells vs e)) (hF 0 (by omega)) ⟨rfl,rfl,rfl,by simp⟩ (fun b hb _=>Below.heap_alloc w _ b hb) (ob:=.fnl f cs rows) (fun _ _ _ h=>h)
  (v:=.slice (some ⟨w.heap.size,0,none⟩) len len) (fun b=>b=w.heap.size) [w.heap.size] (fun b hb=>by simp[hb]) (fun b hb=>.inr (by omega)) rfl
  (fun Z' g' h' gv gt gg gb E=>⟨gt,fun b=>by rw[gb,gg];simp[blk];exact eq_comm,vs.toList,by rw[gg];exact hho,fun k r u hr hu=>
   E.ZU (h2.2 k (.fz f (fill cs r.cells)) u (by simp_all) (by simpa using hu))⟩)
 unfold Oper.wp;rw[hrun];rw[show Az σh [(.loc fresh,.fnl f cs rows)]=AK (Az σh (Aj [])) (.loc fresh) (.fnl f cs rows)from rfl]
 exact⟨g',(R'.put hdst (v:=.v (.c (.ow (.loc fresh)))) hrel).Af (fun n hn=>⟨hn.1,fun e=>hn.2 (by omega)⟩)⟩
end
end Go.AM
namespace Go.AM
open Go Go.RowKit
def Z6:AV→Bool
 | .v (.d (.str _))=>true
 | _=>false
section
variable {C:Cx}{ti:Types}{o:Oper}{fresh:Nat}{s:AL}{h:Heap}{k:Out→Prop}
end
end Go.AM
namespace Go.AM
open Go Go.RowKit
section
variable {C:Cx}{ti:Types}{o:Oper}{fresh:Nat}{s:AL}{h:Heap}{k:Out→Prop}
theorem EI {F:Nat→Prop}{σs:AL}{σh:Heap}{g:AP}{a:Act}{w:World}(R:AY C F σs σh g a w):
  ∀(l:List Operand) (ts:List TypeId) (xs:List V1),(∀t,Operand.tmp t∈l→σs t=s t)→G5 (Bn ti s l ts)=some xs→
   xs.length=l.length∧∀(j:Nat) x p,xs[j]?=some x→l[j]?=some p→Ah w (Av (zone g σh) C.X) g σh x (a.eval p)
 | [],ts,xs,_,he=>by
  have:xs=[]:=by cases ts<;>simpa [Bn,G5] using he.symm
  simp_all
 | p::l,ts,xs,hs,he=>by
  have main:∀(t:TypeId) (ts':List TypeId),G5 (AX ti s t p::Bn ti s l ts')=some xs→
    xs.length=(p::l).length∧∀(j:Nat) x q,xs[j]?=some x→(p::l)[j]?=some q→Ah w (Av (zone g σh) C.X) g σh x (a.eval q):=by
   intro t ts' he;unfold G5 at he;split at he
   ·rename_i e;simp at e
   ·rename_i y r e;simp at e;obtain⟨e1,rfl⟩:=e;split at he
    ·rename_i l' hl';simp at he;subst he;obtain⟨h1,h2⟩:=EI R l ts' l' (fun t ht=>hs t (List.mem_cons_of_mem _ ht)) hl'
     refine⟨by simp[h1],fun j x q hx hq=>?_⟩
     match j with
     | 0=>
      simp at hx hq;subst hx;subst hq;have:=AI ti t p R (s:=s) (fun k hk=>hs k (by simp[hk]))
      rw[e1]at this;exact Ah.norm this
     | j+1=>grind
    ·simp at he
   ·simp at he
  match ts with
  | []=>exact main 0 [] he
  | t::ts'=>exact main t ts' he
theorem Jz {F:Nat→Prop}{σs:AL}{σh:Heap}{g:AP}{a:Act}{w:World}(R:AY C F σs σh g a w):
  ∀(l:List Operand) (ts:List TypeId) (xs:List V1),(∀t,Operand.tmp t∈l→σs t=s t)→It (Bn ti s l ts)=some xs→
   xs.length=l.length∧∀(j:Nat) x p,xs[j]?=some x→l[j]?=some p→Ah w (Av (zone g σh) C.X) g σh x (a.eval p)
 | [],ts,xs,_,he=>by
  have:xs=[]:=by cases ts<;>simpa [Bn,It] using he.symm
  simp_all
 | p::l,ts,xs,hs,he=>by
  have main:∀(t:TypeId) (ts':List TypeId),It (AX ti s t p::Bn ti s l ts')=some xs→
    xs.length=(p::l).length∧∀(j:Nat) x q,xs[j]?=some x→(p::l)[j]?=some q→Ah w (Av (zone g σh) C.X) g σh x (a.eval q):=by
   intro t ts' he;unfold It at he;split at he
   ·rename_i e;simp at e
   ·rename_i y r e;simp at e;obtain⟨e1,rfl⟩:=e;split at he
    ·rename_i l' hl';simp at he;subst he;obtain⟨h1,h2⟩:=Jz R l ts' l' (fun t ht=>hs t (List.mem_cons_of_mem _ ht)) hl'
     refine⟨by simp[h1],fun j x q hx hq=>?_⟩
     match j with
     | 0=>
      simp at hx hq;subst hx;subst hq;have:=AI ti t p R (s:=s) (fun k hk=>hs k (by simp[hk]))
      rw[e1]at this;exact this
     | j+1=>grind
    ·simp at he
   ·simp at he
  match ts with
  | []=>exact main 0 [] he
  | t::ts'=>exact main t ts' he
theorem Df {F:Nat→Prop}{σs:AL}{σh:Heap}{g:AP}{a:Act}{w:World}(R:AY C F σs σh g a w)
  (l:List Operand) (ts:List TypeId) (xs:List V1) (hs:∀t,Operand.tmp t∈l→σs t=s t) (h:XH (Bn ti s l ts) xs):
   xs.length=l.length∧∀(j:Nat) x p,xs[j]?=some x→l[j]?=some p→Ah w (Av (zone g σh) C.X) g σh x (a.eval p):=by
 rcases h with h | h
 ·exact EI R l ts xs hs h
 ·exact Jz R l ts xs hs h
theorem AFm (c:Call) (f:Operand) (ho:o.op= .call c) (hc:c.callee= .value f)
  (hk:tU C.M (AX ti s 0 f) (Bn ti s c.args.toList c.argTypes.toList) k):∃out,k out∧BN C o fresh s h out:=by
 unfold tU at hk;split at hk
 ·rename_i n cap hop;split at hk
  ·split at hk
   ·rename_i xs hxs;split at hk
    ·rename_i x y cc;obtain⟨hl,z,u,rfl,rfl,hk⟩:=hk;obtain⟨⟨fn,f1,f2,f3,f4,f5⟩,b1,b2,b3,b4⟩:=(C.M.lock_iff _).1 hl;refine⟨_,hk,AE fun F σs σh g a w R hs _=>?_⟩
     have hf:=AI ti 0 f R (s:=s) (fun k hk=>hs k (by subst hk;simp[ho,hc,Op.operands,Call.operands]))
     rw[hop]at hf;obtain⟨hfv,_⟩:=hf;obtain⟨h1,h2⟩:=EI (ti:=ti) R c.args.toList c.argTypes.toList _ (fun t ht=>hs t (by simp[ho,hc,Op.operands,Call.operands];right;simpa using ht)) hxs
     have hsz:c.args.size=3:=by simpa using h1.symm
     obtain⟨p0,p1,p2,hargs⟩:∃p0 p1 p2,c.args=#[p0,p1,p2]:=by
      refine⟨c.args[0],c.args[1],c.args[2],?_⟩;grind
     rw[hargs]at h2;have q0:a.eval p0= .int .u64 x:=by have:AZ w _ _ _:=h2 0 _ p0 rfl rfl;exact Ey (g:=g) (h:=σh) this
     have q1:a.eval p1= .int .u64 y:=by have:AZ w _ _ _:=h2 1 _ p1 rfl rfl;exact Ey (g:=g) (h:=σh) this
     have q2:a.eval p2= .int .u64 cc:=by have:AZ w _ _ _:=h2 2 _ p2 rfl rfl;exact Ey (g:=g) (h:=σh) this
     refine⟨.tuple #[.int .u64 ((x+y+cc) % 18446744073709551616),.int .u64 ((x+y+cc) / 18446744073709551616)],?_,#[.int .u64 _,.int .u64 _],rfl,rfl,fun q c u hc hu=>?_⟩
     ·have hx:=run_callFunc_extern (P:=C.P) f1 f2 f3 f4 f5 #[.int .u64 x,.int .u64 y,.int .u64 cc] w;rw[run_add64 x y cc b1 b2 b3 b4 w]at hx;simp[execOp,ho,resolve,hc,hfv,Deferred.ofValue,invoke,hargs,q0,q1,q2,hx,Result.andThen]
     ·match q with
      | 0=>simp at hc hu;subst hc;subst hu;exact .int _ _
      | 1=>simp at hc hu;subst hc;subst hu;exact .int _ _
      | q+2=>simp at hc
    ·exact hk.elim
   ·exact hk.elim
  ·exact hk.elim
 ·exact hk.elim
theorem nR (c:Call) (f:Operand) (ho:o.op= .call c) (hc:c.callee= .value f)
  (hk:HG C.M (AX ti s 0 f) (Bn ti s c.args.toList c.argTypes.toList) fresh h k):∃out,k out∧BN C o fresh s h out:=by
 unfold HG at hk;split at hk
 ·rename_i n cap hop;rcases Fb hk with⟨xs,hxs,hk⟩ | hk
  ·obtain⟨m,targs,pre,res,post,new,htrip,hargs,hlen,hnd,hpre,hkinds,hnew,hk⟩:=(C.M.lock_iff _).1 hk;refine⟨_,hk,?_⟩
   rintro F σs σh a w Q ⟨g,R⟩ hs hrd hF hd
   have hf:=AI ti 0 f R (s:=s) (fun k hk=>hs k (by subst hk;simp[ho,hc,Op.operands,Call.operands]))
   rw[hop]at hf;obtain⟨hfv,hcap⟩:=hf;obtain⟨h1,h2⟩:=Df (ti:=ti) R c.args.toList c.argTypes.toList xs (fun t ht=>hs t (by simp[ho,hc,Op.operands,Call.operands];right;simpa using ht)) hxs
   obtain⟨fn,body,hfn,hb,hname⟩:=htrip.1
   have hrun:(execOp a.eval o).run C.P w= .ok (.enter n (c.args.map a.eval++(cap.map (fun i=>CF (g i) 0)).toArray)) w:=by
    have hn':¬fn.name= "runtime.NumGoroutine" :=by simpa using hname
    simp[execOp,ho,resolve,hc,hfv,Deferred.ofValue,invoke,callFunc,hfn,hb,hn']
   have hpre':∀(j:Nat) i o,m[j]?=some i→pre[j]?=some o→σh i=some (o.A0 (BG m fresh)):=fun j i o' hm hp=>
    (hrd i (List.mem_of_getElem? hm)).trans (hpre j i o' hm hp)
   unfold Oper.wp;rw[hrun,Oper.upon_enter];refine Calls.mono (Du (Qp:=fun r p n=>r=res∧p=post∧n=new) (Run:=fun p=>Calls C.P n (c.args.map a.eval++(cap.map (fun i=>CF (g i) 0)).toArray) w p) (vals:=c.args.map a.eval++(cap.map (fun i=>CF (g i) 0)).toArray) (dst:=o.dst) (Q:=Q) R (fun hpq hp=>hp.mono hpq) (fun X g1 _ k1 k2 k3 k4 k6=>htrip.2 w X g1 _ k1 k2 k3 k4 ?_ k6) hlen hnd hpre' ?_ hF hd (targs:=targs) ?_) ?_
   ·have:=congrArg List.length hargs;grind
   ·simp_all
   rotate_left
   ·intro e w' he;cases e with
    | returned v=>obtain⟨_,_,_,⟨rfl,rfl,rfl⟩,g2,_,he⟩:=he;exact⟨g2,he⟩
    | panicked ch=>exact he
    | outgrown=>exact he
   ·intro j x v hx hv;rw[←hargs]at hx;simp only[Array.getElem?_append,Array.size_map,List.getElem?_toArray]at hv
    by_cases hj:j<c.args.size
    ·grind
    ·rw[if_neg hj]at hv;rw[List.getElem?_append_right (by rw[h1];simpa using hj),h1]at hx
     simp only[List.getElem?_map,Option.map_eq_some_iff,Array.length_toList]at hx hv;obtain⟨i,hi,rfl⟩:=hx;obtain⟨i',hi',rfl⟩:=hv;rw[hi]at hi';obtain rfl:i=i':=by simpa using hi'
     obtain⟨b,hb'⟩:=hcap i (List.mem_of_getElem? hi);exact⟨⟨b,hb'⟩,rfl⟩
  ·exact hk.elim
 ·rename_i n i0 hop;rcases Fb hk with⟨xs,hxs,hk⟩ | hk
  ·obtain⟨m,targs,pre,res,post,new,htrip,hargs,hlen,hnd,hpre,hkinds,hnew,hk⟩:=(C.M.lock_iff _).1 hk;refine⟨_,hk,?_⟩
   rintro F σs σh a w Q ⟨g,R⟩ hs hrd hF hd
   have hf:=AI ti 0 f R (s:=s) (fun k hk=>hs k (by subst hk;simp[ho,hc,Op.operands,Call.operands]))
   rw[hop]at hf;obtain⟨⟨b0,hb0⟩,hfv⟩:=hf;obtain⟨h1,h2⟩:=Df (ti:=ti) R c.args.toList c.argTypes.toList xs (fun t ht=>hs t (by simp[ho,hc,Op.operands,Call.operands];right;simpa using ht)) hxs
   obtain⟨fn,body,hfn,hb,hname⟩:=htrip.1
   have hrun:(execOp a.eval o).run C.P w= .ok (.enter n (#[CF (g i0) 0]++c.args.map a.eval)) w:=by
    have hn':¬fn.name= "runtime.NumGoroutine" :=by simpa using hname
    simp[execOp,ho,resolve,hc,hfv,Deferred.ofValue,invoke,callFunc,hfn,hb,hn']
   have hpre':∀(j:Nat) i o,m[j]?=some i→pre[j]?=some o→σh i=some (o.A0 (BG m fresh)):=fun j i o' hm hp=>
    (hrd i (List.mem_of_getElem? hm)).trans (hpre j i o' hm hp)
   unfold Oper.wp;rw[hrun,Oper.upon_enter];refine Calls.mono (Du (Qp:=fun r p n=>r=res∧p=post∧n=new) (Run:=fun p=>Calls C.P n (#[CF (g i0) 0]++c.args.map a.eval) w p) (vals:=#[CF (g i0) 0]++c.args.map a.eval) (dst:=o.dst) (Q:=Q) R (fun hpq hp=>hp.mono hpq) (fun X g1 _ k1 k2 k3 k4 k6=>htrip.2 w X g1 _ k1 k2 k3 k4 ?_ k6) hlen hnd hpre' ?_ hF hd (targs:=targs) ?_) ?_
   ·have:=congrArg List.length hargs;grind
   ·simp_all
   rotate_left
   ·intro e w' he;cases e with
    | returned v=>obtain⟨_,_,_,⟨rfl,rfl,rfl⟩,g2,_,he⟩:=he;exact⟨g2,he⟩
    | panicked ch=>exact he
    | outgrown=>exact he
   ·intro j x v hx hv;rw[←hargs]at hx;cases j with
    | zero=>
     rw[Array.getElem?_append_left (by simp)]at hv
     simp at hx hv;subst hx;subst hv;exact⟨⟨b0,hb0⟩,rfl⟩
    | succ j=>
     grind
  ·exact hk.elim
 ·rename_i n cs hop;rcases Fb hk with⟨xs,hxs,hk⟩ | hk
  ·obtain⟨m,targs,pre,res,post,new,htrip,hargs,hlen,hnd,hpre,hkinds,hnew,hk⟩:=(C.M.lock_iff _).1 hk;refine⟨_,hk,?_⟩
   rintro F σs σh a w Q ⟨g,R⟩ hs hrd hF hd
   have hf:=AI ti 0 f R (s:=s) (fun k hk=>hs k (by subst hk;simp[ho,hc,Op.operands,Call.operands]))
   rw[hop]at hf;obtain⟨ps0,hfv,hpl,hbx⟩:=hf;obtain⟨ps,rfl⟩:∃ps:Array Value,ps.toList=ps0:=⟨ps0.toArray,rfl⟩;rw[Array.toArray_toList]at hfv;obtain⟨hpsz,hcap⟩:=SN (h:=σh) (⟨ps.toList,by simp,hpl,hbx⟩:Es w (Av (zone g σh) C.X) g n cs (.func (.func n) #[] ps))
   obtain⟨h1,h2⟩:=Df (ti:=ti) R c.args.toList c.argTypes.toList xs (fun t ht=>hs t (by simp[ho,hc,Op.operands,Call.operands];right;simpa using ht)) hxs
   obtain⟨fn,body,hfn,hb,hname⟩:=htrip.1
   have hrun:(execOp a.eval o).run C.P w= .ok (.enter n (c.args.map a.eval++ps)) w:=by
    have hn':¬fn.name= "runtime.NumGoroutine" :=by simpa using hname
    simp[execOp,ho,resolve,hc,hfv,Deferred.ofValue,invoke,callFunc,hfn,hb,hn']
   have hpre':∀(j:Nat) i o,m[j]?=some i→pre[j]?=some o→σh i=some (o.A0 (BG m fresh)):=fun j i o' hm hp=>
    (hrd i (List.mem_of_getElem? hm)).trans (hpre j i o' hm hp)
   unfold Oper.wp;rw[hrun,Oper.upon_enter];refine Calls.mono (Du (Qp:=fun r p n=>r=res∧p=post∧n=new) (Run:=fun p=>Calls C.P n (c.args.map a.eval++ps) w p) (vals:=c.args.map a.eval++ps) (dst:=o.dst) (Q:=Q) R (fun hpq hp=>hp.mono hpq) (fun X g1 _ k1 k2 k3 k4 k6=>htrip.2 w X g1 _ k1 k2 k3 k4 ?_ k6) hlen hnd hpre' ?_ hF hd (targs:=targs) ?_) ?_
   ·have:=congrArg List.length hargs;grind
   ·simp_all
   rotate_left
   ·intro e w' he;cases e with
    | returned v=>obtain⟨_,_,_,⟨rfl,rfl,rfl⟩,g2,_,he⟩:=he;exact⟨g2,he⟩
    | panicked ch=>exact he
    | outgrown=>exact he
   grind
  ·exact hk.elim
 ·exact hk.elim
theorem BF (hti:Ay C.P ti) (h1:BH ti) (hst:∀t x y,o.op= .store t x y→o.dst=none) (hk:Ag C.M ti o fresh s h k):∃out,k out∧BN C o fresh s h out:=by
 unfold Ag at hk;split at hk
 ·rename_i x ho;exact⟨_,hk,XJ x (.inl ho)⟩
 ·rename_i x ho;exact⟨_,hk,XJ x (.inr ho)⟩
 ·rename_i c x y ho;obtain⟨q,hq,hk⟩:=PF.1 hk;exact⟨_,hk,nD c x y ho hq⟩
 ·rename_i t ho;obtain⟨i,hi,hk⟩:=AF.1 hk;exact⟨_,hk,Zf hti t ho hi⟩
 ·rename_i t x ho;obtain⟨y,hy,hk⟩:=Cb.1 hk;exact⟨_,hk,tP t x ho hy⟩
 ·rename_i t x ho;exact nF hti h1 t x ho hk
 ·rename_i t x y ho;exact Zi hti t x y ho (hst t x y ho) hk
 ·rename_i t x f ho;exact Zj hti t x f ho hk
 ·rename_i t x y ho;exact Zk hti t x y ho hk
 ·rename_i x ho;split at hk
  ·rename_i i q hop;exact⟨_,hk,SS x ho hop⟩
  ·exact hk.elim
 ·rename_i op t x y t' ho;exact tR hti op t t' x y ho hk
 ·rename_i op t x ho;exact AAc op t x ho hk
 ·rename_i fn first captured ho
  split at hk
  ·rename_i f hfi;split at hk
   ·rename_i l hl;exact⟨_,hk,SU _ first captured ho rfl hfi hl⟩
   ·exact hk.elim
  ·rename_i f x hfi;split at hk
   ·rename_i i hcap hx;exact⟨_,hk,YH _ first captured ho rfl hfi hcap hx⟩
   ·exact hk.elim
  ·exact hk.elim
 ·rename_i t parts ho;exact Zo hti t parts ho hk
 ·rename_i t len parts ho;obtain⟨c,hk⟩:=hk;cases c with
  | true=>exact Ou hti t len parts ho hk
  | false=>exact M7 hti t len parts ho hk
 ·rename_i t x i ok ho;exact YU hti t x i ok ho hk
 ·rename_i t x lo hi mx ho;exact YO hti t x lo hi mx ho hk
 ·rename_i t x i ho;exact YP hti h1 t x i ho hk
 ·rename_i t x f ho;exact YN hti h1 t x f ho hk
 ·rename_i x i ho;exact VF x i ho hk
 ·rename_i a b x ho;exact VG hti a b x ho hk
 ·rename_i c ho;split at hk
  ·rename_i hc;split at hk
   ·rename_i x t hx ht;refine tQ hti t x ?_ hk;obtain⟨callee,args,argTypes⟩:=c;have e1:args=#[x]:=by grind
    have e2:argTypes=#[t]:=by grind
    simp_all
   ·exact hk.elim
  ·rename_i hc;split at hk
   ·rename_i x y t t' hx ht;replace hk:=AA.1 hk;obtain⟨htt,hk⟩:=hk;have htt:=Nat.eq_of_beq_eq_true htt;subst htt;refine YS hti t x y ?_ hk;obtain⟨callee,args,argTypes⟩:=c;have e1:args=#[x,y]:=by grind
    have e2:argTypes=#[t,t]:=by grind
    simp_all
   ·exact hk.elim
  ·rename_i f hc;exact nR c f ho hc hk
  ·exact hk.elim
 ·exact hk.elim
def NI (h:Heap) (ids rd:List Id):List (Id×AD)→(List (Id×AD)→Prop)→Prop
 | [],K=>K []
 | x::r,K=>match EW x.1 ids with
  | true=>(match EW x.1 rd with
   | true=>h x.1=some x.2∧NI h ids rd r K
   | false=>False)
  | false=>NI h ids rd r fun wr=>K (x::wr)
theorem NJ {ids rd:List Id}:∀{wr:List (Id×AD)}{K:List (Id×AD)→Prop},NI h ids rd wr K→∃wr',K wr'∧∀σh:Heap,(∀i∈rd,EW i ids=true→σh i=h i)→Az σh wr'=Az σh wr
 | [],K,hk=>⟨[],hk,fun _ _=>rfl⟩
 | x::r,K,hk=>by
  simp only[NI]at hk;split at hk
  ·rename_i hi;split at hk
   ·rename_i hr;obtain⟨hx,hk⟩:=hk;obtain⟨wr',h1,h2⟩:=NJ hk;refine⟨wr',h1,fun σh hσ=>?_⟩
    have e:AK σh x.1 x.2=σh:=by
     funext y;simp only[AK];split
     ·rename_i hy;rw[hy,hσ x.1 (HJ.1 hr) hi,hx]
     ·rfl
    show Az σh wr'=Az (AK σh x.1 x.2) r;simp_all
   ·exact hk.elim
  ·rename_i hi;obtain⟨wr',h1,h2⟩:=NJ hk;refine⟨x::wr',h1,fun σh hσ=>?_⟩
   show Az (AK σh x.1 x.2) wr'=Az (AK σh x.1 x.2) r;refine h2 _ fun i hr hi'=>?_
   have hne:i≠x.1:=by grind
   rw[show AK σh x.1 x.2 i=σh i by simp[AK,hne]]
   exact hσ i hr hi'
theorem Ya {out:Out}{wr':List (Id×AD)}{ids:List Id}(hok:BN C o fresh s h out) (hsame:∀σh:Heap,(∀i∈out.rd,EW i ids=true→σh i=h i)→Az σh wr'=Az σh out.wr):BN C o fresh s h ⟨out.val,out.rd,wr'⟩:=by
 intro F σs σh a w Q R hs hrd hF hd;have:=hok F σs σh a w Q R hs hrd hF hd;simp_all
def nS (M:Aw) (ti:Types) (o:Oper) (fresh:Nat) (s:AL) (h:Heap) (k:Out→Prop):Prop:=
 ∃ids:List Id,Ag M ti o fresh s h fun out=>NI h ids out.rd out.wr fun wr=>k ⟨out.val,out.rd,wr⟩
def Dg (M:Aw) (ti:Types) (o:Oper) (fresh:Nat) (s:AL) (h:Heap) (k:Out→Prop):Prop:=
 match o.op with
 | .load t x=>(match QS (AX ti s 0 x)with
  | true=>(match Kn (AX ti s 0 x) h with
   | true=>Jw ti t (AX ti s 0 x) h k
   | false=>(match Lh (AX ti s 0 x) h with
    | true=>HQ ti t (AX ti s 0 x) h k
    | false=>SR ti t (AX ti s 0 x) fresh h k))
  | false=>(match Sm (AX ti s 0 x) h with
   | true=>False
   | false=>Ag M ti o fresh s h k))
 | .store t x y=>(match QS (AX ti s 0 x)with
  | true=>(match Kn (AX ti s 0 x) h with
   | true=>IY ti t (AX ti s 0 x) (AX ti s t y) h k
   | false=>PK ti t (AX ti s 0 x) (AX ti s t y) fresh h k)
  | false=>(match Sm (AX ti s 0 x) h with
   | true=>False
   | false=>Ag M ti o fresh s h k))
 | .fieldAddr t x f=>(match QS (AX ti s 0 x)with
  | true=>(match Kn (AX ti s 0 x) h with
   | true=>F5 ti t (AX ti s 0 x) f h k
   | false=>F3 ti t (AX ti s 0 x) f h k)
  | false=>Ag M ti o fresh s h k)
 | .indexAddr t x i=>(match QS (AX ti s t x)with
  | true=>(match Kn (AX ti s t x) h with
   | true=>F7 M ti t (AX ti s t x) (AX ti s 3 i) h k
   | false=>(match Lh (AX ti s t x) h with
    | true=>GA M ti t (AX ti s t x) (AX ti s 3 i) h k
    | false=>F4 M ti t (AX ti s t x) (AX ti s 3 i) h k))
  | false=>Ag M ti o fresh s h k)
 | .nilCheck x=>(match QS (AX ti s 0 x)with
  | true=>(match Kn (AX ti s 0 x) h with
   | true=>False
   | false=>False)
  | false=>Ag M ti o fresh s h k)
 | .buildSlice t len parts=>(match qS ti s parts.toList with
  | true=>De ti s t len parts.toList fresh k
  | false=>∃c:Bool,(match c with
   | true=>HN ti s t len parts.toList fresh h k
   | false=>Ag M ti o fresh s h k))
 | .slice t x lo hi mx=>(match QS (AX ti s t x)with
  | true=>False
  | false=>Ag M ti o fresh s h k)
 | .call c=>(match c.callee with
  | .builtin .len=>(match c.args.toList,c.argTypes.toList with
   | [x],[t]=>(match QS (AX ti s t x)with
    | true=>(match Kn (AX ti s t x) h with
     | true=>Jx M ti t (AX ti s t x) h k
     | false=>(match Lh (AX ti s t x) h with
      | true=>Jy M ti t (AX ti s t x) h k
      | false=>∃b:Bool,(match b with
       | true=>False
       | false=>Jo M ti t (AX ti s t x) h k)))
    | false=>Ag M ti o fresh s h k)
   | _,_=>False)
  | .builtin .append=>(match c.args.toList,c.argTypes.toList with
   | [x,y],[t,t']=>(match Lh (AX ti s t' y) h with
   | true=>BJ (Nat.beq t t') (E3 M ti t (AX ti s t x) (AX ti s t y) fresh h k)
   | false=>∃b:Bool,(match b with
    | true=>BJ (Nat.beq t t') (∃c:Bool,(match c with
     | true=>M9 M ti t (AX ti s t x) (AX ti s t y) fresh h k
     | false=>HP M ti t (AX ti s t x) (AX ti s t y) fresh h k))
    | false=>(match Z6 (AX ti s t' y)with
     | true=>False
     | false=>Ag M ti o fresh s h k)))
   | _,_=>False)
  | .value f=>tU M (AX ti s 0 f) (Bn ti s c.args.toList c.argTypes.toList) k∨(I6 h (fun h'=>Ag M ti o fresh s h') k∨nS M ti o fresh s h k)
  | _=>False)
 | .makeSlice t x y=>Db M ti t (AX ti s 3 x) (AX ti s 3 y) fresh k
 | .lookup t x y ok=>(match QS (AX ti s t x)with
  | true=>(match Zz (AX ti s t x) h with
   | true=>False
   | false=>E1 M ti t (AX ti s t x) (AX ti s 0 y) ok h k)
  | false=>(match AAd (AX ti s t x)with
   | true=>(match ok with
    | true=>False
    | false=>False)
   | false=>Ag M ti o fresh s h k))
 | .mapUpdate t x y z=>(match Zz (AX ti s t x) h with
  | true=>False
  | false=>Dw M ti t (AX ti s t x) (AX ti s 0 y) (AX ti s 0 z) h k)
 | .insert t x y z=>Dw M ti t (AX ti s t x) (AX ti s 0 y) (AX ti s 0 z) h k
 | .makeMap t r=>(match r with
  | none=>(match Z1 ti t with
   | true=>False
   | false=>(match PT ti t with
    | true=>False
    | false=>FJ ti t fresh k))
  | some _=>False)
 | .binOp op t x y _=>(match Zt (AX ti s t x)with
  | true=>False
  | false=>(match QS (AX ti s t x)with
   | true=>(match Zz (AX ti s t x) h with
    | true=>False
    | false=>False)
   | false=>Ag M ti o fresh s h k))
 | .convert a b x=>(match Zu (AX ti s a x)with
  | true=>Ag M ti o fresh s h k
  | false=>False)
 | _=>Ag M ti o fresh s h k
theorem HR (hti:Ay C.P ti) (h1:BH ti) (hst:∀t x y,o.op= .store t x y→o.dst=none) (hst2:∀t x y z,(o.op= .mapUpdate t x y z∨o.op= .insert t x y z)→o.dst=none) (hk:Dg C.M ti o fresh s h k):∃out,k out∧BN C o fresh s h out:=by
 unfold Dg at hk;split at hk
 ·rename_i t x ho;split at hk
  ·split at hk
   ·exact Zy hti h1 t x ho hk
   ·split at hk
    ·exact Z4 hti h1 t x ho hk
    ·exact Zn hti h1 t x ho hk
  ·split at hk
   ·contradiction
   ·exact BF hti h1 hst hk
 ·rename_i t x y ho;split at hk
  ·split at hk
   ·exact YW hti t x y ho (hst t x y ho) hk
   ·exact YJ hti t x y ho (hst t x y ho) hk
  ·split at hk
   ·contradiction
   ·exact BF hti h1 hst hk
 ·rename_i t x f ho;split at hk
  ·split at hk
   ·exact YX hti t x f ho hk
   ·exact YK hti t x f ho hk
  ·exact BF hti h1 hst hk
 ·rename_i t x y ho;split at hk
  ·split at hk
   ·exact YY hti t x y ho hk
   ·split at hk
    ·exact YZ hti t x y ho hk
    ·exact YL hti t x y ho hk
  ·exact BF hti h1 hst hk
 ·rename_i x ho;split at hk
  ·grind
  ·exact BF hti h1 hst hk
 ·rename_i t len parts ho;split at hk
  ·exact NH hti t len parts ho hk
  obtain⟨c,hk⟩:=hk;cases c with
  | true=>exact NA hti h1 t len parts ho hk
  | false=>exact BF hti h1 hst hk
 ·rename_i t x lo hi mx ho;split at hk
  ·contradiction
  ·exact BF hti h1 hst hk
 ·rename_i c ho;split at hk
  ·rename_i hc;split at hk
   ·rename_i x t hx ht;split at hk
    ·have ho':o.op= .call {callee:=.builtin .len,args:=#[x],argTypes:=#[t]}:=by
      obtain⟨callee,args,argTypes⟩:=c;have e1:args=#[x]:=by grind
      have e2:argTypes=#[t]:=by grind
      simp_all
     split at hk
     ·exact nM hti t x ho' hk
     split at hk
     ·exact nP hti t x ho' hk
     obtain⟨b,hk⟩:=hk;cases b with
     | true=>contradiction
     | false=>exact nG hti t x ho' hk
    ·exact BF hti h1 hst hk
   ·exact hk.elim
  ·rename_i hc;split at hk
   ·rename_i x y t t' hx ht;split at hk
    ·replace hk:=AA.1 hk;obtain⟨htt,hk⟩:=hk;have htt:=Nat.eq_of_beq_eq_true htt;subst htt
     have ho':o.op= .call {callee:=.builtin .append,args:=#[x,y],argTypes:=#[t,t]}:=by
      obtain⟨callee,args,argTypes⟩:=c;have e1:args=#[x,y]:=by grind
      have e2:argTypes=#[t,t]:=by grind
      simp_all
     exact VL hti t x y ho' hk
    obtain⟨b,hk⟩:=hk;cases b with
    | true=>
     replace hk:=AA.1 hk;obtain⟨htt,hk⟩:=hk;have htt:=Nat.eq_of_beq_eq_true htt;subst htt
     have ho':o.op= .call {callee:=.builtin .append,args:=#[x,y],argTypes:=#[t,t]}:=by
      obtain⟨callee,args,argTypes⟩:=c;have e1:args=#[x,y]:=by grind
      have e2:argTypes=#[t,t]:=by grind
      simp_all
     obtain⟨c',hk⟩:=hk;cases c' with
     | true=>exact VH hti h1 t x y ho' hk
     | false=>exact Sl hti h1 t x y ho' hk
    | false=>
     have ho':o.op= .call {callee:=.builtin .append,args:=#[x,y],argTypes:=#[t,t']}:=by
      obtain⟨callee,args,argTypes⟩:=c;have e1:args=#[x,y]:=by grind
      have e2:argTypes=#[t,t']:=by grind
      simp_all
     have hz:=hk;dsimp only at hz;split at hz
     ·contradiction
     ·exact BF hti h1 hst hz
   ·exact hk.elim
  ·rename_i f hc;rcases hk with hk | ⟨gs,hk⟩ | ⟨ids,hk⟩
   ·exact AFm c f ho hc hk
   ·exact EG hk (fun h' k' hk'=>BF hti h1 hst hk')
   ·obtain⟨out,hk,hok⟩:=BF hti h1 hst hk;obtain⟨wr',hk,hsame⟩:=NJ hk;exact⟨_,hk,Ya hok hsame⟩
  ·exact hk.elim
 ·rename_i t x y ho;exact QZ hti h1 t x y ho hk
 ·rename_i t x y ok ho;split at hk
  ·split at hk
   ·contradiction
   ·exact VI hti t x y ok ho hk
  ·split at hk
   ·grind
   ·exact BF hti h1 hst hk
 ·rename_i t x y z ho;split at hk
  ·contradiction
  ·exact NF hti t x y z (.inl ho) (hst2 t x y z (.inl ho)) hk
 ·rename_i t x y z ho;exact NF hti t x y z (.inr ho) (hst2 t x y z (.inr ho)) hk
 ·rename_i t r ho;split at hk
  ·split at hk
   ·contradiction
   ·split at hk
    ·contradiction
    ·exact Sk hti t ho hk
  ·exact hk.elim
 ·rename_i op t x y t' ho;split at hk
  ·contradiction
  ·split at hk
   ·grind
   ·exact BF hti h1 hst hk
 ·rename_i a b x ho;split at hk
  ·exact BF hti h1 hst hk
  ·contradiction
 ·exact BF hti h1 hst hk
end
end Go.AM
