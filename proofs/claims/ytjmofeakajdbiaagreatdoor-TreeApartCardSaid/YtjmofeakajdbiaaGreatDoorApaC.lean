/- Part of a proof. No condition. (Part 3.) -/
import Derived.Laws.CopyRow
import Derived.DataReads
import Derived.Test.YtjmofeakajdbiaaGreatDoorProg
import Derived.KernelRfl
import Derived.Shelf.Strings.Fields
import Derived.Shelf.Unicode.Latin
import Derived.Shelf.Unicode.Is16Any
import Derived.Test.YtjmofeakajdbiaaGreatDoorApaB
set_option linter.unusedVariables false
set_option linter.unusedSimpArgs false
namespace Go.AM
open Go Go.RowKit
section
variable {C:Cx}{ti:Types}
theorem Ki {S:Nat→Bool}:∀(es:List L4) (i:Nat) (s:AX),(∀k,i≤k→S k=false)→Di S es i s=s
 | [],_,_,_=>rfl
 | e::r,i,s,h=>by
  show Di S r (i+1) (if S i then _ else s)=s
  rw[h i (Nat.le_refl _)]
  exact Ki r (i+1) s (fun k hk=>h k (by omega))
theorem JC {S:Nat→Bool}:∀(es:List L4) (i:Nat) (s:Heap),(∀k,i≤k→S k=false)→CD S es i s=s
 | [],_,_,_=>rfl
 | e::r,i,s,h=>by
  show CD S r (i+1) (if S i then _ else s)=s
  rw[h i (Nat.le_refl _)]
  exact JC r (i+1) s (fun k hk=>h k (by omega))
theorem SC {S:Nat→Bool}:∀(es:List L4) (i:Nat) (s:AX),(∀k,k<es.length→S (i+k)=true)→Di S es i s=UR es s
 | [],_,_,_=>rfl
 | e::r,i,s,h=>by
  show Di S r (i+1) (if S i then _ else s)=UR r _
  rw[show S i=true from h 0 (by simp)]
  exact SC r (i+1) _ (fun k hk=>by have:=h (k+1) (by simp;omega);rw[show i+1+k=i+(k+1)from by omega];exact this)
theorem Ow {S:Nat→Bool}:∀(es:List L4) (i:Nat) (s:Heap),(∀k,k<es.length→S (i+k)=true)→CD S es i s=US es s
 | [],_,_,_=>rfl
 | e::r,i,s,h=>by
  show CD S r (i+1) (if S i then _ else s)=US r _
  rw[show S i=true from h 0 (by simp)]
  exact Ow r (i+1) _ (fun k hk=>by have:=h (k+1) (by simp;omega);rw[show i+1+k=i+(k+1)from by omega];exact this)
def mD (C:Cx) (ops:Array Oper) (base:Nat) (e:L4) (i:Nat) (s:AX) (h:Heap):Prop:=
 ops[i]?=some e.o∧(∀d,e.o.dst=some d→d<C.nt)∧Dh ops e s∧(e.run=true→(∀c,e.o.op≠ .defer c)∧Bm C e.o (base+32*i) s h ⟨e.val,e.rd,e.wr⟩)∧
   (e.run=false→e.val= .t []∧e.wr=[]∧e.rd=[])
theorem mE {ops:Array Oper}{base:Nat}(es:List L4):∀(m n:Nat) (s:AX) (h:Heap) (e:L4),SA C ops base es m s h→es[n]?=some e→
  mD C ops base e (m+n) (Di (fun k=>decide (k<m+n)) es m s) (CD (fun k=>decide (k<m+n)) es m h):=by
 induction es with
 | nil=>intro m n s h e _ hn;simp at hn
 | cons x r ih=>
  intro m n s h e hl hn
  cases n with
  | zero=>
   simp at hn
   subst hn
   have e1:Di (fun k=>decide (k<m+0)) (x::r) m s=s:=Ki _ _ _ (fun k hk=>by simp;omega)
   have e2:CD (fun k=>decide (k<m+0)) (x::r) m h=h:=JC _ _ _ (fun k hk=>by simp;omega)
   rw[e1,e2]
   exact⟨hl.1,hl.2.1,hl.2.2.1,hl.2.2.2.1,hl.2.2.2.2.1⟩
  | succ n=>
   have:=ih (m+1) n _ _ e hl.2.2.2.2.2 (by simpa using hn)
   rw[show m+1+n=m+(n+1)from by omega]at this
   have e1:Di (fun k=>decide (k<m+(n+1))) (x::r) m s=Di (fun k=>decide (k<m+(n+1))) r (m+1) (Dt s x.o.dst x.val):=by
    show Di _ r (m+1) (if decide (m<m+(n+1))then _ else _)=_
    rw[if_pos (by simp)]
   have e2:CD (fun k=>decide (k<m+(n+1))) (x::r) m h=CD (fun k=>decide (k<m+(n+1))) r (m+1) (BK h x.wr):=by
    show CD _ r (m+1) (if decide (m<m+(n+1))then _ else _)=_
    rw[if_pos (by simp)]
   rw[e1,e2]
   exact this
theorem Ae.drew {F:Nat→Prop}{s:AX}{h:Heap}{g:AY}{a:Act}{w:World}(R:Ae C F s h g a w):Ae C F s h g a {w with drawn:=w.drawn+1}:=by
 have E:KO w (BH (zone g h) C.X) g h {w with drawn:=w.drawn+1} (BH (zone g h) C.X) g h:=
  ⟨fun b o u hu hz=>⟨hu,hz⟩,fun _ _ _=>rfl,fun _ _ _=>rfl,fun _ hi=>hi,fun i n sz e _ hn=>⟨n,Nat.le_refl _,hn,fun _=>rfl⟩,fun _ hi=>hi,fun i _ hn=>⟨hn,rfl⟩⟩
 refine R.step (fun _=>False) E ⟨rfl,rfl,rfl,Nat.le_refl _,fun _ _ _=>rfl,fun _ _ _ hu _=>hu⟩ (fun _ _=>⟨rfl,rfl⟩) (fun _ _ _ _ _ _=>rfl) (fun _ _ h=>h.elim) (fun _ _ _ _ h=>h.elim)
  (fun _ _ _ _ _ h=>h.elim) (fun _ h=>h.elim) R.free
theorem filter_one {p p':Nat→Bool}{i:Nat}:∀{l:List Nat},l.Nodup→i∈l→p i=true→p' i=false→(∀k,k≠i→p' k=p k)→(l.filter p').length+1=(l.filter p).length
 | x::l,hn,hi,h1,h0,hs=>by
  have hn':=List.nodup_cons.1 hn
  by_cases hx:x=i
  ·subst hx
   have:l.filter p'=l.filter p:=List.filter_congr fun k hk=>hs k (fun e=>hn'.1 (e▸hk))
   simp[h1,h0,this]
  ·have hil:i∈l:=(List.mem_cons.1 hi).resolve_left (fun e=>hx e.symm)
   have ih:=filter_one hn'.2 hil h1 h0 hs
   have:=hs x hx
   simp only[List.filter_cons,this]
   split<;>simp[ih]
theorem Mi {a b:List Nat}{x:Nat}(ha:x∈a) (hb:x∈b):meet a b=true:=by
 simp only[meet,List.any_eq_true]
 exact⟨x,ha,x,hb,by simp⟩
theorem Kj {a b:List Id}{x:Id}(ha:x∈a) (hb:x∈b):R9 a b=true:=by
 simp only[R9,List.any_eq_true]
 exact⟨x,ha,x,hb,Id.beq_iff.2 rfl⟩
theorem E9 {t:Nat}:∀{l:List Operand},Operand.tmp t∈l→t∈tmpsOf l
 | .tmp x::l,h=>by
  rcases List.mem_cons.1 h with h | h
  ·simp at h;subst h;simp[tmpsOf]
  ·simp[tmpsOf,E9 h]
 | .const v::l,h=>by simp[tmpsOf,E9 ((List.mem_cons.1 h).resolve_left (by simp))]
 | .global v::l,h=>by simp[tmpsOf,E9 ((List.mem_cons.1 h).resolve_left (by simp))]
 | .func v::l,h=>by simp[tmpsOf,E9 ((List.mem_cons.1 h).resolve_left (by simp))]
theorem Mj (l:List Oper):∀(fs:List Fp) (i n:Nat) (o:Oper) (f:Fp),l[n]?=some o→fs[n]?=some f→(i+n,o,f)∈number l fs i:=by
 induction l with
 | nil=>intro fs i n o f h1 _;simp at h1
 | cons x l ih=>
  intro fs i n o f h1 h2
  cases fs with
  | nil=>simp at h2
  | cons y fs=>
   cases n with
   | zero=>simp at h1 h2;subst h1;subst h2;simp[number]
   | succ n=>
    simp at h1 h2
    have:=ih fs (i+1) n o f h1 h2
    rw[show i+1+n=i+(n+1)from by omega]at this
    simp[number,this]
theorem UT (l:List Oper):∀(i n:Nat) (o:Oper) (e:Edge),QG l i=true→l[n]?=some o→e∈o.after.toList→Region.binds .any e=true→e.on<i+n:=by
 induction l with
 | nil=>intro i n o e _ h1 _ _;simp at h1
 | cons x l ih=>
  intro i n o e h h1 he hb
  simp only[QG,Bool.and_eq_true,List.all_eq_true]at h
  cases n with
  | zero=>
   simp at h1
   subst h1
   have:=h.1 e he
   simpa [hb] using this
  | succ n=>
   simp at h1
   have:=ih (i+1) n o e h.2 h1 he hb
   omega
theorem aL (hti:BO C.P ti) (h1:Bt ti) (hm:C.P.follows .mixedOrders=true):Kg C (Bi ti C.M C.nt):=by
 intro id ops σ K Q a w hQ hk R
 obtain⟨es,σ',e1,hlex,e3,e4,e5,hlock,hK⟩:=GW hti h1 ops.toList 0 σ [] rfl hk
 have hB:=(C.M.lock_iff _).1 hlock
 simp only[List.nil_append]at hB
 simp only[YE,Bool.and_eq_true,Nat.beq_eq]at hB
 obtain⟨hlen,hback,hpairs⟩:=hB
 have hlen:es.length=ops.size:=by simpa using congrArg List.length e1
 have hes:∀(n:Nat) e,es[n]?=some e→ops.toList[n]?=some e.o:=by
  intro n e he
  rw[←e1];simp[he]
 have ahead:∀(i j:Nat) ei ej,es[i]?=some ei→es[j]?=some ej→i<j→(E8 ops ei.o ej.o || JB (ei.rd,ei.wr.map (·.1)) (ej.rd,ej.wr.map (·.1)))=true→GF ops.toList i j:=by
  intro i j ei ej hi hj hlt hc
  have m1:=Mj ops.toList (es.map fun e=>(e.rd,e.wr.map (·.1))) 0 i _ _ (hes i ei hi) (by simp[hi];rfl)
  have m2:=Mj ops.toList (es.map fun e=>(e.rd,e.wr.map (·.1))) 0 j _ _ (hes j ej hj) (by simp[hj];rfl)
  simp only[VZ,List.all_eq_true]at hpairs
  have:=hpairs _ m1 _ m2
  simp only[Nat.zero_add]at this
  have hb:Nat.blt i j=true:=by simpa using hlt
  rw[hb,hc]at this
  simp only[Bool.not_true,Bool.false_or]at this
  exact Ou ops.toList [] rfl (by simp[List.getD]) j i this
 let s0:=Ad σ.slots
 let h0:=Aa σ.heap
 let base:=σ.next
 refine wpIn_region_any hm ?_
 let Sof:Array Bool→Nat→Bool:=fun listed k=>listed.getD k false
 have main:∀(fuel:Nat) (listed:Array Bool) (a:Act) (w:World),listed.size=ops.size→
   ((List.range ops.size).filter (fun k=>!Sof listed k)).length=fuel→
   (∀i j,GF ops.toList i j→Sof listed j=true→Sof listed i=true)→
   Rel C (fun n=>base≤n∧∀i,Sof listed i=true→¬(base+32*i≤n∧n<base+32*i+32)) (Di (Sof listed) es 0 s0) (CD (Sof listed) es 0 h0) a w→
   wpAnyIn (Bh C.ro) 0 C.P .any ops Q fuel listed a w:=by
  intro fuel
  induction fuel with
  | zero=>
   intro listed a w hsz hcnt hcl R
   have hall:∀k,k<ops.size→Sof listed k=true:=by
    intro k hk
    have:=List.eq_nil_of_length_eq_zero hcnt
    cases hs:Sof listed k with
    | true=>rfl
    | false=>
     have:k∈(List.range ops.size).filter (fun k=>!Sof listed k):=by simp[hk,hs]
     rw[List.eq_nil_of_length_eq_zero hcnt]at this
     simp at this
   refine⟨?_,?_⟩
   ·cases hr:Region.ready .any ops listed with
    | nil=>rfl
    | cons j l=>
     have hj:j∈Region.ready .any ops listed:=by rw[hr];simp
     obtain⟨h2,o,ho,_⟩:=mem_ready.1 hj
     have hlt:=(Array.getElem?_eq_some_iff.1 ho).1
     have:=hall j hlt
     simp only[Sof]at this
     have hjl:j<listed.size:=by omega
     simp[hjl]at this h2
     rw[this]at h2
     simp at h2
   ·refine hQ σ' a w hK ?_
    have:CO C σ' a w↔Rel C (fun n=>σ'.next≤n) (Ad σ'.slots) (Aa σ'.heap) a w:=Iff.rfl
    rw[this,e3,e4,e5]
    have z1:Di (Sof listed) es 0 s0=UR es s0:=SC es 0 s0 (fun k hk=>by rw[Nat.zero_add];exact hall k (by omega))
    have z2:CD (Sof listed) es 0 h0=US es h0:=Ow es 0 h0 (fun k hk=>by rw[Nat.zero_add];exact hall k (by omega))
    rw[z1,z2]at R
    refine R.BB (fun n hn=>?_)
    simp only[Nat.zero_add,Array.length_toList]at hn
    refine⟨by simp only[base];omega,fun i hi=>?_⟩
    have:i<ops.size:=by
     simp only[Sof]at hi
     have hil:i<listed.size:=by
      rcases Nat.lt_or_ge i listed.size with h | h
      ·exact h
      ·simp[Array.getElem?_eq_none h]at hi
     omega
    simp only[base]
    omega
  | succ fuel ih=>
   intro listed a w hsz hcnt hcl R
   have hstep:∀i,i∈Region.ready .any ops listed→wpOpIn (Bh C.ro) 0 C.P ops Q i (wpAnyIn (Bh C.ro) 0 C.P .any ops Q fuel (listed.setIfInBounds i true)) a w:=by
    intro i hi
    obtain⟨hi0,o,ho,hedges⟩:=mem_ready.1 hi
    have hlt:i<ops.size:=(Array.getElem?_eq_some_iff.1 ho).1
    have hil:i<listed.size:=by omega
    have hS0:Sof listed i=false:=by
     simp[hil]at hi0
     simp[Sof,hil,hi0]
    have hS1:Sof (listed.setIfInBounds i true) i=true:=by simp[Sof,hil]
    have hSo:∀k,k≠i→Sof (listed.setIfInBounds i true) k=Sof listed k:=by
     intro k hk
     simp[Sof,Array.getElem?_setIfInBounds_ne (Ne.symm hk)]
    obtain⟨en,hen⟩:∃en,es[i]?=some en:=⟨es[i],by simp[hlen,hlt]⟩
    have hEnt:=mE es 0 i s0 h0 en hlex hen
    rw[Nat.zero_add]at hEnt
    obtain⟨ho',hd,hg,hrun,hskip⟩:=hEnt
    rw[ho]at ho'
    obtain rfl:o=en.o:=by simpa using ho'
    -- who writes what i reads or writes
    have order:∀k e,es[k]?=some e→k≠i→(k<i→(E8 ops e.o en.o || JB (e.rd,e.wr.map (·.1)) (en.rd,en.wr.map (·.1)))=true)→
      (i<k→(E8 ops en.o e.o || JB (en.rd,en.wr.map (·.1)) (e.rd,e.wr.map (·.1)))=true)→Sof listed k=decide (k<i):=by
     intro k e he hne c1 c2
     by_cases hki:k<i
     ·have ah:=ahead k i e en he hen hki (c1 hki)
      have:Sof listed k=true:=by
       have gen:∀x y,GF ops.toList x y→y=i→Sof listed x=true:=by
        intro x y hxy
        induction hxy with
        | edge hj hee hb hei=>
         intro hy
         subst hy
         rw[←hei]
         have:=hes _ en hen
         rw[hj]at this
         simp at this
         subst this
         exact hedges _ (by simpa using hee) hb
        | trans p q ihp ihq=>
         intro hy
         exact hcl _ _ p (ihq hy)
       exact gen k i ah rfl
      simp[this,hki]
     ·have hik:i<k:=by omega
      have ah:=ahead i k en e hen he hik (c2 hik)
      have:Sof listed k=false:=by
       cases hs:Sof listed k with
       | false=>rfl
       | true=>have:=hcl i k ah hs;rw[hS0]at this;simp at this
      simp[this,hki]
    have slotAgree:∀t,t∈Hq ops en.o→Di (Sof listed) es 0 s0 t=Di (fun k=>decide (k<i)) es 0 s0 t:=by
     intro t ht
     refine GX es 0 s0 s0 rfl (fun k e he hdst=>?_)
     rw[Nat.zero_add]
     by_cases hki:k=i
     ·subst hki;simp[hS0]
     ·refine order k e he hki (fun _=>?_) (fun _=>?_)
      ·simp[E8,Mi (x:=t) (a:=e.o.dst.toList) (b:=Hq ops en.o) (by simp[hdst]) ht]
      ·simp[E8,Mi (x:=t) (a:=Hq ops en.o) (b:=e.o.dst.toList) ht (by simp[hdst])]
    have idAgree:∀x,x∈en.rd→CD (Sof listed) es 0 h0 x=CD (fun k=>decide (k<i)) es 0 h0 x:=by
     intro x hx
     refine FY es 0 h0 h0 rfl (fun k e he hw=>?_)
     rw[Nat.zero_add]
     by_cases hki:k=i
     ·subst hki;simp[hS0]
     ·refine order k e he hki (fun _=>?_) (fun _=>?_)
      ·simp[JB,Kj (x:=x) (a:=e.wr.map (·.1)) (b:=en.rd) hw hx]
      ·simp[JB,Kj (x:=x) (a:=en.rd) (b:=e.wr.map (·.1)) hx hw]
    have cl':∀x y,GF ops.toList x y→Sof (listed.setIfInBounds i true) y=true→Sof (listed.setIfInBounds i true) x=true:=by
     intro x y hxy hy
     by_cases hx:x=i
     ·rw[hx];exact hS1
     ·rw[hSo x hx]
      by_cases hyi:y=i
      ·subst hyi
       have gen:∀x y',GF ops.toList x y'→y'=y→Sof listed x=true:=by
        intro x y' hxy
        induction hxy with
        | edge hj hee hb hei=>
         intro hy
         subst hy
         rw[←hei]
         have:=hes _ en hen
         rw[hj]at this
         simp at this
         subst this
         exact hedges _ (by simpa using hee) hb
        | trans p q ihp ihq=>
         intro hy
         exact hcl _ _ p (ihq hy)
       exact gen x y hxy rfl
      ·rw[hSo y hyi]at hy
       exact hcl x y hxy hy
    have cnt':((List.range ops.size).filter (fun k=>!Sof (listed.setIfInBounds i true) k)).length=fuel:=by
     have:=filter_one (p:=fun k=>!Sof listed k) (p':=fun k=>!Sof (listed.setIfInBounds i true) k) (i:=i) (l:=List.range ops.size) List.nodup_range (by simp[hlt]) (by simp[hS0]) (by simp[hS1])
      (fun k hk=>by simp[hSo k hk])
     omega
    have addS:Di (Sof (listed.setIfInBounds i true)) es 0 s0=Dt (Di (Sof listed) es 0 s0) en.o.dst en.val:=by
     funext t
     refine SB es 0 s0 hen (by simpa using hS0) (by simpa using hS1) (fun k hk=>hSo k (by omega)) (fun hdst k e he hdst' hik=>?_)
     rw[Nat.zero_add]
     have:=order k e he (by omega) (fun h=>absurd h (by omega)) (fun _=>by simp[E8,Mi (x:=t) (a:=en.o.dst.toList) (b:=e.o.dst.toList) (by simp[hdst]) (by simp[hdst'])])
     rw[this]
     simp;omega
    have addH:CD (Sof (listed.setIfInBounds i true)) es 0 h0=BK (CD (Sof listed) es 0 h0) en.wr:=by
     funext x
     refine Ov es 0 h0 hen (by simpa using hS0) (by simpa using hS1) (fun k hk=>hSo k (by omega)) (fun hw k e he hw' hik=>?_)
     rw[Nat.zero_add]
     have:=order k e he (by omega) (fun h=>absurd h (by omega)) (fun _=>by simp[JB,Kj (x:=x) (a:=en.wr.map (·.1)) (b:=e.wr.map (·.1)) hw hw'])
     rw[this]
     simp;omega
    have next:∀a' w',Rel C (fun n=>(base≤n∧∀i,Sof listed i=true→¬(base+32*i≤n∧n<base+32*i+32))∧¬(base+32*i≤n∧n<base+32*i+32))
      (Dt (Di (Sof listed) es 0 s0) en.o.dst en.val) (BK (CD (Sof listed) es 0 h0) en.wr) a' w'→wpAnyIn (Bh C.ro) 0 C.P .any ops Q fuel (listed.setIfInBounds i true) a' w':=by
     intro a' w' R'
     refine ih _ a' w' (by simp[hsz]) cnt' cl' ?_
     rw[addS,addH]
     refine R'.BB (fun n hn=>⟨⟨hn.1,fun j hj=>?_⟩,hn.2 i hS1⟩)
     by_cases hji:j=i
     ·subst hji;exact hn.2 j hS1
     ·exact hn.2 j (by rw[hSo j hji];exact hj)
    have hw:Region.wanted en.o (yielded ops a.tmps)=en.run:=by
     unfold Dh at hg
     split at hg
     ·rename_i hgn
      simp[Region.wanted,hgn,hg]
     ·rename_i j want hgs
      obtain⟨d,hdj,hsd⟩:=hg
      have hmem:d∈Hq ops en.o:=by simp[Hq,hgs,hdj]
      rw[←slotAgree d hmem]at hsd
      rcases hsd with hsd | ⟨hrf,hsd⟩
      rotate_left
      ·have hy:yielded ops a.tmps j=none:=by
        obtain⟨g,R⟩:=R
        have:=R.slots d
        rw[hsd]at this
        obtain⟨vs,hv,_⟩:=this
        exact Je hdj ⟨vs,hv⟩
       simp[Region.wanted,hgs,hy,hrf]
      have hy:yielded ops a.tmps j=some (if en.run then want else !want):=by
       obtain⟨g,R⟩:=R
       have:=R.slots d
       rw[hsd]at this
       have hv:=Pr this
       unfold yielded
       rw[hdj]
       have:a.tmps[d]?=some (.bool (if en.run then want else !want)):=by
        rw[Array.getD_eq_getD_getElem?]at hv
        cases h:a.tmps[d]? with
        | none=>rw[h]at hv;simp[undef]at hv
        | some v=>rw[h]at hv;simpa using hv
       simp[this]
      simp only[Region.wanted,hgs,hy]
      cases en.run<;>cases want<;>rfl
    unfold wpOpIn
    rw[ho]
    simp only[]
    cases hr:en.run with
    | true=>
     rw[if_pos (by rw[hw,hr])]
     refine Jc (hrun hr).1 (Oper.wp_mono next ?_)
     refine (hrun hr).2 _ _ _ a w Q R (fun t ht=>slotAgree t (by simp[Hq,E9 ht])) idAgree (fun k hk=>⟨by omega,fun j hj=>?_⟩) hd
     by_cases hji:j=i
     ·subst hji;rw[hS0]at hj;simp at hj
     ·omega
    | false=>
     rw[if_neg (by rw[hw,hr];simp)]
     obtain⟨z1,z2,z3⟩:=hskip hr
     refine⟨fun f _=>Dy _ f,next _ w ?_⟩
     rw[z1,z2]
     obtain⟨g,R⟩:=R
     refine⟨g,(R.put hd (v:=.t []) ⟨#[],rfl,rfl,by simp⟩).BB (fun n hn=>hn.1)⟩
   refine⟨fun hnil=>?_,hstep⟩
   -- not all are listed: the least of those is ready
   exfalso
   have hex:∃k,k<ops.size∧Sof listed k=false:=by
    have:(List.range ops.size).filter (fun k=>!Sof listed k)≠[]:=by intro e;rw[e]at hcnt;simp at hcnt
    obtain⟨k,hk⟩:=List.exists_mem_of_ne_nil _ this
    simp at hk
    exact⟨k,hk.1,hk.2⟩
   obtain⟨k,⟨hk1,hk2⟩,hmin⟩:=least hex
   have:k∈Region.ready .any ops listed:=by
    refine mem_ready.2 ⟨?_,ops[k],by simp[hk1],fun e he hb=>?_⟩
    ·have hkl:k<listed.size:=by omega
     simp only[Sof]at hk2
     simp[hkl]at hk2 ⊢
     exact hk2
    ·have hlt:e.on<0+k:=UT ops.toList 0 k ops[k] e hback (by simp[hk1]) (by simpa using he) hb
     cases hs:Sof listed e.on with
     | true=>exact hs
     | false=>have:=hmin e.on ⟨by omega,hs⟩;omega
   rw[hnil]at this
   simp at this
 refine main ops.size (Array.replicate ops.size false) a _ (by simp) ?_ ?_ ?_
 ·have:(List.range ops.size).filter (fun k=>!Sof (Array.replicate ops.size false) k)=List.range ops.size:=by
   refine List.filter_eq_self.2 fun k hk=>?_
   simp only[Sof,Array.getD_eq_getD_getElem?,Array.getElem?_replicate]
   split<;>rfl
  rw[this];simp
 ·intro i j _ hj
  exfalso
  revert hj
  simp only[Sof,Array.getD_eq_getD_getElem?,Array.getElem?_replicate]
  split<;>simp
 ·have hz:∀k,Sof (Array.replicate ops.size false) k=false:=by intro k;simp only[Sof,Array.getD_eq_getD_getElem?,Array.getElem?_replicate];split<;>rfl
  rw[Ki es 0 s0 (fun k _=>hz k),JC es 0 h0 (fun k _=>hz k)]
  obtain⟨g,R⟩:=R
  exact⟨g,R.drew.BB (fun n hn=>hn.1)⟩
end
end Go.AM
namespace Go.AM
open Go Go.RowKit
theorem Ae.lJ {C:Cx}{F:Nat→Prop}{s:AX}{h:Heap}{g:AY}{a:Act}{w:World}(R:Ae C F s h g a w) (t:Nat) (v:AV) (hr:Aw w (BH (zone g h) C.X) g h v (a.tmps.getD t undef)):
  Ae C F (Dt s (some t) v) h g a w:=by
 refine {R with slots:=fun t'=>?_}
 simp only[Dt]
 split
 ·subst_vars;exact hr
 ·exact R.slots t'
theorem Ae.rK {C:Cx}{F:Nat→Prop}{s:AX}{h:Heap}{g:AY}{a:Act}{w:World}(R:Ae C F s h g a w) {n:Nat}(hf:F n) (ag:Bool) {sz:Nat}(hsz:0<sz) (e:TypeId):
  Ae C (fun k=>F k∧k≠n) s (AP h (.loc n) (.tok 0 sz e)) (Ar g (.loc n) (.slice none 0 0)) a w∧
   BF w (BH (zone (Ar g (.loc n) (.slice none 0 0)) (AP h (.loc n) (.tok 0 sz e))) C.X) (Ar g (.loc n) (.slice none 0 0)) (AP h (.loc n) (.tok 0 sz e)) (.lst (.loc n) ag sz []) (.slice none 0 0):=
 R.owned (out:=[]) (zs:=[]) hf ⟨rfl,rfl,rfl,Nat.le_refl _,fun _ _ _=>rfl⟩ hsz (World.ownsRow_nil w _ e sz) (by simp) (by simp)
def QH (t:Nat) (ag:Bool) (sz:Nat) (e:TypeId) (σ:St):St:=
 ⟨(t,.v (.c (.lst (.loc σ.next) ag sz [])))::σ.slots,D1 σ.heap (.loc σ.next) (.tok 0 sz e),σ.next+32⟩
theorem QJ {t:Nat}{ag:Bool}{sz:Nat}{e:TypeId}{σ:St}(hsz:Nat.blt 0 sz=true) (ht:Ad σ.slots t= .v (.c (.nils ag sz))):CH σ (QH t ag sz e σ):=by
 rintro C a w ⟨g,R⟩
 have hv:=R.slots t
 rw[ht]at hv
 have hv:a.tmps.getD t undef= .slice none 0 0:=hv
 obtain⟨R',hl⟩:=R.rK (n:=σ.next) (Nat.le_refl _) ag (sz:=sz) (by simp[Nat.blt]at hsz;omega) e
 have R2:=(R'.lJ t (.v (.c (.lst (.loc σ.next) ag sz []))) (by rw[hv];exact hl)).BB (F':=fun n=>σ.next+32≤n) (fun n hn=>⟨by omega,by omega⟩)
 refine⟨Ar g (.loc σ.next) (.slice none 0 0),?_⟩
 simp only[QH,DX,DZ]
 exact R2
def QK {α:Type}:List α→Nat→α→List α
 | [],_,_=>[]
 | x::r,n,y=>match n with
  | 0=>y::r
  | m+1=>x::QK r m y
theorem Ox {α:Type}:∀(l:List α) (n:Nat) (y:α),QK l n y=l.set n y
 | [],_,_=>rfl
 | _::_,0,_=>rfl
 | x::r,n+1,y=>by simp[QK,Ox r n y]
def QL (i:Id) (j:Nat) (ag:Bool) (sz:Nat) (e:TypeId) (σ:St):St:=
 match Aa σ.heap i with
 | some (.cells cs)=>⟨σ.slots,D1 (D1 σ.heap (.loc σ.next) (.tok 0 sz e)) i (.cells (QK cs j (.lst (.loc σ.next) ag sz []))),σ.next+32⟩
 | _=>σ
theorem QM {i:Id}{j:Nat}{ag:Bool}{sz:Nat}{e:TypeId}{σ:St}{cs:List CV}(hsz:Nat.blt 0 sz=true) (hi:Aa σ.heap i=some (.cells cs)) (hj:cs[j]?=some (.nils ag sz)):CH σ (QL i j ag sz e σ):=by
 rintro C a w ⟨g,R⟩
 obtain⟨R',hl⟩:=R.rK (n:=σ.next) (Nat.le_refl _) ag (sz:=sz) (by simp[Nat.blt]at hsz;omega) e
 have hne:i≠ .loc σ.next:=by
  rintro rfl
  have:=(R.free σ.next (Nat.le_refl _)).2
  rw[this]at hi;cases hi
 have hi':AP (Aa σ.heap) (.loc σ.next) (.tok 0 sz e) i=some (.cells cs):=by simp[AP,hne,hi]
 obtain⟨b,c,et,hb,hh,hsz2,hr⟩:=R'.heap.objs i _ hi'
 have R2:=R'.store (cs':=cs.set j (.lst (.loc σ.next) ag sz [])) hi' hb hh (c':=c) (by simp[hsz2]) (fun k x u hx hu=>by
  by_cases hk:k=j
  ·subst hk
   have hlt:k<cs.length:=(List.getElem?_eq_some_iff.1 hj).1
   rw[List.getElem?_set_self hlt]at hx
   cases hx
   have:=hr k _ u hj hu
   rw[show u=_ from this]
   exact hl
  ·rw[List.getElem?_set_ne (by omega)]at hx
   exact hr k x u hx hu)
 have hw:w.setRow b c=w:=setRow_self w b c _ _ hh
 rw[hw]at R2
 have R3:=R2.BB (F':=fun n=>σ.next+32≤n) (fun n hn=>⟨by omega,by omega⟩)
 refine⟨Ar g (.loc σ.next) (.slice none 0 0),?_⟩
 simp only[QL,hi,DZ,Ox]
 exact R3
inductive UU where
 | slot (t:Nat) (ag:Bool) (sz:Nat) (e:TypeId)
 | cell (i:Id) (j:Nat) (ag:Bool) (sz:Nat) (e:TypeId)
def Kk (ag:Bool) (sz:Nat):CV→Bool
 | .nils a s=>(a==ag)&&Nat.beq s sz
 | _=>false
def QN (ag:Bool) (sz:Nat):AV→Bool
 | .v (.c c)=>Kk ag sz c
 | _=>false
def W0:List CV→Nat→CV
 | [],_=>.un
 | x::r,n=>match n with
  | 0=>x
  | m+1=>W0 r m
def QO (K:St→Prop):List UU→St→Prop
 | [],σ=>K σ
 | .slot t ag sz e::r,σ=>B6 (Nat.blt 0 sz)<| B6 (QN ag sz (Ad σ.slots t))<| QO K r (QH t ag sz e σ)
 | .cell i j ag sz e::r,σ=>B6 (Nat.blt 0 sz)<| (match Aa σ.heap i with
  | some (.cells cs)=>B6 (Kk ag sz (W0 cs j))<| QO K r (QL i j ag sz e σ)
  | _=>False)
theorem Oy {ag:Bool}{sz:Nat}{c:CV}(h:Kk ag sz c=true):c= .nils ag sz:=by
 cases c<;>simp[Kk]at h
 obtain⟨rfl,h⟩:=h
 rw[h]
theorem SD:∀{cs:List CV}{j:Nat}{ag:Bool}{sz:Nat},Kk ag sz (W0 cs j)=true→cs[j]?=some (.nils ag sz)
 | [],j,ag,sz,h=>by simp[W0,Kk]at h
 | x::r,0,ag,sz,h=>by simpa using Oy (by simpa [W0] using h)
 | x::r,j+1,ag,sz,h=>by simpa using SD (cs:=r) (j:=j) (by simpa [W0] using h)
theorem Hr {K:St→Prop}:∀{l:List UU}{σ:St},QO K l σ→∃σ',(∀C a w,CO C σ a w→CO C σ' a w)∧K σ'
 | [],σ,h=>⟨σ,fun _ _ _ r=>r,h⟩
 | .slot t ag sz e::r,σ,h=>by
  obtain⟨h1,h⟩:=AO.1 h
  obtain⟨h2,h⟩:=AO.1 h
  obtain⟨σ',h3,h4⟩:=Hr h
  have ht:Ad σ.slots t= .v (.c (.nils ag sz)):=by
   revert h2
   cases Ad σ.slots t with
   | v x=>cases x with
    | c c=>intro h2;rw[Oy h2]
    | _=>intro h2;simp[QN]at h2
   | _=>intro h2;simp[QN]at h2
  exact⟨σ',fun C a w r=>h3 C a w (QJ h1 ht C a w r),h4⟩
 | .cell i j ag sz e::r,σ,h=>by
  obtain⟨h1,h⟩:=AO.1 h
  split at h
  ·rename_i cs hi
   obtain⟨h2,h⟩:=AO.1 h
   obtain⟨σ',h3,h4⟩:=Hr h
   exact⟨σ',fun C a w r=>h3 C a w (QM h1 hi (SD h2) C a w r),h4⟩
  ·exact h.elim
theorem CH.trans {a b c:St}(h1:CH a b) (h2:CH b c):CH a c:=fun C x w r=>h2 C x w (h1 C x w r)
theorem CH.refl (a:St):CH a a:=fun _ _ _ r=>r
end Go.AM
namespace Go.AM
open Go Go.RowKit
def YF (c:CV) (j:Id) (n:Nat):CV:=
 match c with
 | .d (.list ag sz rows)=>match Nat.beq rows.length n with
  | true=>.d (.list ag sz rows)
  | false=>.sl j n
 | _=>.sl j n
def CV.sub (x:CV) (i:Id) (c:CV):CV:=
 match x with
 | .ow j=>match Id.beq j i with
  | true=>c
  | false=>.ow j
 | .sl j n=>match Id.beq j i with
  | true=>YF c j n
  | false=>.sl j n
 | x=>x
def isM (i:Id) (c:CV):CV→Prop
 | .ow j=>j=i
 | .sl j n=>j=i∧∃ag sz rows,c= .d (.list ag sz rows)∧rows.length=n
 | _=>False
def YG (i:Id) (c:CV):List CV→List CV
 | []=>[]
 | x::r=>x.sub i c::YG i c r
def V1.sub (i:Id) (c:CV) (x:V1):V1:=
 match x with
 | .d x=>.d x
 | .c x=>match x.sub i c with
  | .d y=>.d y
  | y=>.c y
 | .agg cs=>.agg (YG i c cs)
def aN (i:Id) (c:CV):List V1→List V1
 | []=>[]
 | x::r=>x.sub i c::aN i c r
def AV.sub (i:Id) (c:CV) (x:AV):AV:=
 match x with
 | .u=>.u
 | .v x=>.v (x.sub i c)
 | .t xs=>.t (aN i c xs)
def AF.sub (i:Id) (c:CV) (o:AF):AF:=
 match o with
 | .cells cs=>.cells (YG i c cs)
 | o=>o
theorem Ji {i:Id}{c:CV}:∀{l:List CV},YG i c l=l.map (fun x=>x.sub i c)
 | []=>rfl
 | x::l=>by simp[YG,Ji (l:=l)]
theorem QP {i:Id}{c:CV}:∀{l:List V1},aN i c l=l.map (V1.sub i c)
 | []=>rfl
 | x::l=>by simp[aN,QP (l:=l)]
section
variable {C:Cx}{F:Nat→Prop}{s:AX}{h:Heap}{g:AY}{a:Act}{w:World}
theorem Mk {w':World}{Z Z':Au}{g':AY}{h':Heap}{i:Id}{c:CV}(hE:∀{x:CV}{v:Value},BF w Z g h x v→BF w' Z' g' h' x v) (hc:∀x v,isM i c x→BF w Z g h x v→BF w' Z' g' h' c v) {x:CV}{v:Value}(r:BF w Z g h x v):
  BF w' Z' g' h' (x.sub i c) v:=by
 unfold CV.sub
 split
 ·rename_i j
  cases e:Id.beq j i with
  | true=>exact hc (.ow j) v (Id.beq_iff.1 e:j=i) r
  | false=>exact hE r
 ·rename_i j n
  cases e:Id.beq j i with
  | true=>
   show BF w' Z' g' h' (YF c j n) v
   unfold YF
   split
   ·rename_i ag sz rows
    cases e2:Nat.beq rows.length n with
    | true=>exact hc (.sl j n) v ⟨Id.beq_iff.1 e,ag,sz,rows,rfl,Nat.eq_of_beq_eq_true e2⟩ r
    | false=>exact hE r
   ·exact hE r
  | false=>exact hE r
 ·exact hE r
theorem Oz {w':World}{Z Z':Au}{g':AY}{h':Heap}{i:Id}{c:CV}(hE:∀{x:CV}{v:Value},BF w Z g h x v→BF w' Z' g' h' x v) (hD:∀{x:D}{v:Value},Ag w Z x v→Ag w' Z' x v) (hc:∀x v,isM i c x→BF w Z g h x v→BF w' Z' g' h' c v) {x:V1}{v:Value}(r:Aq w Z g h x v):
  Aq w' Z' g' h' (x.sub i c) v:=by
 cases x with
 | d x=>exact hD r
 | c x=>
  have:=Mk hE hc (x:=x) r
  show Aq w' Z' g' h' (match x.sub i c with | .d y=>.d y | y=>.c y) v
  split
  ·rename_i y hy
   rw[hy]at this
   exact this.1
  ·exact this
 | agg cs=>
  obtain⟨vs,hv,hs,hr⟩:=r
  refine⟨vs,hv,by rw[Ji];simpa using hs,fun j y u hy hu=>?_⟩
  rw[Ji,List.getElem?_map,Option.map_eq_some_iff]at hy
  obtain⟨x,hx,rfl⟩:=hy
  exact Mk hE hc (hr j x u hx hu)
theorem W1 {w':World}{Z Z':Au}{g':AY}{h':Heap}{i:Id}{c:CV}(hE:∀{x:CV}{v:Value},BF w Z g h x v→BF w' Z' g' h' x v) (hD:∀{x:D}{v:Value},Ag w Z x v→Ag w' Z' x v) (hc:∀x v,isM i c x→BF w Z g h x v→BF w' Z' g' h' c v) {x:AV}{v:Value}(r:Aw w Z g h x v):
  Aw w' Z' g' h' (x.sub i c) v:=by
 cases x with
 | u=>trivial
 | v x=>exact Oz hE hD hc r
 | t xs=>
  obtain⟨vs,hv,hs,hr⟩:=r
  refine⟨vs,hv,by rw[QP];simpa using hs,fun j y u hy hu=>?_⟩
  rw[QP,List.getElem?_map,Option.map_eq_some_iff]at hy
  obtain⟨x,hx,rfl⟩:=hy
  exact Oz hE hD hc (hr j x u hx hu)
def Ck (h:Heap) (i:Id) (c:CV) (nw:Option (Nat×AF)):Heap:=fun j=>
 match nw with
 | some (n,o)=>if j= .loc n then some o else if j=i then some .gone else (h j).map (AF.sub i c)
 | none=>if j=i then some .gone else (h j).map (AF.sub i c)
def C8 (g:AY) (i:Id) (nw:Option (Nat×AF)):AY:=
 match nw with
 | some (n,_)=>Ar g (.loc n) (g i)
 | none=>g
theorem SE {i:Id}{c:CV}{gv:Value}{o:AF}{b p:Nat}:Bg gv (o.sub i c) b p↔Bg gv o b p:=by
 cases o<;>exact Iff.rfl
theorem L5 {i:Id}{c:CV}{gv:Value}{o:AF}{b:Nat}:Ff gv (o.sub i c) b↔Ff gv o b:=by
 cases o<;>exact Iff.rfl
theorem YH {i:Id}{c:CV}{o:Option AF}:isLive (o.map (AF.sub i c))=isLive o:=by
 cases o with
 | none=>rfl
 | some o=>cases o<;>rfl
theorem Ae.swap (R:Ae C F s h g a w) {i:Id}{ob:AF}(hi:h i=some ob) (hob:DQ ob) {c:CV}{nw:Option (Nat×AF)}(hnw:∀n o,nw=some (n,o)→F n∧o=ob) {F':Nat→Prop}(hF:∀k,F' k→F k∧∀n o,nw=some (n,o)→k≠n)
  (hc:(∀b o,BH (zone (C8 g i nw) (Ck h i c nw)) C.X b o→BH (zone g h) C.X b o)→(nw=none→∀b o,B5 (g i) b→¬BH (zone (C8 g i nw) (Ck h i c nw)) C.X b o)→
   ∀x v,isM i c x→BF w (BH (zone g h) C.X) g h x v→BF w (BH (zone (C8 g i nw) (Ck h i c nw)) C.X) (C8 g i nw) (Ck h i c nw) c v):
  Ae C F' (fun t=>(s t).sub i c) (Ck h i c nw) (C8 g i nw) a w:=by
 -- what lies where
 have hn:∀n o,nw=some (n,o)→g (.loc n)=undef∧h (.loc n)=none:=fun n o e=>R.free n (hnw n o e).1
 have gsm:∀j,(∀n o,nw=some (n,o)→j≠ .loc n)→C8 g i nw j=g j:=by
  intro j hj
  unfold C8
  split
  ·rename_i n o
   simp[Ar,hj n o rfl]
  ·rfl
 have gne:∀j,g j≠undef→C8 g i nw j=g j:=fun j hj=>gsm j fun n o e hjn=>hj (hjn▸(hn n o e).1)
 have cases_:∀j o,Ck h i c nw j=some o→(∃n,nw=some (n,o)∧j= .loc n∧o=ob∧C8 g i nw j=g i)∨(j=i∧o= .gone)∨(j≠i∧∃o0,h j=some o0∧o=o0.sub i c∧C8 g i nw j=g j):=by
  intro j o hj
  have other:(∀n o,nw=some (n,o)→j≠ .loc n)→(if j=i then some AF.gone else (h j).map (AF.sub i c))=some o→(j=i∧o= .gone)∨(j≠i∧∃o0,h j=some o0∧o=o0.sub i c∧C8 g i nw j=g j):=by
   intro hj' hj
   split at hj
   ·cases hj;exact .inl ⟨by assumption,rfl⟩
   ·rename_i hne
    obtain⟨o0,h1,h2⟩:=Option.map_eq_some_iff.1 hj
    exact .inr ⟨hne,o0,h1,h2.symm,gsm j hj'⟩
  unfold Ck at hj
  split at hj
  ·rename_i n o'
   split at hj
   ·rename_i hjn
    cases hj
    subst hjn
    exact .inl ⟨n,rfl,rfl,(hnw n _ rfl).2,by simp[C8,Ar]⟩
   ·rename_i hjn
    exact .inr (other (by rintro n' o'' e;cases e;exact hjn) hj)
  ·exact .inr (other (by rintro n' o'' e;cases e) hj)
 have hz1:∀j o b p,Ck h i c nw j=some o→Bg (C8 g i nw j) o b p→∃j' o',h j'=some o'∧Bg (g j') o' b p∧(j'=j∨j'=i):=by
  intro j o b p hj hb
  rcases cases_ j o hj with⟨n,_,_,rfl,hg⟩ | ⟨rfl,rfl⟩ | ⟨_,o0,h1,rfl,hg⟩
  ·rw[hg]at hb
   exact⟨i,_,hi,hb,.inr rfl⟩
  ·exact hb.elim
  ·rw[hg]at hb
   exact⟨j,o0,h1,SE.1 hb,.inl rfl⟩
 have hz:∀b o,BH (zone (C8 g i nw) (Ck h i c nw)) C.X b o→BH (zone g h) C.X b o:=by
  rintro b p (⟨j,o,hj,hb⟩ | hx)
  ·obtain⟨j',o',h1,h2,_⟩:=hz1 j o b p hj hb
   exact .inl ⟨j',o',h1,h2⟩
  ·exact .inr hx
 have hgone:nw=none→∀b o,B5 (g i) b→¬BH (zone (C8 g i nw) (Ck h i c nw)) C.X b o:=by
  rintro e b p hb (⟨j,o,hj,h1⟩ | hx)
  ·rcases cases_ j o hj with⟨n,e',_⟩ | ⟨rfl,rfl⟩ | ⟨hne,o0,h2,rfl,hg⟩
   ·rw[e]at e';cases e'
   ·exact h1.elim
   ·rw[hg]at h1
    exact hne (R.heap.sep j i o0 ob b h2 hi (SE.1 h1).Ii (hob.Ii hb))
  ·exact R.heap.apart i _ b p hi (hob.Ii hb) hx
 have E:KO w (BH (zone g h) C.X) g h w (BH (zone (C8 g i nw) (Ck h i c nw)) C.X) (C8 g i nw) (Ck h i c nw):=by
  refine⟨fun b o u hu hx=>⟨hu,fun hy=>hx (hz b o hy)⟩,fun j b hb=>gne j (by rw[hb];simp[undef]),fun j q hq=>gne j (by rw[hq];simp[undef]),fun j hj=>?_,fun j k sz e hj hk=>?_,fun j hj=>?_,fun j hj hl=>?_⟩
  ·rw[gne j (fun e=>by rw[e]at hj;exact hj)];exact hj
  ·have e1:=gne j (fun e=>by rw[e]at hj;exact hj)
   rcases cases_ j _ hk with⟨n,e',rfl,_,_⟩ | ⟨_,h2⟩ | ⟨_,o0,h2,h3,_⟩
   ·rw[(hn n _ e').1]at hj;exact hj.elim
   ·cases h2
   ·cases o0<;>simp[AF.sub]at h3
    obtain⟨rfl,rfl,rfl⟩:=h3
    exact⟨_,Nat.le_refl _,h2,fun _=>e1⟩
  ·rw[gne j (fun e=>Be (e▸hj))];exact hj
  ·refine⟨?_,by rw[gne j (fun e=>Be (e▸hj))]⟩
   cases ho:Ck h i c nw j with
   | none=>rw[ho]at hl;cases hl
   | some o=>
    rw[ho]at hl
    rcases cases_ j o ho with⟨n,e',rfl,_,_⟩ | ⟨_,rfl⟩ | ⟨_,o0,h2,rfl,_⟩
    ·rw[(hn n _ e').1]at hj;exact (Be hj).elim
    ·cases hl
    ·rw[h2,←YH (i:=i) (c:=c)];exact hl
 have hcc:=hc hz hgone
 have objs:∀j o,Ck h i c nw j=some o→Bc w (BH (zone (C8 g i nw) (Ck h i c nw)) C.X) (C8 g i nw) (Ck h i c nw) o (C8 g i nw j):=by
  intro j o hj
  rcases cases_ j o hj with⟨n,_,_,rfl,hg⟩ | ⟨rfl,rfl⟩ | ⟨_,o0,h1,rfl,hg⟩
  ·rw[hg]
   exact (R.heap.objs i _ hi).sH E fun _ _=>rfl
  ·trivial
  ·rw[hg]
   cases o0 with
   | cells cs=>
    obtain⟨b,cc,e,h2,h3,h4,h5⟩:=R.heap.objs j _ h1
    refine⟨b,cc,e,h2,h3,by rw[Ji];simpa using h4,fun q x u hx hu=>?_⟩
    rw[Ji,List.getElem?_map,Option.map_eq_some_iff]at hx
    obtain⟨y,hy,rfl⟩:=hx
    exact Mk E.Ly hcc (h5 q y u hy hu)
   | _=>exact (R.heap.objs j _ h1).sH E fun _ _=>rfl
 have hsep:∀j j' oi oj b,Ck h i c nw j=some oi→Ck h i c nw j'=some oj→Ff (C8 g i nw j) oi b→Ff (C8 g i nw j') oj b→j=j':=by
  intro j j' oi oj b h1 h2 h3 h4
  rcases cases_ j oi h1 with⟨n,e,rfl,rfl,hg⟩ | ⟨rfl,rfl⟩ | ⟨hne,o0,h5,rfl,hg⟩
  ·rcases cases_ j' oj h2 with⟨n',e',rfl,_,_⟩ | ⟨rfl,rfl⟩ | ⟨hne',o0',h5',rfl,hg'⟩
   ·rw[e]at e';cases e';rfl
   ·exact h4.elim
   ·rw[hg]at h3
    rw[hg']at h4
    exact absurd (R.heap.sep i j' _ _ b hi h5' h3 (L5.1 h4)).symm hne'
  ·exact h3.elim
  ·rw[hg]at h3
   rcases cases_ j' oj h2 with⟨n',e',rfl,rfl,hg'⟩ | ⟨rfl,rfl⟩ | ⟨hne',o0',h5',rfl,hg'⟩
   ·rw[hg']at h4
    exact absurd (R.heap.sep j i _ _ b h5 hi (L5.1 h3) h4) hne
   ·exact h4.elim
   ·rw[hg']at h4
    exact R.heap.sep j j' _ _ b h5 h5' (L5.1 h3) (L5.1 h4)
 have RS:=R.step (F':=F') (fun _=>True) E ⟨rfl,rfl,rfl,Nat.le_refl _,fun _ _ _=>rfl,fun _ _ _ hu _=>hu⟩ (fun j hj=>absurd trivial hj) (fun _ _ _ hj=>absurd trivial hj) (fun j o _ hj=>objs j o hj)
  (fun j o b p _ hj hb=>let ⟨j',o',h1,h2,_⟩:=hz1 j o b p hj hb;.inl ⟨j',o',trivial,h1,h2⟩) (fun j j' oi oj b _ _ h1 h2 h3 h4=>hsep j j' oi oj b h1 h2 h3 h4) (fun j _=>by rw[gsm (.ext j) (by rintro n o _ e;cases e)];exact .refl _)
  (fun k hk=>by
   obtain⟨h1,h2⟩:=hF k hk
   obtain⟨h3,h4⟩:=R.free k h1
   have hne:∀n o,nw=some (n,o)→Id.loc k≠ .loc n:=fun n o e h=>h2 n o e (by cases h;rfl)
   refine⟨(gsm _ hne).trans h3,?_⟩
   cases ho:Ck h i c nw (.loc k)with
   | none=>rfl
   | some o=>
    rcases cases_ _ o ho with⟨n,e,e',_⟩ | ⟨e,_⟩ | ⟨_,o0,h5,_⟩
    ·exact absurd e' (hne n _ e)
    ·rw[←e,h4]at hi;cases hi
    ·rw[h4]at h5;cases h5)
 exact {RS with slots:=fun t=>W1 E.Ly E.HY hcc (R.slots t)}
def Vb (i:Id) (c:CV):List (Nat×AV)→List (Nat×AV)
 | []=>[]
 | (t,v)::r=>(t,v.sub i c)::Vb i c r
def SF (i:Id) (c:CV):List (Id×AF)→List (Id×AF)
 | []=>[]
 | (j,o)::r=>(j,o.sub i c)::SF i c r
theorem Ml {i:Id}{c:CV}:∀{l:List (Nat×AV)}{t:Nat},Ad (Vb i c l) t=(Ad l t).sub i c
 | [],t=>rfl
 | (k,v)::r,t=>by
  show (match Nat.beq k t with | true=>v.sub i c | false=>Ad (Vb i c r) t)=(match Nat.beq k t with | true=>v | false=>Ad r t).sub i c
  cases Nat.beq k t with
  | true=>rfl
  | false=>exact Ml
theorem Mm {i:Id}{c:CV}:∀{l:List (Id×AF)}{j:Id},Aa (SF i c l) j=(Aa l j).map (AF.sub i c)
 | [],j=>rfl
 | (k,v)::r,j=>by
  show (match Id.beq k j with | true=>some (v.sub i c) | false=>Aa (SF i c r) j)=(match Id.beq k j with | true=>some v | false=>Aa r j).map (AF.sub i c)
  cases Id.beq k j with
  | true=>rfl
  | false=>exact Mm
def UW (i:Id) (x:D) (σ:St):St:=⟨Vb i (.d x) σ.slots,D1 (SF i (.d x) σ.heap) i .gone,σ.next⟩
theorem W2 {σ:St}{i:Id}{x:D}{ob:AF}(hi:Aa σ.heap i=some ob) (hob:DQ ob)
  (hr:∀{C:Cx} {g:AY} {w:World},E2 w C.X g (Aa σ.heap)→(∀b o,BH (zone g (Ck (Aa σ.heap) i (.d x) none)) C.X b o→BH (zone g (Aa σ.heap)) C.X b o)→(∀b o,B5 (g i) b→¬BH (zone g (Ck (Aa σ.heap) i (.d x) none)) C.X b o)→
   ∀y v,isM i (.d x) y→BF w (BH (zone g (Aa σ.heap)) C.X) g (Aa σ.heap) y v→Ag w (BH (zone g (Ck (Aa σ.heap) i (.d x) none)) C.X) x v∧x.isAgg=false):CH σ (UW i x σ):=by
 rintro C a w ⟨g,R⟩
 have R2:=R.swap (F':=fun n=>σ.next≤n) hi hob (c:=.d x) (nw:=none) (fun _ _ e=>by cases e) (fun k hk=>⟨hk,fun _ _ e=>by cases e⟩) (fun hz hg y v hm r=>hr R.heap hz (hg rfl) y v hm r)
 refine⟨g,?_⟩
 have e1:Ad (UW i x σ).slots=fun t=>(Ad σ.slots t).sub i (.d x):=by funext t;exact Ml
 have e2:Aa (UW i x σ).heap=Ck (Aa σ.heap) i (.d x) none:=by
  funext j
  show Aa (D1 (SF i (.d x) σ.heap) i .gone) j=_
  rw[DZ]
  simp only[AP,Ck,Mm]
 show Ae C (fun n=>σ.next≤n) (Ad (UW i x σ).slots) (Aa (UW i x σ).heap) g a w
 rw[e1,e2]
 exact R2
theorem SG {σ:St}{i:Id}{kd:Kd}{ag:Bool}{sz:Nat}{rows:List D}(hi:Aa σ.heap i=some (.tree kd ag sz rows none)) (hk:kd= .row∨kd= .flat):CH σ (UW i (.list ag sz rows) σ):=by
 refine W2 hi trivial fun RH hz hg y v hm r=>⟨?_,rfl⟩
 rename_i C g w
 have ho:=RH.objs i _ hi
 have hv:v=gval (g i):=by
  cases y<;>first | exact (hm:False).elim | skip
  ·rename_i j n
   obtain⟨rfl,_⟩:=hm
   obtain⟨⟨b,hb⟩,_⟩:=r
   obtain⟨vs,_,h1,_⟩:=ho.1
   rw[hb]at h1;cases h1
  ·rename_i j
   obtain rfl:j=i:=hm
   exact r.2.2 (by rw[hi];rfl)
 rw[hv]
 obtain⟨ht,h0,hf,xs,hx,_,U,T,h1,h2,h3,h4,h5⟩:=ho
 rcases hk with rfl | rfl
 ·exact ((JY (show JU .row ag sz rows=some (.list ag sz rows)from rfl)).1 (RH.objs i _ hi)).2.xG hg
 ·obtain⟨e,hl,hx⟩:=hx
  rcases hx with⟨hv,hn⟩ | ⟨q,cap,cur,hv,_,hh,hnc,hcm,hcs,htake⟩
  ·have:rows=[]:=List.eq_nil_of_length_eq_zero hn
   subst this
   rw[hv]
   exact .list ag sz [] none 0 0 0 (fun _ _=>undef) (Nat.le_refl _) (Nat.zero_le _) (by simp) (by simp) (by simp) (by simp)
  ·rw[hv]
   refine .list ag sz rows _ cap q 0 U hnc hcm hf (fun _=>rfl) (fun k r j c hr hc=>?_) (fun k r j c hr hc=>?_)
   ·obtain⟨p1,_⟩:=h1 k r j c (fun _ _ h=>by cases h) hr hc
    refine⟨?_,fun hz'=>hg q _ ((h5 q).2 (.inl (by rw[hv];rfl))) hz'⟩
    rw[←htake,List.getElem?_take]at p1
    split at p1
    ·rw[Nat.zero_add]
     simpa [World.cell?,hh] using p1
    ·cases p1
   ·obtain⟨_,p2⟩:=h1 k r j c (fun _ _ h=>by cases h) hr hc
    exact (((Cp.fz rfl).1 p2).1.1).mono fun b o u hu hn=>⟨hu,fun hz'=>hn (hz b o hz')⟩
end
end Go.AM
namespace Go.AM
open Go Go.RowKit
theorem Ae.flatten {C:Cx}{F:Nat→Prop}{s:AX}{h:Heap}{g:AY}{a:Act}{w:World}(R:Ae C F s h g a w) {i:Id}{ag:Bool}{sz:Nat}{rows:List D}(hi:h i=some (.tree .row ag sz rows none)):
  ∃g',Ae C F s (AP h i (.tree .flat ag sz rows none)) g' a w:=by
 obtain⟨ht,h0,hf,xs,hx,_,U,T,h1,h2,h3,h4,h5⟩:=R.heap.objs i _ hi
 obtain⟨gv,gt,gg,gb⟩:=Xl (gval (g i)) (blk (gval (g i))).toList (fun b=>blk (gval (g i))=some b) (fun b hb=>by simp[hb])
 have hsub:∀b,B5 gv b→B5 (g i) b:=fun b hb=>(h5 b).2 (.inl ((gb b).1 hb))
 have hX:∀b o,B5 (g i) b→¬B5 gv b→¬BH (zone (Ar g i gv) (AP h i (.tree .flat ag sz rows none))) C.X b o:=by
  rintro b o hb hnb (⟨j,ob,hj,h6⟩ | hx)
  ·by_cases hji:j=i
   ·subst hji
    simp only[AP,if_pos,Option.some.injEq]at hj
    subst hj
    have h6:B5 (Ar g j gv j) b:=h6
    simp only[Ar,if_pos]at h6
    exact hnb h6
   ·simp only[AP,if_neg hji]at hj
    simp only[Ar,if_neg hji]at h6
    exact hji (R.heap.sep j i ob _ b hj hi h6.Ii hb)
  ·exact R.heap.apart i _ b o hi hb hx
 refine⟨Ar g i gv,R.KM (fun j=>j=i) (fun j hj=>by simp[AP,Ar,hj]) ?_ ?_ ?_ ?_ ?_ ?_ ?_ ?_⟩
 ·rintro j rfl
  exact .inr (.inl ⟨ht,by simpa [Ar] using gt,by simp[Ar,gg]⟩)
 ·rintro j rfl _ _
  rw[hi];rfl
 ·rintro j ob rfl ho
  simp only[AP,if_pos,Option.some.injEq]at ho
  exact .inl ⟨_,_,_,_,_,ho.symm⟩
 ·rintro j o rfl ho EC ED
  simp only[AP,if_pos,Option.some.injEq]at ho
  subst ho
  have e1:Ar g j gv j=gv:=by simp[Ar]
  rw[e1]
  refine VU gt h0 hf (xs:=xs) (by rw[gg];exact hx) (fun k r q c hr hc=>?_) (fun b=>by rw[gb,gg])
  obtain⟨p1,p2⟩:=h1 k r q c (fun _ _ h=>by cases h) hr hc
  refine⟨_,p1,((Cp.own rfl).1 p2).xG fun b o hb=>hX b o ((h5 b).2 (.inr ⟨k,q,hb⟩)) fun hb'=>h3 k q b hb ((gb b).1 hb')⟩
 ·rintro j ob b rfl ho hb
  simp only[AP,if_pos,Option.some.injEq]at ho
  subst ho
  have hb:B5 (Ar g j gv j) b:=hb
  simp only[Ar,if_pos]at hb
  exact⟨j,_,rfl,hi,fun o=>hsub b hb⟩
 ·rintro j k _ _ _ rfl rfl _ _ _ _
  rfl
 ·rintro j rfl
  exact .inr ⟨ht,by simpa [Ar] using gt,by simp[Ar,gg]⟩
 ·intro n hn
  have:=R.free n hn
  have hne:Id.loc n≠i:=by rintro rfl;rw[this.2]at hi;cases hi
  exact⟨by simp[Ar,hne,this.1],by simp[AP,hne,this.2]⟩
theorem QQ {σ:St}{i:Id}{ag:Bool}{sz:Nat}{rows:List D}(hi:Aa σ.heap i=some (.tree .row ag sz rows none)):CH σ ⟨σ.slots,D1 σ.heap i (.tree .flat ag sz rows none),σ.next⟩:=by
 rintro C a w ⟨g,R⟩
 obtain⟨g',R'⟩:=R.flatten hi
 refine⟨g',?_⟩
 rw[DZ]
 exact R'
theorem Ae.drop {C:Cx}{F:Nat→Prop}{s:AX}{h:Heap}{g:AY}{a:Act}{w:World}(R:Ae C F s h g a w) {i:Id}{ob:AF}(hi:h i=some ob):Ae C F s (AP h i .gone) g a w:=by
 refine R.KM (fun j=>j=i) (fun j hj=>by simp[AP,hj]) ?_ ?_ ?_ ?_ ?_ ?_ ?_ ?_
 ·rintro j rfl
  exact .inl rfl
 ·rintro j rfl _ hl
  simp[AP,isLive]at hl
 ·rintro j ob' rfl ho
  simp[AP]at ho
  exact .inr ho.symm
 ·rintro j o rfl ho _ _
  simp[AP]at ho
  subst ho
  trivial
 ·rintro j ob' b rfl ho hb
  simp[AP]at ho
  subst ho
  exact hb.elim
 ·rintro j k _ _ _ rfl rfl _ _ _ _
  rfl
 ·intro j _
  exact .refl _
 ·intro n hn
  have:=R.free n hn
  have hne:Id.loc n≠i:=by rintro rfl;rw[this.2]at hi;cases hi
  exact⟨this.1,by simp[AP,hne,this.2]⟩
inductive Gh where
 | flatten (i:Id)
 | close (i:Id)
 | freeze (i:Id)
def mF:Kd→Bool
 | .row=>true
 | .flat=>true
 | _=>false
def gh:List Gh→St→(St→Prop)→Prop
 | [],σ,K=>K σ
 | x::r,σ,K=>match x with
  | .close i=>I7 (Aa σ.heap) [i] fun _ _ wr=>gh r ⟨σ.slots,E7 σ.heap wr,σ.next⟩ K
  | .freeze i=>(match Aa σ.heap i with
   | some (.tree kd ag sz rows foc)=>(match foc with
    | none=>B6 (mF kd)<| gh r (UW i (.list ag sz rows) σ) K
    | some _=>False)
   | _=>False)
  | .flatten i=>(match Aa σ.heap i with
   | some (.tree kd ag sz rows foc)=>(match kd with
    | .row=>(match foc with
     | none=>gh r ⟨σ.slots,D1 σ.heap i (.tree .flat ag sz rows none),σ.next⟩ K
     | some _=>False)
    | _=>False)
   | _=>False)
theorem FZ {K:St→Prop}:∀{l:List Gh}{σ:St},gh l σ K→∃σ',CH σ σ'∧K σ'
 | [],σ,h=>⟨σ,CH.refl σ,h⟩
 | .close i::r,σ,h=>by
  simp only[gh,I7]at h
  split at h
  ·rename_i kd ag sz rows k cs hi
   obtain⟨hnf,h⟩:=AO.1 h
   obtain⟨ds,iss,h,hdl,hol,hcl⟩:=KV h
   split at h
   ·rename_i hnd
    split at h
    ·rename_i hag
     obtain⟨rows',hrows,h⟩:=h
     obtain⟨σ',hw,hk⟩:=FZ h
     refine⟨σ',CH.trans (fun C a w R=>?_) hw,hk⟩
     obtain⟨g,R⟩:=R
     obtain⟨g',R'⟩:=R.Zz hi (LM.1 hnf) hdl hol (Dw.1 hnd) (fun e=>by rw[e]at hag;simpa using hag) hcl hrows
     refine⟨g',?_⟩
     simp only[E1,List.append_nil]
     exact R'
    ·exact h.elim
   ·exact h.elim
  ·exact h.elim
 | .freeze i::r,σ,h=>by
  simp only[gh]at h
  split at h
  ·rename_i kd ag sz rows foc hi
   split at h
   ·obtain⟨h1,h⟩:=AO.1 h
    obtain⟨σ',h3,h4⟩:=FZ h
    exact⟨σ',CH.trans (SG hi (by cases kd<;>simp[mF]at h1 ⊢)) h3,h4⟩
   ·exact h.elim
  ·exact h.elim
 | .flatten i::r,σ,h=>by
  simp only[gh]at h
  split at h
  ·rename_i kd ag sz rows foc hi
   split at h
   ·split at h
    ·obtain⟨σ',h3,h4⟩:=FZ h
     exact⟨σ',CH.trans (QQ hi) h3,h4⟩
    ·exact h.elim
   ·exact h.elim
  ·exact h.elim
end Go.AM
namespace Go.AM
open Go Go.RowKit
def slotsOf:List V1→Nat→List (Nat×AV)
 | [],_=>[]
 | x::r,i=>(i,.v x)::slotsOf r (i+1)
def B9:List AF→Nat→List (Id×AF)
 | [],_=>[]
 | x::r,i=>(.ext i,x)::B9 r (i+1)
theorem LR:∀(l:List V1) (i t:Nat),Ad (slotsOf l i) t= .u∨∃x,i≤t∧l[t - i]?=some x∧Ad (slotsOf l i) t= .v x
 | [],i,t=>.inl rfl
 | x::r,i,t=>by
  show Ad ((i,.v x)::slotsOf r (i+1)) t=_∨∃y,i≤t∧(x::r)[t - i]?=some y∧Ad ((i,.v x)::slotsOf r (i+1)) t= .v y
  rw[DX]
  simp only[]
  split
  ·subst t;exact .inr ⟨x,Nat.le_refl _,by simp,rfl⟩
  ·rcases LR r (i+1) t with h | ⟨y,h1,h2,h3⟩
   ·exact .inl h
   ·refine .inr ⟨y,by omega,?_,h3⟩
    rw[show t - i=(t - (i+1))+1 from by omega]
    simpa using h2
theorem Mn:∀(l:List AF) (i:Nat) (x:Id) (o:AF),Aa (B9 l i) x=some o→∃j,x= .ext j∧i≤j∧l[j - i]?=some o
 | [],i,x,o,h=>by simp[B9,Aa]at h
 | y::r,i,x,o,h=>by
  rw[show B9 (y::r) i=(.ext i,y)::B9 r (i+1)from rfl,Cb]at h
  simp only[AP]at h
  split at h
  ·simp at h;subst h;subst x;exact⟨i,rfl,Nat.le_refl _,by simp⟩
  ·obtain⟨j,h1,h2,h3⟩:=Mn r (i+1) x o h
   refine⟨j,h1,by omega,?_⟩
   rw[show j - i=(j - (i+1))+1 from by omega]
   simpa using h3
theorem Mo:∀(l:List AF) (i j:Nat),Aa (B9 l i) (.ext (i+j))=l[j]?
 | [],i,j=>by simp[B9,Aa]
 | y::r,i,j=>by
  rw[show B9 (y::r) i=(.ext i,y)::B9 r (i+1)from rfl,Cb]
  simp only[AP]
  cases j with
  | zero=>simp
  | succ j=>
   rw[if_neg (by simp),show i+(j+1)=i+1+j from by omega,Mo r (i+1) j]
   simp
def Eo (ti:Types) (σ:St):List ResultVar→(List V1→Prop)→Prop
 | [],K=>K []
 | .tmp t::r,K=>Eg (Ad σ.slots t) fun x=>Eo ti σ r fun xs=>K (x.norm::xs)
 | .cell a t::r,K=>FR ti t (Ad σ.slots a) (Aa σ.heap) fun out=>Eg out.val fun x=>Eo ti σ r fun xs=>K (x.norm::xs)
def SH:List V1→AV
 | [x]=>.v x
 | xs=>.t xs
def Ce (nm:List Id) (N:Nat):Id→Id
 | .ext j=>.ext j
 | .loc k=>match nm[k]? with
  | some n=>n
  | none=>.loc N
def Mp:AF→Bool
 | .gone=>true
 | _=>false
theorem O0 {o:AF}(h:Mp o=true):o= .gone:=by cases o<;>first | rfl | simp[Mp]at h
def EW (h:Heap) (r:Id→Id):List AF→Nat→Prop
 | [],_=>True
 | o::l,j=>match Mp o with
  | true=>EW h r l (j+1)
  | false=>h (.ext j)=some (o.BM r)∧EW h r l (j+1)
def Jj (h:Heap) (r:Id→Id):List AF→List Id→Prop
 | [],[]=>True
 | o::l,n::nm=>h n=some (o.BM r)∧Jj h r l nm
 | _,_=>False
def FA (post:List AF):List Id→Prop
 | []=>True
 | .loc _::l=>FA post l
 | .ext j::l=>match post[j]? with
  | some o=>match Mp o with
   | true=>FA post l
   | false=>False
  | none=>False
def Lr (ti:Types) (rs:List ResultVar) (σ:St) (res:AV) (post new:List AF):Prop:=
 ∃gs,gh gs σ fun σ=>Eo ti σ rs fun xs=>∃nm:List Id,nodupB nm=true∧SH xs=res.BM (Ce nm σ.next)∧EW (Aa σ.heap) (Ce nm σ.next) post 0∧Jj (Aa σ.heap) (Ce nm σ.next) new nm∧FA post nm
theorem Mq {h:Heap}{r:Id→Id}:∀{l:List AF}{i j:Nat}{o:AF},EW h r l i→l[j]?=some o→o= .gone∨h (.ext (i+j))=some (o.BM r)
 | o::l,i,0,_,hp,hj=>by
  simp at hj
  subst hj
  unfold EW at hp
  split at hp
  ·rename_i hg;exact .inl (O0 hg)
  ·exact .inr hp.1
 | o::l,i,j+1,_,hp,hj=>by
  simp at hj
  have hp':EW h r l (i+1):=by
   unfold EW at hp
   split at hp
   ·exact hp
   ·exact hp.2
  have:=Mq (j:=j) hp' hj
  rw[show i+(j+1)=i+1+j from by omega]
  exact this
theorem GG {h:Heap}{r:Id→Id}:∀{l:List AF}{nm:List Id}{j:Nat}{o:AF},Jj h r l nm→l[j]?=some o→∃n,nm[j]?=some n∧h n=some (o.BM r)
 | o::l,n::nm,0,_,hp,hj=>by simp at hj;subst hj;exact⟨n,rfl,hp.1⟩
 | o::l,n::nm,j+1,_,hp,hj=>by
  simp at hj
  obtain⟨m,h1,h2⟩:=GG (j:=j) hp.2 hj
  exact⟨m,by simpa using h1,h2⟩
 | [],[],j,_,_,hj=>by simp at hj
 | [],_::_,_,_,hp,_=>hp.elim
 | _::_,[],_,_,hp,_=>hp.elim
theorem O1 {h:Heap}{r:Id→Id}:∀{l:List AF}{nm:List Id},Jj h r l nm→nm.length=l.length
 | o::l,n::nm,hp=>by simp[O1 hp.2]
 | [],[],_=>rfl
 | [],_::_,hp=>hp.elim
 | _::_,[],hp=>hp.elim
theorem JD {post:List AF}:∀{nm:List Id}{k j:Nat},FA post nm→nm[k]?=some (.ext j)→post[j]?=some .gone
 | [],k,j,_,h=>by simp at h
 | n::nm,0,j,hp,h=>by
  simp at h
  subst h
  simp only[FA]at hp
  split at hp
  ·rename_i o ho
   split at hp
   ·rename_i hg;rw[ho,O0 hg]
   ·exact hp.elim
  ·exact hp.elim
 | n::nm,k+1,j,hp,h=>by
  simp at h
  refine JD (k:=k) ?_ h
  cases n with
  | loc=>exact hp
  | ext i=>
   simp only[FA]at hp
   split at hp
   ·split at hp
    ·exact hp
    ·exact hp.elim
   ·exact hp.elim
section
variable {C:Cx}{ti:Types}{σ:St}{g:AY}{a:Act}{w:World}{F:Nat→Prop}
theorem aO (hti:BO C.P ti) (h1:Bt ti) (R:Ae C F (Ad σ.slots) (Aa σ.heap) g a w) {p:Tmp}{t:TypeId}{k:Out→Prop}
  (hk:FR ti t (Ad σ.slots p) (Aa σ.heap) k):∃out v ad,k out∧a.tmps.getD p undef= .pointer (some ad)∧(loadVar t ad).run C.P w= .ok v w∧Aw w (BH (zone g (Aa σ.heap)) C.X) g (Aa σ.heap) out.val v:=by
 obtain⟨out,hko,_,H⟩:=Od (C:=C) hti h1 t _ hk
 obtain⟨v,hv,hr⟩:=H F _ _ g a w _ R (R.slots p) (fun _ _=>rfl)
 refine⟨out,v,?_⟩
 revert hv
 generalize a.tmps.getD p undef=u
 intro hv
 cases u with
 | pointer ad=>
  cases ad with
  | none=>simp[Instr.loadAt,Instr.sureAddr]at hv
  | some ad=>exact⟨ad,hko,rfl,by simpa [Instr.loadAt,Instr.sureAddr] using hv,hr⟩
 | _=>simp[Instr.loadAt,Instr.sureAddr]at hv
def Mr (tmps:Array Value):ResultVar→Sem Value
 | .tmp t=>pure (tmps.getD t undef)
 | .cell a t=>do loadVar t (←asAddr (tmps.getD a undef))
theorem Fh (hti:BO C.P ti) (h1:Bt ti) (R:Ae C F (Ad σ.slots) (Aa σ.heap) g a w):∀(rs:List ResultVar) (K:List V1→Prop),Eo ti σ rs K→
  ∃xs vs,K xs∧(rs.mapM (Mr a.tmps)).run C.P w= .ok vs w∧vs.length=xs.length∧∀(j:Nat) x v,xs[j]?=some x→vs[j]?=some v→Aq w (BH (zone g (Aa σ.heap)) C.X) g (Aa σ.heap) x v
 | [],K,hk=>⟨[],[],hk,rfl,rfl,by simp⟩
 | .tmp t::r,K,hk=>by
  obtain⟨y,hy,hk⟩:=CZ.1 hk
  obtain⟨xs,vs,h2,h3,h4,h5⟩:=Fh hti h1 R r _ hk
  refine⟨y.norm::xs,a.tmps.getD t undef::vs,h2,by simp[List.mapM_cons,Mr,h3],by simp[h4],fun j x v hx hv=>?_⟩
  match j with
  | 0=>
   simp only[List.getElem?_cons_zero,Option.some.injEq]at hx hv
   subst hx;subst hv
   have:=R.slots t
   rw[hy]at this
   exact Aq.norm this
  | j+1=>simp at hx hv;exact h5 j x v hx hv
 | .cell p t::r,K,hk=>by
  obtain⟨out,v0,ad,hk,hp,hl,hr⟩:=aO hti h1 R hk
  obtain⟨y,hy,hk⟩:=CZ.1 hk
  obtain⟨xs,vs,h2,h3,h4,h5⟩:=Fh hti h1 R r _ hk
  refine⟨y.norm::xs,v0::vs,h2,by simp only[List.mapM_cons,Mr,hp,asAddr];simp[hl,h3],by simp[h4],fun j x v hx hv=>?_⟩
  match j with
  | 0=>
   simp only[List.getElem?_cons_zero,Option.some.injEq]at hx hv
   subst hx;subst hv
   rw[hy]at hr
   exact Aq.norm hr
  | j+1=>simp at hx hv;exact h5 j x v hx hv
theorem SI {fn:Func}{vs:List Value}(h:(fn.results.toList.mapM (Mr a.tmps)).run C.P w= .ok vs w):
  (results fn a.tmps).run C.P w= .ok (if h:vs.toArray.size=1 then vs.toArray[0]else .tuple vs.toArray) w:=by
 have e:results fn a.tmps=(do let vs ←fn.results.mapM (Mr a.tmps);pure (if h:vs.size=1 then vs[0]else .tuple vs)):=by
  unfold results
  congr 1
 rw[e,Array.mapM_eq_mapM_toList,Sem.run_bind,Sem.run_map,h]
 rfl
end
def BR.of (P:Program) (I:Inv):BR where
 I:=I
 P:=P
 split:=fun c A=>A c
 split_iff:=fun _ _=>Iff.rfl
 lock:=fun p=>p ()
 lock_iff:=fun _=>Iff.rfl
 eqI:=fun a b=>a==b
 eqI_eq:=fun _ _=>rfl
 ltI:=fun a b=>decide (a<b)
 ltI_eq:=fun _ _=>rfl
 leI:=fun a b=>decide (a≤b)
 leI_eq:=fun _ _=>rfl
 eqS:=fun a b=>a.toList==b.toList
 eqS_eq:=fun _ _=>rfl
 ltS:=fun a b=>Op.bytesLess a.toList b.toList
 ltS_eq:=fun _ _=>rfl
 lenI:=fun l=>l.length
 lenI_eq:=fun _=>rfl
 szI:=fun s=>s.size
 szI_eq:=fun _=>rfl
theorem finish {C:Cx}{σ:St}{g2:AY}{a:Act}{w':World}{X:Au}{post new:List AF}{nm:List Id}(R2:Ae C (fun n=>σ.next≤n) (Ad σ.slots) (Aa σ.heap) g2 a w') (hX:∀b o,X b o→C.X b o)
  (hnd:nm.Nodup) (hpost:EW (Aa σ.heap) (Ce nm σ.next) post 0) (hnewo:Jj (Aa σ.heap) (Ce nm σ.next) new nm) (hhand:FA post nm):
  E2 w' X (fun i=>g2 (Ce nm σ.next i)) (Bk post new)∧(∀i ob b o,Bk post new i=some ob→Bg (g2 (Ce nm σ.next i)) ob b o→∃j ob',Aa σ.heap j=some ob'∧Bg (g2 j) ob' b o)∧
   (∀k,new.length≤k→g2 (Ce nm σ.next (.loc k))=undef)∧
   ∀(x:AV) v,Aw w' (BH (zone g2 (Aa σ.heap)) C.X) g2 (Aa σ.heap) (x.BM (Ce nm σ.next)) v→Aw w' (BH (zone (fun i=>g2 (Ce nm σ.next i)) (Bk post new)) X) (fun i=>g2 (Ce nm σ.next i)) (Bk post new) x v:=by
 have live:∀i o,Bk post new i=some o→o= .gone∨Aa σ.heap (Ce nm σ.next i)=some (o.BM (Ce nm σ.next)):=by
  intro i o hi
  cases i with
  | ext j=>have:=Mq hpost hi;rw[Nat.zero_add]at this;exact this
  | loc k=>
   obtain⟨n,hn,ho⟩:=GG hnewo hi
   exact .inr (by simpa [Ce,hn] using ho)
 have hz:∀b o,BH (zone (fun i=>g2 (Ce nm σ.next i)) (Bk post new)) X b o→BH (zone g2 (Aa σ.heap)) C.X b o:=by
  rintro b o (⟨i,ob,hi,h1⟩ | hx)
  ·rcases live i ob hi with rfl | ho
   ·exact h1.elim
   ·exact .inl ⟨_,_,ho,CY.2 h1⟩
  ·exact .inr (hX b o hx)
 have ht:∀i n sz e,Bk post new i=some (.tok n sz e)→Aa σ.heap (Ce nm σ.next i)=some (.tok n sz e):=fun i n sz e hi=>(live i _ hi).resolve_left (by simp)
 have hw:∀i,isLive (Bk post new i)=true→isLive (Aa σ.heap (Ce nm σ.next i))=true:=by
  intro i hi
  cases ho:Bk post new i with
  | none=>rw[ho]at hi;cases hi
  | some o=>
   rw[ho]at hi
   rcases live i o ho with rfl | h
   ·cases hi
   ·rw[h]
    exact DP.trans hi
 have hN:=R2.free σ.next (Nat.le_refl _)
 refine⟨⟨fun i o hi=>?_,fun i j oi oj b hi hj bi bj=>?_,fun i oi b o hi bi=>?_⟩,fun i ob b o hi hb=>?_,fun k hk=>?_,fun x v h=>Aw.pull (r:=Ce nm σ.next) (g:=g2) (h:=Aa σ.heap) hz (fun _=>rfl) ht hw h⟩
 ·rcases live i o hi with rfl | ho
  ·trivial
  ·exact Bc.pull (r:=Ce nm σ.next) hz (fun _=>rfl) ht hw (R2.heap.objs _ _ ho)
 ·rcases live i oi hi with rfl | ho
  ·exact bi.elim
  rcases live j oj hj with rfl | ho'
  ·exact bj.elim
  have e:=R2.heap.sep _ _ _ _ b ho ho' (C0.2 bi) (C0.2 bj)
  cases i with
  | ext i=>
   cases j with
   | ext j=>simpa [Ce] using e
   | loc k=>
    obtain⟨n,hn,_⟩:=GG hnewo hj
    simp only[Ce,hn]at e
    subst e
    have:=JD hhand hn
    rw[show Bk post new (.ext i)=post[i]? from rfl,this]at hi
    cases hi
    exact bi.elim
  | loc k=>
   obtain⟨n,hn,_⟩:=GG hnewo hi
   cases j with
   | ext j=>
    simp only[Ce,hn]at e
    subst e
    have:=JD hhand hn
    rw[show Bk post new (.ext j)=post[j]? from rfl,this]at hj
    cases hj
    exact bj.elim
   | loc k'=>
    obtain⟨n',hn',_⟩:=GG hnewo hj
    simp only[Ce,hn,hn']at e
    subst e
    rw[(List.getElem?_inj (List.getElem?_eq_some_iff.1 hn).1 hnd).1 (hn.trans hn'.symm)]
 ·rcases live i oi hi with rfl | ho
  ·exact bi.elim
  ·intro hx
   exact R2.heap.apart _ _ b o ho (C0.2 bi) (hX b o hx)
 ·rcases live i ob hi with rfl | ho
  ·exact hb.elim
  ·exact⟨_,_,ho,CY.2 hb⟩
 ·have:nm[k]?=none:=by simp[O1 hnewo];omega
  simp only[Ce,this]
  exact hN.1
theorem LS {P:Program}{fn:Func}{tmps:Array Value}{R:Ending→World→Prop}:∀(ds:List Nat) (w:World),ds.Nodup→(∀r∈ds,w.heap[r]?=some (.deferred (some [])))→
  LeavesIn Fence.wide 0 P fn tmps R [] .returning (ds.foldl (fun w r=>w.putObj r (.deferred none)) w)→LeavesInM Fence.wide 0 P fn tmps R (ds.map Ha) .returning w
 | [],w,_,_,h=>h
 | r::ds,w,hn,hd,h=>by
  refine⟨by simp,.inl ⟨r,_,rfl,run_takeDeferred (hd r (by simp)),?_⟩⟩
  refine LS ds _ (List.nodup_cons.1 hn).2 (fun r' hr'=>?_) h
  exact (World.putObj_heap_other (by rintro rfl;exact (List.nodup_cons.1 hn).1 hr')).trans (hd r' (by simp[hr']))
theorem LU:∀(ds:List Nat) (w:World),EU (fun b=>b∈ds) w (ds.foldl (fun w r=>w.putObj r (.deferred none)) w)
 | [],w=>⟨rfl,rfl,rfl,Nat.le_refl _,fun _ _ _=>rfl⟩
 | r::ds,w=>by
  have:=LU ds (w.putObj r (.deferred none))
  refine⟨this.os,this.tape,this.output,by simpa using this.size,fun b hb hn=>?_⟩
  simp only[List.mem_cons,not_or]at hn
  exact (this.block b (by simpa using hb) hn.2).trans (World.putObj_heap_other hn.1)
theorem Ms:∀(ds:List Nat) (w:World),(ds.foldl (fun w r=>w.putObj r (.deferred none)) w).heap.size=w.heap.size
 | [],_=>rfl
 | r::ds,w=>by
  have:=Ms ds (w.putObj r (.deferred none))
  rw[World.putObj_size]at this
  exact this
theorem Ae.turned {C:Cx}{F:Nat→Prop}{s:AX}{h:Heap}{g:AY}{a a':Act}{w w':World}(R:Ae C F s h g a w) {B:Nat→Prop}(A:EU B w w') (hs:w'.heap.size=w.heap.size) (hB:∀b o,B b→C.X b o) (hI:∀b,C.M.I.blocks b→¬B b) (ht:a'.tmps=a.tmps) (ro:Option Nat)
  (hro:∀l,ro=some l→(∃L,w'.heap[l]?=some (.loop L))∧∀o,C.X l o) (hd:a'.defers=[]):
  ∃C2:Cx,C2.M=C.M∧C2.nt=C.nt∧C2.X=C.X∧C2.ro=ro∧C2.w0=w'∧C2.Z0=zone g h∧C2.g0=g∧C2.D=[]∧Ae C2 F s h g a' w':=by
 have hX:∀b o,C.X b o→b<w.heap.size:=fun b o hx=>Nat.lt_of_lt_of_le (R.xs b o hx) R.frame.size
 have noz:∀b,(∀o,C.X b o)→∀o,¬zone g h b o:=by
  rintro b hx o ⟨i,ob,hi,hz⟩
  exact R.heap.apart i ob b o hi hz.Ii (hx o)
 have hinv:C.M.I.at w' (BH (zone g h) C.X):=by
  obtain⟨i1,i2⟩:=R.inv
  refine⟨C.M.I.same (fun b hb=>A.block b (i2 b hb).1 (hI b hb)) i1,fun b hb=>⟨by rw[hs];exact (i2 b hb).1,(i2 b hb).2⟩⟩
 refine⟨{M:=C.M,nt:=C.nt,w0:=w',Z0:=zone g h,X:=C.X,g0:=g,hinv:=hinv,ro:=ro,D:=[],hro:=fun l hl=>⟨(hro l hl).1,noz l (hro l hl).2⟩,hD:=by simp,hDn:=List.nodup_nil},rfl,rfl,rfl,rfl,rfl,rfl,rfl,rfl,?_⟩
 refine R.RN A rfl rfl (fun i o hi=>.inl hi) (fun b o hb=>.inr (hB b o hb)) ?_ (fun b o hx=>.inl (.inr hx)) (fun b o hx=>by rw[hs];exact hX b o hx) (fun i ob b o hi hb hx=>R.heap.apart i ob b o hi hb hx) rfl (fun b o hz=>hz) (fun j=>.refl _) ht hd (fun n hn=>(R.free n hn).2)
 intro i ob b hi hb hBb
 exact R.heap.apart i ob b 0 hi hb (hB b 0 hBb)
theorem Mt {C:Cx}{P:Program}{sl:List (Nat×AV)}{pre:List AF}{g:AY}{a:Act}{w:World}(hsz:a.tmps.size=C.nt) (hd:a.defers=C.D.map Ha) (hsl:∀t,Aw w (BH (zone g (Ax pre)) C.X) g (Ax pre) (Ad sl t) (a.tmps.getD t undef))
  (RH:E2 w C.X g (Ax pre)) (hw0:C.w0=w) (hg0:C.g0=g) (hZ:∀b o,zone g (Ax pre) b o→C.Z0 b o) (hX:∀b o,C.X b o→b<w.heap.size) (hg:∀n,g (.loc n)=undef):CO C ⟨sl,B9 pre 0,0⟩ a w:=by
 have hh:Aa (B9 pre 0)=Ax pre:=by
  funext i
  cases i with
  | ext j=>have:=Mo pre 0 j;rw[Nat.zero_add]at this;exact this
  | loc n=>
   cases hc:Aa (B9 pre 0) (.loc n)with
   | none=>rfl
   | some o=>obtain⟨j,e,_⟩:=Mn pre 0 _ o hc;simp at e
 refine⟨g,?_⟩
 rw[hh]
 exact⟨hsz,hd,hsl,RH,by rw[hw0];exact Bl.refl _ _,fun j=>by rw[hg0];exact .refl _,fun j ob b o hj hz=>.inl (hZ b o ⟨_,_,hj,hz⟩),by rw[hw0];exact hX,fun n _=>⟨hg n,rfl⟩⟩
theorem Du.intro {P:Program}{I:Inv}{ti:Types}(dr:BR→Nat→Wu) (hti:BO P ti) (h1:Bt ti) (hdr:∀C:Cx,C.P=P→Kg C (dr C.M C.nt)) {f:FuncId}{fn:Func}{c:Code}(hf:P.funcs[f]?=some fn) (hb:fn.body=some c)
  (hname:(fn.name== "runtime.NumGoroutine")=false) {args:List V1} {pre:List AF} {Q:AV→List AF→List AF→Prop} (hargs:args.length≤fn.ntmps)
  (hx:∀M:BR,M.P=P→M.I=I→exec M ti fn.ntmps (dr M fn.ntmps) c ⟨slotsOf args 0,B9 pre 0,0⟩ fun e σ=>match e with
   | .exit _=>False
   | .normal=>∃res post new,Q res post new∧Lr ti fn.results.toList σ res post new
   | .ret=>∃res post new,Q res post new∧Lr ti fn.results.toList σ res post new):Du P I f args pre Q:=by
 refine⟨⟨fn,c,hf,hb,hname⟩,?_⟩
 intro w X g vals hX hI RH hg hsz hargs'
 let C:Cx:={M:=BR.of P I,nt:=fn.ntmps,w0:=w,Z0:=zone g (Ax pre),X:=X,g0:=g,hinv:=hI,ro:=none,D:=[],hro:=fun l hl=>(by cases hl),hD:=fun r hr=>(by cases hr),hDn:=List.nodup_nil}
 have R0:CO C ⟨slotsOf args 0,B9 pre 0,0⟩ {tmps:=vals++Array.replicate (fn.ntmps - vals.size) undef,defers:=[]} w:=by
  refine Mt (P:=P) (by simp[C];omega) rfl (fun t=>?_) RH rfl rfl (fun _ _ h=>h) hX hg
  rcases LR args 0 t with h | ⟨x,_,h2,h3⟩
  ·rw[h];trivial
  ·rw[h3]
   simp only[Nat.sub_zero]at h2
   have hlt:t<vals.size:=by rw[hsz];exact (List.getElem?_eq_some_iff.1 h2).1
   have:(vals++Array.replicate (fn.ntmps - vals.size) undef).getD t undef=vals[t]:=by
    simp[Array.getElem?_append,hlt]
   show Aq w _ g _ x ((vals++Array.replicate (fn.ntmps - vals.size) undef).getD t undef)
   rw[this]
   exact hargs' t x _ h2 (by simp[hlt])
 refine callsIn_wide.1 (callsIn_of_wp_marks (n:=0) hf hb trivial (wpIn_mono (Bx (M:=BR.of P I) (ro:=none) hti h1 (fun C hC hn=>by
  have:=hdr C (by show C.M.P=P;rw[hC];rfl)
  rw[hC,hn]at this
  exact this) c _ _ C _ w rfl rfl rfl (hx (BR.of P I) rfl rfl) R0) ?_))
 have fin:∀(C':Cx) (σ:St) (a':Act) (w':World),EN C C'→(∃res post new,Q res post new∧Lr ti fn.results.toList σ res post new)→CO C' σ a' w'→
   LeavesInM Fence.wide 0 P fn a'.tmps (fun e w'=>∃v g' res post new,Q res post new∧e= .returned v∧F3 w X g pre res post new v w' g') a'.defers .returning w':=by
  rintro C' σ0 a' w' hle ⟨res,post,new,hQ,gs,hfin⟩ R0
  obtain⟨σ,hweak,hfin⟩:=FZ hfin
  obtain⟨g1,R1⟩:=hweak _ _ _ R0
  rw[R1.defers]
  obtain⟨ds,hds,hds2⟩:=hle.marks
  have hds:C'.D=ds:=by rw[hds];exact List.append_nil ds
  refine LS _ _ C'.hDn (fun r hr=>(R1.kept (C'.hD r hr).1 (C'.hD r hr).2).1) ?_
  have A:=LU C'.D w'
  generalize hw2:C'.D.foldl (fun w r=>w.putObj r (.deferred none)) w'=w2 at A ⊢
  have hsz2:w2.heap.size=w'.heap.size:=by rw[←hw2];exact Ms _ _
  obtain⟨C2,c1,c2,c3,c4,c5,c6,c7,c8,R2⟩:=R1.turned (a':={tmps:=a'.tmps,defers:=[]}) A hsz2 (fun b o hb=>(hds2 b (hds▸hb)).2 o) (fun b hb hd=>(R1.inv.2 b hb).2 0 (.inr ((hds2 b (hds▸hd)).2 0))) rfl none (fun l hl=>by cases hl) rfl
  have hti2:BO C2.P ti:=by show BO C2.M.P ti;rw[c1,hle.M];exact hti
  have hP:C2.P=P:=by show C2.M.P=P;rw[c1,hle.M];rfl
  obtain⟨xs,vs,⟨nm,hnd,hres,hpost,hnewo,hhand⟩,hrun,hlen,hrel⟩:=Fh (C:=C2) hti2 h1 R2 _ _ hfin
  obtain⟨f1,f2,f3,f4⟩:=finish (X:=X) R2 (fun b o hx=>by rw[c3];exact hle.X b o hx) (Dw.1 hnd) hpost hnewo hhand
  obtain⟨d1,d2,d3⟩:=hle.down R1
  have hrr:=SI (C:=C2) hrun
  rw[hP]at hrr
  refine⟨_,hrr,_,fun i=>g1 (Ce nm σ.next i),res,post,new,hQ,rfl,⟨f1,?_,?_,fun j=>d2 j,fun i ob b o hi hb=>?_,f3⟩⟩
  ·refine f4 res _ ?_
   rw[←hres]
   have other:xs.length≠1→Aw w2 (BH (zone g1 (Aa σ.heap)) C2.X) g1 (Aa σ.heap) (.t xs) (.tuple vs.toArray):=fun _=>
    ⟨vs.toArray,rfl,by simpa using hlen,fun j x v hx hv=>hrel j x v hx (by simpa using hv)⟩
   match xs,vs,hlen,hrel,other with
   | [x],[v],_,hrel,_=>exact hrel 0 x v rfl rfl
   | [],[],_,_,other=>exact other (by simp)
   | x::y::xs,v::u::vs,hl,_,other=>
    have:¬(v::u::vs).toArray.size=1:=by simp
    simp only[dif_neg this]
    exact other (by simp)
  ·exact d1.then (Z':=fun b _=>b∈C'.D) ⟨A.os,A.tape,A.output,A.size,fun b hb hn=>A.block b hb (hn 0),fun b o u hu hn=>A.cell hu hn⟩ (fun p o hp=>.inr (hds2 p (hds▸hp)).1)
  ·obtain⟨j,ob',hj,hz⟩:=f2 i ob b o hi hb
   exact d3 j ob' b o hj hz
 intro e a' w' hq
 cases e with
 | normal=>obtain⟨C',hle,σ,hf',hr⟩:=hq;exact fin C' σ a' w' hle hf' hr
 | ret=>obtain⟨C',hle,σ,hf',hr⟩:=hq;exact fin C' σ a' w' hle hf' hr
 | exit id=>obtain⟨C',hle,σ,hf',hr⟩:=hq;exact hf'.elim
 | goto l=>exact hq.elim
 | panic ch=>exact hq.elim
 | outgrown=>exact hq.elim
end Go.AM
namespace Go.AM
open Go Go.RowKit
def O2:List Tmp→List V1→List (Nat×AV)→List (Nat×AV)
 | p::ps,x::xs,s=>O2 ps xs ((p,.v x)::s)
 | _,_,s=>s
theorem SJ {ps:Array Tmp}{vals tmps:Array Value}:(EV ps vals tmps).size=tmps.size:=by
 unfold EV
 rw[←Array.foldl_toList]
 generalize (ps.zip vals).toList=l
 induction l generalizing tmps with
 | nil=>rfl
 | cons x l ih=>
  simp only[List.foldl_cons]
  exact ih.trans (by simp)
theorem O3 {w:World}{Z:Au}{g:AY}{h:Heap}:∀{ps:List Tmp}{xs:List V1}{vs:List Value}{s:List (Nat×AV)}{tmps:Array Value},xs.length=ps.length→vs.length=xs.length→(∀p∈ps,p<tmps.size)→
  (∀(j:Nat) x v,xs[j]?=some x→vs[j]?=some v→Aq w Z g h x v)→(∀t,Aw w Z g h (Ad s t) (tmps.getD t undef))→
  ∀t,Aw w Z g h (Ad (O2 ps xs s) t) (((ps.zip vs).foldl (fun t x=>t.setIfInBounds x.1 x.2) tmps).getD t undef)
 | [],[],[],s,tmps,_,_,_,_,hs=>hs
 | p::ps,x::xs,v::vs,s,tmps,h1,h2,h3,h4,hs=>by
  refine O3 (ps:=ps) (xs:=xs) (vs:=vs) (by simpa using h1) (by simpa using h2) (fun q hq=>by simpa using h3 q (by simp[hq])) (fun j x v hx hv=>h4 (j+1) x v (by simpa using hx) (by simpa using hv)) ?_
  intro t
  rw[DX]
  simp only[]
  split
  ·subst t
   have:=h3 p (by simp)
   rw[Array.getD_eq_getD_getElem?,Array.getElem?_setIfInBounds_self_of_lt this]
   exact h4 0 x v rfl rfl
  ·rename_i hne
   rw[Array.getD_eq_getD_getElem?,Array.getElem?_setIfInBounds_ne (Ne.symm hne),←Array.getD_eq_getD_getElem?]
   exact hs t
 | [],_::_,_,_,_,h1,_,_,_,_=>by simp at h1
 | _::_,[],_,_,_,h1,_,_,_,_=>by simp at h1
 | [],[],_::_,_,_,_,h2,_,_,_=>by simp at h2
 | _::_,_::_,[],_,_,_,h2,_,_,_=>by simp at h2
def D3:CC→Jump
 | .normal=>none
 | .ret=>some none
 | .exit id=>some (some id)
def aP (σ:St) (post new:List AF):Prop:=
 ∃gs,gh gs σ fun σ=>∃nm:List Id,nodupB nm=true∧EW (Aa σ.heap) (Ce nm σ.next) post 0∧Jj (Aa σ.heap) (Ce nm σ.next) new nm∧FA post nm
theorem DT.intro {P:Program}{I:Inv}{ti:Types}(dr:BR→Nat→Wu) (hti:BO P ti) (h1:Bt ti) (hdr:∀C:Cx,C.P=P→Kg C (dr C.M C.nt)) {r:RF}{sl:List (Nat×AV)}{args:List V1}{pre:List AF}{Q:Jump→List AF→List AF→Prop}
  (hlen:args.length=r.params.size) (hps:B3 (fun p=>Nat.blt p r.nt) r.params.toList=true)
  (hx:∀M:BR,M.P=P→M.I=I→exec M ti r.nt (dr M r.nt) r.assign ⟨O2 r.params.toList args sl,B9 pre 0,0⟩ fun e σ=>match e with
   | .normal=>exec M ti r.nt (dr M r.nt) r.body σ fun e σ=>∃post new,Q (D3 e) post new∧aP σ post new
   | _=>False):DT P I r sl args pre Q:=by
 refine⟨hlen,?_⟩
 intro l L w X g vals hX hXl hl l1 l2 l3 l4 l5 l6 hI RH hg hsz hargs hsl
 have hlt:l<w.heap.size:=(Array.getElem?_eq_some_iff.1 hl).1
 have noz:∀{X:Au} {w:World} {g:AY} {h:Heap},E2 w X g h→(∀o,X l o)→∀o,¬zone g h l o:=by
  rintro X w g h RH hx o ⟨i,ob,hi,hz⟩
  exact RH.apart i ob l o hi hz.Ii (hx o)
 let C:Cx:={M:=BR.of P I,nt:=r.nt,w0:=w,Z0:=zone g (Ax pre),X:=X,g0:=g,hinv:=hI,ro:=some l,D:=[],hro:=fun l' hl'=>(by cases hl';exact⟨⟨L,hl⟩,noz RH hXl⟩),hD:=fun r hr=>(by cases hr),hDn:=List.nodup_nil}
 have hdr':∀C':Cx,C'.M=BR.of P I→C'.nt=r.nt→Kg C' (dr (BR.of P I) r.nt):=fun C' hC hn=>by
  have:=hdr C' (by show C'.M.P=P;rw[hC];rfl)
  rw[hC,hn]at this
  exact this
 have R0:CO C ⟨O2 r.params.toList args sl,B9 pre 0,0⟩ {tmps:=EV L.params vals L.tmps,defers:=[]} w:=by
  refine Mt (P:=P) (by show (EV L.params vals L.tmps).size=r.nt;rw[SJ];exact l6) rfl (fun t=>?_) RH rfl rfl (fun _ _ h=>h) hX hg
  have:=O3 (ps:=r.params.toList) (xs:=args) (vs:=vals.toList) (s:=sl) (tmps:=L.tmps) (by simpa using hlen) (by simpa using hsz) (fun p hp=>by
   have:=BN.1 hps p hp
   rw[l6]
   exact Nat.lt_of_succ_le (by simpa [Nat.blt] using this)) (fun j x v hx hv=>hargs j x v hx (by simpa using hv)) hsl t
  show Aw _ _ _ _ _ ((EV L.params vals L.tmps).getD t undef)
  unfold EV
  rw[l3,←Array.foldl_toList,Array.toList_zip]
  exact this
 have h1x:=hx (BR.of P I) rfl rfl
 refine roundIn_of_wpIn (F:=Fence.wide) trivial ?_
 rw[l4,l5]
 refine wpIn_mono (Bx (M:=BR.of P I) (ro:=some l) hti h1 hdr' r.assign _ _ C _ w rfl rfl rfl h1x R0) ?_
 intro e a1 w1 hq
 cases e with
 | normal=>
  obtain⟨C1,hle,σ1,hk1,g1,R1⟩:=hq
  obtain⟨d1,d2,d3⟩:=hle.down R1
  have hXl1:∀o,C1.X l o:=fun o=>hle.X l o (hXl o)
  have hl1:w1.heap[l]?=some (.loop L):=(d1.block l hlt (noz RH hXl)).trans hl
  have hlt1:l<w1.heap.size:=(Array.getElem?_eq_some_iff.1 hl1).1
  refine⟨w1.putObj l (.loop {L with state:=.busy}),run_beginRound hl1 l1,?_⟩
  have A:EU (fun b=>b=l) w1 (w1.putObj l (.loop {L with state:=.busy})):=⟨rfl,rfl,rfl,by simp,fun b _ hb=>World.putObj_heap_other hb⟩
  have hl2:(w1.putObj l (.loop {L with state:=.busy})).heap[l]?=some (.loop {L with state:=.busy}):=World.putObj_heap_same hlt1
  obtain⟨C2,c1,c2,c3,c4,c5,c6,c7,c8,R2⟩:=R1.turned (a':={tmps:=a1.tmps,defers:=[]}) A World.putObj_size (fun b o hb=>by subst hb;exact hXl1 o) (fun b hb hd=>(R1.inv.2 b hb).2 0 (.inr (by subst hd;exact hXl1 0))) rfl (some l) (fun l' hl'=>by cases hl';exact⟨⟨_,hl2⟩,hXl1⟩) rfl
  have ha1:a1={tmps:=a1.tmps,defers:=[]}:=by
   have hd:=R1.defers
   rw[hle.same (by simp[C])]at hd
   show a1=⟨a1.tmps,[]⟩
   rw[←show a1.defers=[]from hd]
  rw[ha1]
  refine wpIn_mono (Bx (M:=BR.of P I) (ro:=some l) hti h1 hdr' r.body σ1 _ C2 _ _ (c1.trans hle.M) (c2.trans hle.nt) c4 hk1 ⟨g1,R2⟩) ?_
  have fin:∀(e:CC) (a2:Act) (w3:World),(∃C3,EN C2 C3∧∃σ,(∃post new,Q (D3 e) post new∧aP σ post new)∧CO C3 σ a2 w3)→
    ∃v w',(Instr.endRound l ((D3 e).map E6)).run P w3= .ok v w'∧∃jump g' post new,Q jump post new∧Ending.returned v= .returned (.bool jump.isNone)∧Ol l L w X g pre jump post new w' g':=by
   rintro e a2 w3 ⟨C3,hle3,σ0,⟨post,new,hQ,gs,hfin⟩,R3⟩
   obtain⟨σ,hweak,nm,hnd,hpost,hnewo,hhand⟩:=FZ hfin
   obtain⟨g3,R3⟩:=hweak _ _ _ R3
   obtain⟨f1,f2,f3⟩:=hle3.down R3
   have hXl3:∀o,C3.X l o:=fun o=>hle3.X l o (by rw[c3];exact hXl1 o)
   have hz2:∀o,¬C2.Z0 l o:=by rw[c6];exact noz R1.heap hXl1
   have hl3:w3.heap[l]?=some (.loop {L with state:=.busy}):=by
    have:=f1.block l (by rw[c5,World.putObj_size];exact hlt1) hz2
    rw[c5]at this
    exact this.trans hl2
   have hlt3:l<w3.heap.size:=(Array.getElem?_eq_some_iff.1 hl3).1
   refine⟨_,_,run_endRound _ hl3,?_⟩
   have A3:EU (fun b=>b=l) w3 (w3.putObj l (.loop {L with state:=if ((D3 e).map E6).isNone then .ready else .done,pending:=(D3 e).map E6})):=⟨rfl,rfl,rfl,by simp,fun b _ hb=>World.putObj_heap_other hb⟩
   obtain⟨C4,k1,k2,k3,k4,k5,k6,k7,k8,R4⟩:=R3.turned (a':={tmps:=a2.tmps,defers:=[]}) A3 World.putObj_size (fun b o hb=>by subst hb;exact hXl3 o) (fun b hb hd=>(R3.inv.2 b hb).2 0 (.inr (by subst hd;exact hXl3 0))) rfl none (fun l' hl'=>by cases hl') rfl
   obtain⟨q1,q2,q3,_⟩:=finish (X:=X) R4 (fun b o hx=>by rw[k3];exact hle3.X b o (by rw[c3];exact hle.X b o hx)) (Dw.1 hnd) hpost hnewo hhand
   have isn:((D3 e).map E6).isNone=(D3 e).isNone:=by cases D3 e<;>rfl
   have zin:∀b o,C2.Z0 b o→zone g (Ax pre) b o∨w.heap.size≤b:=by
    intro b o hz
    rw[c6]at hz
    obtain⟨i,ob,hi,h3⟩:=hz
    exact d3 i ob b o hi h3
   have fr:Bl (fun b o=>zone g (Ax pre) b o∨b=l) w (w3.putObj l (.loop {L with state:=if ((D3 e).map E6).isNone then .ready else .done,pending:=(D3 e).map E6})):=by
    have s1:Bl (fun b o=>zone g (Ax pre) b o∨b=l) w w1:=d1.weaken (fun b o h=>.inl h)
    have one:∀{a b:World},EU (fun b=>b=l) a b→Bl (fun b _=>b=l) a b:=fun A=>⟨A.os,A.tape,A.output,A.size,fun b hb hn=>A.block b hb (fun e=>hn 0 e),fun b o u hu hn=>A.cell hu hn⟩
    have s2:=s1.then (one A) (fun p o h=>.inl (.inr h))
    have s3:=s2.then (by have:=f1;rw[c5]at this;exact this) (fun p o h=>(zin p o h).imp .inl id)
    exact s3.then (one A3) (fun p o h=>.inl (.inr h))
   refine⟨D3 e,fun i=>g3 (Ce nm σ.next i),post,new,hQ,by rw[isn],⟨q1,fr,?_,fun j=>?_,fun i ob b o hi hb=>?_,q3⟩⟩
   ·rw[World.putObj_heap_same hlt3,isn]
   ·have e1:=d2 j
    have e2:=f2 j
    rw[c7]at e2
    exact e1.trans e2
   ·obtain⟨j,ob',hj,hz⟩:=q2 i ob b o hi hb
    rcases f3 j ob' b o hj hz with h | h
    ·exact zin b o h
    ·rw[c5,World.putObj_size]at h
     exact .inr (Nat.le_trans d1.size h)
  intro e a2 w3 hq
  cases e with
  | normal=>exact fin .normal a2 w3 hq
  | ret=>exact fin .ret a2 w3 hq
  | exit id=>exact fin (.exit id) a2 w3 hq
  | goto l=>exact hq.elim
  | panic ch=>exact hq.elim
  | outgrown=>exact hq.elim
 | exit id=>obtain⟨_,_,_,hk,_⟩:=hq;exact hk.elim
 | ret=>obtain⟨_,_,_,hk,_⟩:=hq;exact hk.elim
 | goto l=>exact hq.elim
 | panic ch=>exact hq.elim
 | outgrown=>exact hq.elim
end Go.AM
namespace Go.AM
open Go Go.RowKit
theorem UX {P:Program}{ti:Types}(hti:BO P ti) (h1:Bt ti) (hm:P.follows .mixedOrders=true):∀C:Cx,C.P=P→Kg C (Bi ti C.M C.nt):=fun C hC=>by
 have hti':BO C.P ti:=by rw[hC];exact hti
 have hm':C.P.follows .mixedOrders=true:=by rw[hC];exact hm
 exact aL hti' h1 hm'
theorem Du.of {P:Program}{I:Inv}{ti:Types}(hti:BO P ti) (h1:Bt ti) (hm:P.follows .mixedOrders=true) {f:FuncId}{fn:Func}{c:Code}(hf:P.funcs[f]?=some fn) (hb:fn.body=some c)
  (hname:(fn.name== "runtime.NumGoroutine")=false) {args:List V1} {pre:List AF} {Q:AV→List AF→List AF→Prop} {nt:Nat} (hnt:fn.ntmps=nt) (hargs:Nat.ble args.length nt=true) {rs:List ResultVar} (hrs:fn.results.toList=rs)
  (hx:∀M:BR,M.P=P→M.I=I→exec M ti nt (Bi ti M nt) c ⟨slotsOf args 0,B9 pre 0,0⟩ fun e σ=>match e with
   | .exit _=>False
   | .normal=>∃res post new,Q res post new∧Lr ti rs σ res post new
   | .ret=>∃res post new,Q res post new∧Lr ti rs σ res post new):Du P I f args pre Q:=by
 subst hnt
 subst hrs
 exact Du.intro (fun M nt=>Bi ti M nt) hti h1 (UX hti h1 hm) hf hb hname (Nat.le_of_ble_eq_true hargs) hx
theorem Ah.of {P:Program}{I:Inv}{ti:Types}(hti:BO P ti) (h1:Bt ti) (hm:P.follows .mixedOrders=true) {f:FuncId}{fn:Func}{c:Code}(hf:P.funcs[f]?=some fn) (hb:fn.body=some c)
  (hname:(fn.name== "runtime.NumGoroutine")=false) {args:List V1} {pre post new:List AF} {res:AV} {nt:Nat} (hnt:fn.ntmps=nt) (hargs:Nat.ble args.length nt=true) {rs:List ResultVar} (hrs:fn.results.toList=rs)
  (hx:∀M:BR,M.P=P→M.I=I→exec M ti nt (Bi ti M nt) c ⟨slotsOf args 0,B9 pre 0,0⟩ fun e σ=>match e with
   | .exit _=>False
   | .normal=>∃r p n,(r=res∧p=post∧n=new)∧Lr ti rs σ r p n
   | .ret=>∃r p n,(r=res∧p=post∧n=new)∧Lr ti rs σ r p n):Ah P I f args pre res post new:=
 Du.of hti h1 hm hf hb hname hnt hargs hrs hx
theorem AR {ti:Types}{rs:List ResultVar}{σ:St}{res:AV}{post new:List AF}(h:Eo ti σ rs fun xs=>∃nm:List Id,nodupB nm=true∧SH xs=res.BM (Ce nm σ.next)∧EW (Aa σ.heap) (Ce nm σ.next) post 0∧Jj (Aa σ.heap) (Ce nm σ.next) new nm∧FA post nm):
  ∃r p n,(r=res∧p=post∧n=new)∧Lr ti rs σ r p n:=⟨_,_,_,⟨rfl,rfl,rfl⟩,[],h⟩
theorem Du.at {P:Program}{I:Inv}{M:BR}{f:FuncId}{args:List V1}{pre:List AF}{Q:AV→List AF→List AF→Prop}(hP:M.P=P) (hI:M.I=I) (h:Du P I f args pre Q):Du M.P M.I f args pre Q:=by rw[hP,hI];exact h
theorem DT.of {P:Program}{I:Inv}{M:BR}(hP:M.P=P) (hI:M.I=I) {ti:Types}(hti:BO P ti) (h1:Bt ti) (hm:P.follows .mixedOrders=true) {r:RF}{sl:List (Nat×AV)}{args:List V1}{pre:List AF}{Q:Jump→List AF→List AF→Prop}{nt:Nat}{ps:List Tmp}{ca cb:Code}
  (hnt:r.nt=nt) (hpl:r.params.toList=ps) (ha:r.assign=ca) (hb:r.body=cb) (hlen:args.length=ps.length) (hps:B3 (fun p=>Nat.blt p nt) ps=true)
  (hx:∀M:BR,M.P=P→M.I=I→exec M ti nt (Bi ti M nt) ca ⟨O2 ps args sl,B9 pre 0,0⟩ fun e σ=>match e with
   | .normal=>exec M ti nt (Bi ti M nt) cb σ fun e σ=>∃post new,Q (D3 e) post new∧aP σ post new
   | _=>False):DT M.P M.I r sl args pre Q:=by
 subst hnt
 subst hpl
 subst ha
 subst hb
 rw[hP,hI]
 exact DT.intro (fun M nt=>Bi ti M nt) hti h1 (UX hti h1 hm) (by simpa using hlen) hps hx
section
variable {M:BR}{A:Bool→Prop}
theorem Av {a b:Int}(h1:a=b→A true) (h0:a≠b→A false):M.split (M.eqI a b) A:=by
 rw[M.split_iff,M.eqI_eq]
 by_cases h:a=b
 ·rw[beq_iff_eq.2 h];exact h1 h
 ·rw[beq_eq_false_iff_ne.2 h];exact h0 h
theorem Bu {a b:Int}(h1:a<b→A true) (h0:b≤a→A false):M.split (M.ltI a b) A:=by
 rw[M.split_iff,M.ltI_eq]
 by_cases h:a<b
 ·rw[decide_eq_true h];exact h1 h
 ·rw[decide_eq_false h];exact h0 (by omega)
theorem YI {a b:Int}(h:¬a<b) (h0:A false):M.split (M.ltI a b) A:=Bu (fun e=>absurd e h) (fun _=>h0)
theorem Jk {a b:Int}(h1:a≤b→A true) (h0:b<a→A false):M.split (M.leI a b) A:=by
 rw[M.split_iff,M.leI_eq]
 by_cases h:a≤b
 ·rw[decide_eq_true h];exact h1 h
 ·rw[decide_eq_false h];exact h0 (by omega)
theorem gV {a b:ByteArray}(h1:(a.toList==b.toList)=true→A true) (h0:(a.toList==b.toList)=false→A false):M.split (M.eqS a b) A:=by
 rw[M.split_iff,M.eqS_eq]
 cases h:(a.toList==b.toList)
 ·exact h0 h
 ·exact h1 h
end
section
variable {M:BR}{f:FuncId}{args:List V1}{fresh:Nat}{h:Heap}{k:Out→Prop}{targs:List V1}{res:AV}
theorem AQ {P:Program}{I:Inv}(hP:M.P=P) (hI:M.I=I) (ht:Ah P I f targs [] res [] []) (he:args=targs.map (V1.BM (BZ [] fresh))) (hk:k ⟨res.BM (BZ [] fresh),[],[]⟩):
  M.lock fun _=>Lz M.P M.I f args fresh h k:=
 (M.lock_iff _).2 ⟨[],targs,[],res,[],[],hP▸hI▸ht,he,rfl,List.nodup_nil,by simp,trivial,by simp,hk⟩
theorem UY {ti:Types}{o:Oper}{c:Call}{x:Operand}{s:AX}(ho:o.op= .call c) (hc:c.callee= .value x) (hk:MP h (fun h'=>Bs M ti o fresh s h') k):Eh M ti o fresh s h k:=by
 unfold Eh
 rw[ho]
 simp only[]
 rw[hc]
 exact .inr (.inl hk)
theorem AZ {ti:Types}{o:Oper}{c:Call}{x:Operand}{s:AX}{X:Prop}(ho:o.op= .call c) (hc:c.callee= .value x) (hk:Bs M ti o fresh s h k):M.lock fun _=>Eh M ti o fresh s h k∨X:=
 (M.lock_iff _).2<| .inl<| UY ho hc ⟨[],hk⟩
theorem Vc {A X:Prop}(hk:X):M.lock fun _=>A∨X:=(M.lock_iff _).2 (.inr hk)
def O4 (h:Heap) (r:Id→Id):List Id→List AF→Prop
 | [],[]=>True
 | i::m,o::pre=>h i=some (o.BM r)∧O4 h r m pre
 | _,_=>False
theorem C6 {r:Id→Id}:∀{m:List Id}{pre:List AF},O4 h r m pre→m.length=pre.length∧∀(j:Nat) i o,m[j]?=some i→pre[j]?=some o→h i=some (o.BM r)
 | [],[],_=>⟨rfl,by simp⟩
 | i::m,o::pre,hp=>by
  obtain⟨h1,h2⟩:=C6 hp.2
  refine⟨by simp[h1],fun j i' o' hi ho=>?_⟩
  match j with
  | 0=>simp at hi ho;subst hi;subst ho;exact hp.1
  | j+1=>simp at hi ho;exact h2 j i' o' hi ho
 | [],_::_,hp=>hp.elim
 | _::_,[],hp=>hp.elim
theorem Al {P:Program}{I:Inv}(hP:M.P=P) (hI:M.I=I) (m:List Id) {pre post new:List AF}(ht:Ah P I f targs pre res post new) (he:args=targs.map (V1.BM (BZ m fresh))) (hm:m.Nodup)
  (hpre:O4 h (BZ m fresh) m pre) (hkd:B7 pre post) (hn:new.length≤31) (hk:k ⟨res.BM (BZ m fresh),m,N6 m (BZ m fresh) post++DB fresh (BZ m fresh) 0 new⟩):
  M.lock fun _=>Lz M.P M.I f args fresh h k:=
 (M.lock_iff _).2 ⟨m,targs,pre,res,post,new,hP▸hI▸ht,he,(C6 hpre).1,hm,(C6 hpre).2,hkd,hn,hk⟩
end
theorem drawn {M:BR}{p:Unit→Prop}{K:Prop}(hd:p ()) (hk:K):M.lock p∧K:=⟨(M.lock_iff _).2 hd,hk⟩
theorem Cs {M:BR}{ex:St→(CC→St→Prop)→Prop}{σ:St}{K:CC→St→Prop}(ks:List Nat) (is:List Id) (nx:Nat) {T:Type}(S:T→St) (I:T→Prop) (m:T→Nat) (t0:T)
  (hI:I t0) (h0:Lq ks is nx σ (·=S t0))
  (hr:∀t,I t→ex (S t) fun e σ2=>match e with
   | .normal=>∃n' σ3,n'<m t∧CH σ2 σ3∧∃t',I t'∧n'=m t'∧σ3=S t'
   | .exit id=>K (.exit id) σ2
   | .ret=>K .ret σ2):M.lock fun _=>VX ex σ K∨∃n,IU ex K n σ:=by
 refine (M.lock_iff _).2<| .inl ⟨fun n σ=>∃t,I t∧n=m t∧σ=S t,m t0,?_,?_⟩
 ·obtain⟨σ',hw,e⟩:=GC h0
  exact⟨σ',hw,t0,hI,rfl,e⟩
 ·rintro n σ1 ⟨t,h1,rfl,rfl⟩
  exact hr t h1
theorem Cd {M:BR}{ex:St→(CC→St→Prop)→Prop}{σ:St}{K:CC→St→Prop}(tr:List UU) (ks:List Nat) (is:List Id) (nx:Nat) {T:Type}(S:T→St) (I:T→Prop) (m:T→Nat) (t0:T)
  (hI:I t0) (h0:QO (fun σ=>Lq ks is nx σ (·=S t0)) tr σ)
  (hr:∀t,I t→ex (S t) fun e σ2=>match e with
   | .normal=>∃n' σ3,n'<m t∧CH σ2 σ3∧∃t',I t'∧n'=m t'∧σ3=S t'
   | .exit id=>K (.exit id) σ2
   | .ret=>K .ret σ2):M.lock fun _=>VX ex σ K∨∃n,IU ex K n σ:=by
 refine (M.lock_iff _).2<| .inl ⟨fun n σ=>∃t,I t∧n=m t∧σ=S t,m t0,?_,?_⟩
 ·obtain⟨σ1,hw1,h1⟩:=Hr h0
  obtain⟨σ',hw,e⟩:=GC h1
  exact⟨σ',CH.trans hw1 hw,t0,hI,rfl,e⟩
 ·rintro n σ1 ⟨t,h1,rfl,rfl⟩
  exact hr t h1
theorem BP {T:Type}{m:T→Nat}{I:T→Prop}{S:T→St}{σ2:St}{k:Nat}(t':T) (ks:List Nat) (is:List Id) (nx:Nat) (hI:I t') (hm:m t'<k) (hk:Lq ks is nx σ2 (·=S t')):
  ∃n' σ3,n'<k∧CH σ2 σ3∧∃t',I t'∧n'=m t'∧σ3=S t':=by
 obtain⟨σ',hw,e⟩:=GC hk
 exact⟨m t',σ',hm,hw,t',hI,rfl,e⟩
theorem wrap_i64 {x z:Int}(h: -9223372036854775808≤x∧x≤9223372036854775807) (hz:z=x):IntKind.i64.wrap x=z:=by
 rw[hz];exact IntWalk.i64_in x h
section
variable {M:BR}{L L':List D}{N i:Int}(hN:0≤N∧L.length=N.toNat)
include hN
end
end Go.AM
namespace Go.AM
open Go Go.RowKit
inductive Shape (ti:Types):TypeId→List D→Prop where
 | bool {t x} (b:Bool) (h:ti t=some x) (hd:x.desc= .bool):Shape ti t [.bool b]
 | int {t x k} (n:Int) (h:ti t=some x) (hd:x.desc= .int k) (hw:(Lit.int k n).wf=true):Shape ti t [.int k n]
 | str {t x} (s:ByteArray) (h:ti t=some x) (hd:x.desc= .string) (hs:s.size≤maxLen):Shape ti t [.str s]
 | slice {t x e y} (rows:List D) (h:ti t=some x) (hd:x.desc= .slice e) (he:ti e=some y) (hl:rows.length≤maxLen)
   (hf:∀r∈rows,r.fits (An y.desc) y.size) (hr:∀r∈rows,Shape ti e r.cells):Shape ti t [.list (An y.desc) y.size rows]
 | struct {t x fs} (ds:List D) (h:ti t=some x) (hd:x.desc= .struct fs) (hl:ds.length=x.size) (hg:∀c∈ds,c.isAgg=false)
   (hr:∀f∈fs.toList,∀y,ti f.type=some y→Shape ti f.type ((ds.drop f.offset).take y.size)):Shape ti t ds
def chain (ti:Types):Nat→List Field→Option Nat
 | off,[]=>some off
 | off,f::r=>if f.offset=off then match ti f.type with
   | some y=>chain ti (off+y.size) r
   | none=>none
  else none
theorem SK {ti:Types}:∀{fs:List Field}{off tot:Nat},chain ti off fs=some tot→off≤tot∧∀f∈fs,off≤f.offset∧∃y,ti f.type=some y
 | [],off,tot,h=>by simp[chain]at h;subst h;exact⟨Nat.le_refl _,by simp⟩
 | f::fs,off,tot,h=>by
  unfold chain at h
  split at h
  ·rename_i ho
   split at h
   ·rename_i y hy
    obtain⟨h1,h2⟩:=SK h
    refine⟨by omega,fun f' hf'=>?_⟩
    rcases List.mem_cons.1 hf' with rfl | hf'
    ·exact⟨by omega,y,hy⟩
    ·exact⟨by have:=(h2 f' hf').1;omega,(h2 f' hf').2⟩
   ·simp at h
  ·simp at h
def Mu (ti:Types) (T:List TypeId):Bool:=
 T.all fun t=>match ti t with
  | some x=>match x.desc with
   | .bool | .int _ | .string=>x.size==1
   | .slice e=>T.contains e&&(x.size==1)&&(match ti e with
    | some y=>decide (0<y.size)&&(An y.desc || y.size==1)
    | none=>false)
   | .struct fs=>(chain ti 0 fs.toList==some x.size)&&fs.toList.all fun f=>T.contains f.type
   | _=>false
  | none=>false
theorem LV {Q:Nat→D→Prop}:∀n,(∀i,i<n→∃r,Q i r)→∃l:List D,l.length=n∧∀i r,l[i]?=some r→Q i r
 | 0,_=>⟨[],rfl,by simp⟩
 | n+1,h=>by
  obtain⟨l,h1,h2⟩:=LV n (fun i hi=>h i (by omega))
  obtain⟨r,hr⟩:=h n (by omega)
  refine⟨l++[r],by simp[h1],fun i r' hi=>?_⟩
  by_cases hl:i<l.length
  ·rw[List.getElem?_append_left hl]at hi;exact h2 i r' hi
  ·rw[List.getElem?_append_right (by omega)]at hi
   have hin:i=n:=by
    by_cases he:i=n
    ·exact he
    ·rw[List.getElem?_eq_none (by simp;omega)]at hi;simp at hi
   subst hin
   rw[h1]at hi
   simp at hi
   subst hi
   exact hr
def SL (w:World) (Z:Au) (ds:List D) (cs:List Value):Prop:=
 ds.length=cs.length∧(∀c∈ds,c.isAgg=false)∧∀(j:Nat) c u,ds[j]?=some c→cs[j]?=some u→Ag w Z c u
theorem GH {w:World}{Z:Au}{c:D}{u:Value}(hc:c.isAgg=false) (h:Ag w Z c u):SL w Z [c] [u]:=
 ⟨rfl,by simpa using hc,fun j c' u' h1 h2=>by
  match j with
  | 0=>simp at h1 h2;subst h1;subst h2;exact h
  | j+1=>simp at h1⟩
theorem LW {w:World}{Z:Au}{ti:Types}{cs:List Value}:∀(fs:List Field) (off tot:Nat),chain ti off fs=some tot→tot≤cs.length→
  (∀f∈fs,∀y,ti f.type=some y→∃ds,Shape ti f.type ds∧SL w Z ds ((cs.drop f.offset).take y.size))→
  ∃ds,SL w Z ds ((cs.drop off).take (tot - off))∧∀f∈fs,∀y,ti f.type=some y→Shape ti f.type ((ds.drop (f.offset - off)).take y.size)
 | [],off,tot,h,_,_=>by
  simp[chain]at h
  subst h
  exact⟨[],⟨by simp,by simp,by simp⟩,by simp⟩
 | f::fs,off,tot,h,hl,hx=>by
  unfold chain at h
  split at h
  ·rename_i ho
   split at h
   ·rename_i y hy
    obtain⟨hle,hoff⟩:=SK h
    obtain⟨ds',⟨a1,a2,a3⟩,hs'⟩:=LW fs _ tot h hl (fun f' hf'=>hx f' (List.mem_cons_of_mem _ hf'))
    obtain⟨p,hp,b1,b2,b3⟩:=hx f (by simp) y hy
    rw[ho]at b1 b3
    have hpl:p.length=y.size:=by rw[b1];simp;omega
    refine⟨p++ds',⟨?_,?_,?_⟩,fun f' hf' y' hy'=>?_⟩
    ·simp at a1 ⊢;omega
    ·intro c hc
     rcases List.mem_append.1 hc with hc | hc
     ·exact b2 c hc
     ·exact a2 c hc
    ·intro j c u hc hu
     rw[List.getElem?_take]at hu
     split at hu
     ·rename_i hj
      rw[List.getElem?_drop]at hu
      by_cases hjp:j<p.length
      ·rw[List.getElem?_append_left hjp]at hc
       refine b3 j c u hc ?_
       rw[List.getElem?_take,if_pos (by omega),List.getElem?_drop];exact hu
      ·rw[List.getElem?_append_right (by omega)]at hc
       refine a3 (j - p.length) c u hc ?_
       rw[List.getElem?_take,if_pos (by omega),List.getElem?_drop,←hu]
       congr 1
       omega
     ·simp at hu
    ·rcases List.mem_cons.1 hf' with rfl | hf'
     ·rw[hy]at hy'
      obtain rfl:y=y':=by simpa using hy'
      rw[ho,Nat.sub_self,List.drop_zero,List.take_append_of_le_length (by omega),List.take_of_length_le (by omega)]
      exact hp
     ·have h1:=(hoff f' hf').1
      have:=hs' f' hf' y' hy'
      rw[List.drop_append,List.drop_of_length_le (by omega),List.nil_append]
      rw[show f'.offset - off - p.length=f'.offset - (off+y.size)from by omega]
      exact this
   ·simp at h
  ·simp at h
theorem JE {P:Program}{ti:Types}(hti:BO P ti) {t:TypeId}{x:TI}(h:ti t=some x):P.cellsOf t=x.size:=by
 obtain⟨_,i,h1,h2,_⟩:=hti t x h
 simp[Program.cellsOf,h1,h2]
theorem conv {H:Type}{enc:TypeId×Value→H}{P:Program}{ti:Types}(hti:BO P ti) {T:List TypeId}(hT:Mu ti T=true) {w:World}{base:Nat}{spare:Nat→Bool}{held:Bool}{Z:Au}(hZ:∀b o,¬Z b o):
  ∀(fuel:Nat) (t:TypeId) (cs:List Value) (d:DataW H) (ps:List MemPlace),t∈T→DataW.trod enc P w base spare held fuel t cs=some (d,ps)→∃ds,Shape ti t ds∧SL w Z ds cs
 | 0,t,cs,d,ps,_,h=>by simp[DataW.trod]at h
 | fuel+1,t,cs,d,ps,ht,h=>by
  have hp:=hT
  unfold Mu at hp
  have hp:=List.all_eq_true.1 hp t ht
  split at hp
  ·rename_i x hx
   have hu:=(hti t x hx).1
   have hcs:=JE hti hx
   split at hp
   ·rename_i hd
    rw[hd]at hu
    unfold DataW.trod at h
    simp only[hu]at h
    split at h<;>simp_all
    exact⟨_,.bool _ hx hd,GH rfl (.bool _)⟩
   ·rename_i k hd
    rw[hd]at hu
    unfold DataW.trod at h
    simp only[hu]at h
    split at h<;>simp_all
    obtain⟨⟨rfl,hw⟩,_⟩:=h
    exact⟨_,.int _ hx hd hw,GH rfl (.int _ _)⟩
   ·rename_i hd
    rw[hd]at hu
    unfold DataW.trod at h
    simp only[hu]at h
    split at h<;>simp_all
    exact⟨_,.str _ hx hd h.1,GH rfl (.str _)⟩
   ·rename_i e hd
    rw[hd]at hu
    simp only[Bool.and_eq_true]at hp
    obtain⟨⟨he,_⟩,hp⟩:=hp
    have he:e∈T:=by simpa using he
    split at hp
    ·rename_i y hy
     simp only[Bool.and_eq_true,decide_eq_true_eq]at hp
     have hey:=JE hti hy
     unfold DataW.trod at h
     simp only[hu]at h
     split at h<;>rename_i hq<;>try cases hq
     ·exact⟨_,.slice [] hx hd hy (by simp) (by simp) (by simp),GH rfl (F2 _ _)⟩
     ·rename_i a len cap
      rw[hey]at h
      split at h
      ·rename_i hg
       obtain⟨elems,he1,_⟩:=Option.bind_eq_some_iff.1 h
       have hel:elems.length=len:=by simpa using mapM_some_length he1
       have each:∀i,i<len→∃cs' ds,(w.cells? base (a.add (i*y.size)) y.size)=some cs'∧Shape ti e ds∧SL w Z ds cs':=by
        intro i hi
        have h1:=mapM_some_get he1 i i (by simp[hi])
        rw[List.getElem?_eq_getElem (by omega:i<elems.length)]at h1
        obtain⟨cs',h2,h3⟩:=Option.bind_eq_some_iff.1 h1
        obtain⟨ds,h4,h5⟩:=conv hti hT hZ fuel e cs' _ _ he h3
        exact⟨cs',ds,h2,h4,h5⟩
       have hspot:0<len→a.spot=none:=by
        intro hl
        obtain⟨cs',_,h2,_⟩:=each 0 hl
        obtain⟨_,h3,h4⟩:=World.cells?_some h2
        have h5:=h4 0 hp.1
        rw[List.getElem?_eq_getElem (by omega)]at h5
        simp only[Nat.zero_mul,Addr.add,if_true]at h5
        unfold World.cell? at h5
        split at h5
        ·split at h5
         ·cases h5
         ·rename_i hs;simpa using hs
        ·cases h5
       obtain⟨rows,hrl,hrows⟩:=LV (Q:=fun i r=>r.fits (An y.desc) y.size∧Shape ti e r.cells∧∀(j:Nat) c,r.cells[j]?=some c→
         ∃u,w.cell? ⟨a.block,a.off+(i*y.size+j),none⟩=some u∧Ag w Z c u) len (fun i hi=>by
        obtain⟨cs',ds,h2,h3,h4⟩:=each i hi
        obtain⟨_,h5,h6⟩:=World.cells?_some h2
        have hdl:ds.length=y.size:=h4.1.trans h5
        obtain⟨r,hr1,hr2⟩:∃r:D,r.cells=ds∧r.isAgg=An y.desc:=by
         cases hrw:An y.desc with
         | true=>exact⟨.agg ds,rfl,rfl⟩
         | false=>
          rw[hrw]at hp
          have:y.size=1:=by simpa using hp.2
          obtain⟨c,rfl⟩:=List.length_eq_one_iff.1 (hdl.trans this)
          have hc:=h4.2.1 c (by simp)
          exact⟨c,by cases c<;>first | rfl | simp[D.isAgg]at hc,hc⟩
        refine⟨r,⟨hr2,by rw[hr1,hdl],by rw[hr1];exact h4.2.1⟩,by rw[hr1];exact h3,fun j c hc=>?_⟩
        rw[hr1]at hc
        have hj:j<y.size:=by rw[←hdl];exact (List.getElem?_eq_some_iff.1 hc).1
        have h7:=h6 j hj
        have ha:(a.add (i*y.size)).add j=⟨a.block,a.off+(i*y.size+j),none⟩:=by
         have:=hspot (by omega)
         obtain⟨ab,ao,asp⟩:=a
         simp only at this
         subst this
         unfold Addr.add
         split<;>split<;>simp_all<;>omega
        rw[ha,List.getElem?_eq_getElem (by omega:j<cs'.length)]at h7
        exact⟨_,h7,h4.2.2 j c _ hc (List.getElem?_eq_getElem (by omega:j<cs'.length))⟩)
       refine⟨_,.slice rows hx hd hy (by omega) (fun r hr=>?_) (fun r hr=>?_),GH rfl ?_⟩
       ·obtain⟨i,hi⟩:=List.mem_iff_getElem?.1 hr
        exact (hrows i r hi).1
       ·obtain⟨i,hi⟩:=List.mem_iff_getElem?.1 hr
        exact (hrows i r hi).2.1
       ·rw[←hrl]
        refine .list _ _ rows (some a) cap a.block a.off (fun i j=>(w.cell? ⟨a.block,a.off+(i*y.size+j),none⟩).getD undef) (by omega) hg.2.2 (fun r hr=>?_) (fun hne=>?_) (fun i r j c hr hc=>?_) (fun i r j c hr hc=>?_)
        ·obtain⟨i,hi⟩:=List.mem_iff_getElem?.1 hr
         exact (hrows i r hi).1
        ·have:=hspot (by rw[←hrl];exact List.length_pos_iff.2 hne)
         obtain⟨ab,ao,asp⟩:=a
         simp only at this
         rw[this]
        ·obtain⟨u,hu1,_⟩:=(hrows i r hr).2.2 j c hc
         rw[hu1]
         exact⟨rfl,hZ _ _⟩
        ·obtain⟨u,hu1,hu2⟩:=(hrows i r hr).2.2 j c hc
         rw[hu1]
         exact hu2
      ·cases h
     ·cases h
    ·simp at hp
   ·rename_i fs hd
    rw[hd]at hu
    simp only[Bool.and_eq_true,beq_iff_eq]at hp
    obtain⟨hch,hfs⟩:=hp
    unfold DataW.trod at h
    simp only[hu]at h
    split at h<;>rename_i hq<;>try cases hq
    ·obtain⟨xs,hxs,_⟩:=Option.map_eq_some_iff.1 h
     obtain⟨ds,h1,h2⟩:=LW (w:=w) (Z:=Z) (cs:=cs) fs.toList 0 x.size hch (by omega) (fun f hf y hy=>by
      obtain⟨i,hi⟩:=List.mem_iff_getElem?.1 hf
      have h3:=mapM_some_get hxs i f hi
      have hil:i<xs.length:=by rw[mapM_some_length hxs];exact (List.getElem?_eq_some_iff.1 hi).1
      rw[List.getElem?_eq_getElem hil,JE hti hy]at h3
      have hfT:f.type∈T:=by simpa using List.all_eq_true.1 hfs f hf
      exact conv hti hT hZ fuel f.type _ _ _ hfT h3)
     rw[List.drop_zero,Nat.sub_zero,List.take_of_length_le (by omega)]at h1
     exact⟨ds,.struct ds hx hd (by rw[h1.1];omega) h1.2.1 (fun f hf y hy=>by simpa using h2 f hf y hy),h1⟩
    ·cases h
   ·simp at hp
  ·simp at hp
end Go.AM
namespace Go.AM
open Go
structure aQ (L L':List D) (r:Nat→Bool) (R:Bool):Prop where
 len:L.length≠L'.length→R=false
 bad:∀i,i<L.length→i<L'.length→r i=false→R=false
 good:L.length=L'.length→(∀i,i<L.length→r i=true)→R=true
theorem aQ.of (L L':List D) (r:Nat→Bool):aQ L L' r (decide (L.length=L'.length∧∀i,i<L.length→r i=true)) where
 len h:=by simp[h]
 bad i h1 h2 h:=by
  rw[decide_eq_false_iff_not]
  rintro⟨_,h3⟩
  rw[h3 i h1]at h
  cases h
 good h1 h2:=by rw[decide_eq_true_iff];exact⟨h1,h2⟩
section
variable {ti:Types}{t e:TypeId}{x y:TI}{ds:List D}{fs:Array Field}{k:IntKind}
theorem Shape.eE (h:Shape ti t ds) (hx:ti t=some x) (hd:x.desc= .int k):∃n,ds=[.int k n]∧(Lit.int k n).wf=true:=by
 cases h<;>simp_all
theorem Shape.eF (h:Shape ti t ds) (hx:ti t=some x) (hd:x.desc= .string):∃s,ds=[.str s]∧s.size≤maxLen:=by
 cases h<;>simp_all
theorem Shape.Xd (h:Shape ti t ds) (hx:ti t=some x) (hd:x.desc= .slice e) (hy:ti e=some y):
  ∃rows,ds=[.list (An y.desc) y.size rows]∧rows.length≤maxLen∧(∀r∈rows,r.fits (An y.desc) y.size)∧∀r∈rows,Shape ti e r.cells:=by
 cases h with
 | slice rows h1 h2 h3 h4 h5 h6=>
  rw[hx]at h1
  obtain rfl:=Option.some.inj h1
  rw[hd]at h2
  obtain rfl:=TypeDesc.slice.inj h2
  rw[hy]at h3
  obtain rfl:=Option.some.inj h3
  exact⟨rows,rfl,h4,h5,h6⟩
 | _=>simp_all
theorem Shape.VH (h:Shape ti t ds) (hx:ti t=some x) (hd:x.desc= .struct fs):
  ds.length=x.size∧(∀c∈ds,c.isAgg=false)∧∀f∈fs.toList,∀y,ti f.type=some y→Shape ti f.type ((ds.drop f.offset).take y.size):=by
 cases h with
 | struct ds h1 h2 h3 h4 h5=>
  rw[hx]at h1
  obtain rfl:=Option.some.inj h1
  rw[hd]at h2
  obtain rfl:=TypeDesc.struct.inj h2
  exact⟨h3,h4,h5⟩
 | _=>simp_all
end
open Classical in
theorem aQ.same (L L':List D):aQ L L' (fun i=>decide (L[i]?=L'[i]?)) (decide (L=L')) where
 len h:=by rw[decide_eq_false_iff_not];rintro rfl;exact h rfl
 bad i h1 h2 h:=by
  rw[decide_eq_false_iff_not]at h ⊢
  rintro rfl;exact h rfl
 good h1 h2:=by
  rw[decide_eq_true_iff]
  refine List.ext_getElem? fun i=>?_
  by_cases hi:i<L.length
  ·exact of_decide_eq_true (h2 i hi)
  ·rw[List.getElem?_eq_none (by omega),List.getElem?_eq_none (by omega)]
def BC (ti:Types) (t:TypeId):TI:=
 match ti t with
 | some x=>x
 | none=>⟨.bool,0,0,.bool false,[]⟩
theorem FB {a b:ByteArray}:(a.toList==b.toList)=true↔a=b:=by
 constructor
 ·intro h
  have h:=beq_iff_eq.1 h
  rw[ByteArray.toList_eq,ByteArray.toList_eq]at h
  exact ByteArray.ext (Array.ext' h)
 ·rintro rfl;simp
theorem toList_inj {a b:ByteArray}:a.toList=b.toList↔a=b:=by rw[←FB,beq_iff_eq]
theorem YJ {a b:ByteArray}:(a.toList==b.toList)=false↔a≠b:=by
 rw[←Bool.not_eq_true,FB]
end Go.AM
namespace Go.AM
open Go
section
variable {α γ:Type}
def AJ (z:Int) (k:Int→Option γ):Option γ:=k z
theorem Ac {z:Int}{k:Int→Option γ}{r:γ}(h:AJ z k=some r):∃y,z=y∧k y=some r:=⟨z,rfl,h⟩
def AE (L:List D) (k:Int→Option γ):Option γ:=k L.length
theorem BL (M:BR) {L:List D}{k:Int→Option γ}{r:γ}(h:AE L k=some r):∃y,M.lenI L=y∧k y=some r:=⟨L.length,M.lenI_eq L,h⟩
def N3 (s:ByteArray) (k:Int→Option γ):Option γ:=k s.size
theorem aR (M:BR) {s:ByteArray}{k:Int→Option γ}{r:γ}(h:N3 s k=some r):∃y,M.szI s=y∧k y=some r:=⟨s.size,M.szI_eq s,h⟩
def Ap (L:List D) (i:Int) (k:D→Option γ):Option γ:=if 0≤i then (match L[i.toNat]? with | some x=>k x | none=>none)else none
theorem BT {L:List D}{i:Int}{k:D→Option γ}{r:γ}(h:Ap L i k=some r):∃x,(0≤i∧L[i.toNat]?=some x)∧k x=some r:=by
 unfold Ap at h
 split at h
 ·rename_i h0
  split at h
  ·rename_i x hx
   exact⟨x,⟨h0,hx⟩,h⟩
  ·cases h
 ·cases h
theorem W3 {L:List D}{i:Int}{k:D→Option γ}{x:D}(h0:0≤i) (hx:L[i.toNat]?=some x):Ap L i k=k x:=by
 unfold Ap
 rw[if_pos h0,hx]
def YK (p:Prop) [Decidable p] (x:Option γ):Option γ:=if p then x else none
theorem W4 {p:Prop} [Decidable p] {x:Option γ}{r:γ}(h:YK p x=some r):p∧x=some r:=by
 unfold YK at h
 split at h
 ·rename_i hp
  exact⟨hp,h⟩
 ·cases h
theorem Aj {p:Prop} [Decidable p] {x y r:Option γ}(hp:p) (h:(if p then x else y)=r):x=r:=by rwa [if_pos hp]at h
theorem Ak {p:Prop} [Decidable p] {x y r:Option γ}(hp:¬p) (h:(if p then x else y)=r):y=r:=by rwa [if_neg hp]at h
def Dc (b:Nat) (L M:List D) (k:List D→Option γ):Option γ:=if L.length+M.length≤maxLen∧(L.length+M.length)*b≤140737488355328 then k (L++M)else none
theorem Ct {b:Nat}{L M:List D}{k:List D→Option γ}{r:γ}(h:Dc b L M k=some r):∃out,(L.length+M.length≤maxLen∧(L.length+M.length)*b≤140737488355328)∧L++M=out∧k out=some r:=by
 unfold Dc at h
 split at h
 ·rename_i hb
  exact⟨_,hb,rfl,h⟩
 ·cases h
open Classical in
noncomputable def nilF (L:List D) (A B:Option γ):Option γ:=if L=[]then (if A=B then B else none)else B
theorem YL {L:List D}{A B:Option γ}{r:γ}(h:nilF L A B=some r):B=some r∧(L=[]→A=some r):=by
 unfold nilF at h
 split at h
 ·split at h
  ·rename_i e;exact⟨h,fun _=>e▸h⟩
  ·cases h
 ·rename_i hn;exact⟨h,fun e=>absurd e hn⟩
theorem QR {L:List D}{A B:Option γ}(h:L=[]→A=B):nilF L A B=B:=by
 unfold nilF
 split
 ·rename_i e;rw[if_pos (h e)]
 ·rfl
theorem YM {L:List D}{K0 K1:Prop}(h0:K0) (h1:L=[]→K1):(L≠[]→K0)∧(L=[]→K1∧K0):=⟨fun _=>h0,fun e=>⟨h1 e,h0⟩⟩
def gW (L:List D) (k:List D→Option γ):Option γ:=k L
theorem YN {L:List D}{k:List D→Option γ}{r:γ}(h:gW L k=some r):∃out,L=out∧k out=some r:=⟨L,rfl,h⟩
def mG (L:List D) (i:Nat) (x:D) (k:List D→Option γ):Option γ:=k (L.set i x)
theorem YO {L:List D}{i:Nat}{x:D}{k:List D→Option γ}{r:γ}(h:mG L i x k=some r):∃out,L.set i x=out∧k out=some r:=⟨_,rfl,h⟩
def gX (L:List D) (i:Nat) (k:D→Option γ):Option γ:=match L[i]? with | some x=>k x | none=>none
theorem YP {L:List D}{i:Nat}{k:D→Option γ}{r:γ}(h:gX L i k=some r):∃x,L[i]?=some x∧k x=some r:=by
 unfold gX at h
 split at h
 ·rename_i x hx
  exact⟨x,hx,h⟩
 ·cases h
def Tz (s:ByteArray) (i:Int) (k:Int→Option γ):Option γ:=if 0≤i then (match (s[i.toNat]?).map (fun u=>(u.toNat:Int))with | some z=>k z | none=>none)else none
theorem aU {s:ByteArray}{i:Int}{k:Int→Option γ}{r:γ}(h:Tz s i k=some r):∃z,(0≤i∧(s[i.toNat]?).map (fun u=>(u.toNat:Int))=some z)∧k z=some r:=by
 unfold Tz at h
 split at h
 ·rename_i h0
  split at h
  ·rename_i z hz
   exact⟨z,⟨h0,hz⟩,h⟩
  ·cases h
 ·cases h
def gY (s t:ByteArray) (k:ByteArray→Option γ):Option γ:=if ((s.size+t.size:Nat):Int)≤IntKind.i64.max then k (s++t)else none
theorem YQ {s t:ByteArray}{k:ByteArray→Option γ}{r:γ}(h:gY s t k=some r):∃out,s++t=out∧((s.size+t.size:Nat):Int)≤IntKind.i64.max∧k out=some r:=by
 unfold gY at h
 split at h
 ·rename_i hb
  exact⟨_,rfl,hb,h⟩
 ·cases h
def bO0 (x:Option Unit) (k:Option γ):Option γ:=match x with | some _=>k | none=>none
theorem Vd {x:Option Unit}{k:Option γ}{r:γ}(h:bO0 x k=some r):x=some ()∧k=some r:=by
 cases x with
 | none=>cases h
 | some u=>exact⟨rfl,h⟩
def bO1 {A1:Type}(x:Option (A1)) (k:A1→Option γ):Option γ:=match x with | some p=>k p | none=>none
theorem AU {A1:Type}{x:Option (A1)}{k:A1→Option γ}{r:γ}(h:bO1 x k=some r):∃a1,x=some a1∧k a1=some r:=by
 cases x with
 | none=>cases h
 | some p=>exact⟨_,rfl,h⟩
def bO2 {A1 A2:Type}(x:Option (A1×A2)) (k:A1→A2→Option γ):Option γ:=match x with | some p=>k p.1 p.2 | none=>none
theorem GY {A1 A2:Type}{x:Option (A1×A2)}{k:A1→A2→Option γ}{r:γ}(h:bO2 x k=some r):∃a1 a2,x=some (a1,a2)∧k a1 a2=some r:=by
 cases x with
 | none=>cases h
 | some p=>exact⟨_,_,rfl,h⟩
theorem aV {A1 A2:Type}{a1 b1:A1}{a2 b2:A2}(h:some (a1,a2)=some (b1,b2)):a1=b1∧a2=b2:=by
 cases h
 exact⟨rfl,rfl⟩
def bO3 {A1 A2 A3:Type}(x:Option (A1×A2×A3)) (k:A1→A2→A3→Option γ):Option γ:=match x with | some p=>k p.1 p.2.1 p.2.2 | none=>none
theorem Jl {A1 A2 A3:Type}{x:Option (A1×A2×A3)}{k:A1→A2→A3→Option γ}{r:γ}(h:bO3 x k=some r):∃a1 a2 a3,x=some (a1,a2,a3)∧k a1 a2 a3=some r:=by
 cases x with
 | none=>cases h
 | some p=>exact⟨_,_,_,rfl,h⟩
theorem Mv {A1 A2 A3:Type}{a1 b1:A1}{a2 b2:A2}{a3 b3:A3}(h:some (a1,a2,a3)=some (b1,b2,b3)):a1=b1∧a2=b2∧a3=b3:=by
 cases h
 exact⟨rfl,rfl,rfl⟩
def bO4 {A1 A2 A3 A4:Type}(x:Option (A1×A2×A3×A4)) (k:A1→A2→A3→A4→Option γ):Option γ:=match x with | some p=>k p.1 p.2.1 p.2.2.1 p.2.2.2 | none=>none
theorem aW {A1 A2 A3 A4:Type}{x:Option (A1×A2×A3×A4)}{k:A1→A2→A3→A4→Option γ}{r:γ}(h:bO4 x k=some r):∃a1 a2 a3 a4,x=some (a1,a2,a3,a4)∧k a1 a2 a3 a4=some r:=by
 cases x with
 | none=>cases h
 | some p=>exact⟨_,_,_,_,rfl,h⟩
theorem QT {A1 A2 A3 A4:Type}{a1 b1:A1}{a2 b2:A2}{a3 b3:A3}{a4 b4:A4}(h:some (a1,a2,a3,a4)=some (b1,b2,b3,b4)):a1=b1∧a2=b2∧a3=b3∧a4=b4:=by
 cases h
 exact⟨rfl,rfl,rfl,rfl⟩
def bO7 {A1 A2 A3 A4 A5 A6 A7:Type}(x:Option (A1×A2×A3×A4×A5×A6×A7)) (k:A1→A2→A3→A4→A5→A6→A7→Option γ):Option γ:=match x with | some p=>k p.1 p.2.1 p.2.2.1 p.2.2.2.1 p.2.2.2.2.1 p.2.2.2.2.2.1 p.2.2.2.2.2.2 | none=>none
theorem aX {A1 A2 A3 A4 A5 A6 A7:Type}{x:Option (A1×A2×A3×A4×A5×A6×A7)}{k:A1→A2→A3→A4→A5→A6→A7→Option γ}{r:γ}(h:bO7 x k=some r):∃a1 a2 a3 a4 a5 a6 a7,x=some (a1,a2,a3,a4,a5,a6,a7)∧k a1 a2 a3 a4 a5 a6 a7=some r:=by
 cases x with
 | none=>cases h
 | some p=>exact⟨_,_,_,_,_,_,_,rfl,h⟩
theorem sN {A1 A2 A3 A4 A5 A6 A7:Type}{a1 b1:A1}{a2 b2:A2}{a3 b3:A3}{a4 b4:A4}{a5 b5:A5}{a6 b6:A6}{a7 b7:A7}(h:some (a1,a2,a3,a4,a5,a6,a7)=some (b1,b2,b3,b4,b5,b6,b7)):a1=b1∧a2=b2∧a3=b3∧a4=b4∧a5=b5∧a6=b6∧a7=b7:=by
 cases h
 exact⟨rfl,rfl,rfl,rfl,rfl,rfl,rfl⟩
def bO8 {A1 A2 A3 A4 A5 A6 A7 A8:Type}(x:Option (A1×A2×A3×A4×A5×A6×A7×A8)) (k:A1→A2→A3→A4→A5→A6→A7→A8→Option γ):Option γ:=match x with | some p=>k p.1 p.2.1 p.2.2.1 p.2.2.2.1 p.2.2.2.2.1 p.2.2.2.2.2.1 p.2.2.2.2.2.2.1 p.2.2.2.2.2.2.2 | none=>none
theorem aY {A1 A2 A3 A4 A5 A6 A7 A8:Type}{x:Option (A1×A2×A3×A4×A5×A6×A7×A8)}{k:A1→A2→A3→A4→A5→A6→A7→A8→Option γ}{r:γ}(h:bO8 x k=some r):∃a1 a2 a3 a4 a5 a6 a7 a8,x=some (a1,a2,a3,a4,a5,a6,a7,a8)∧k a1 a2 a3 a4 a5 a6 a7 a8=some r:=by
 cases x with
 | none=>cases h
 | some p=>exact⟨_,_,_,_,_,_,_,_,rfl,h⟩
theorem sO {A1 A2 A3 A4 A5 A6 A7 A8:Type}{a1 b1:A1}{a2 b2:A2}{a3 b3:A3}{a4 b4:A4}{a5 b5:A5}{a6 b6:A6}{a7 b7:A7}{a8 b8:A8}(h:some (a1,a2,a3,a4,a5,a6,a7,a8)=some (b1,b2,b3,b4,b5,b6,b7,b8)):a1=b1∧a2=b2∧a3=b3∧a4=b4∧a5=b5∧a6=b6∧a7=b7∧a8=b8:=by
 cases h
 exact⟨rfl,rfl,rfl,rfl,rfl,rfl,rfl,rfl⟩
def bO10 {A1 A2 A3 A4 A5 A6 A7 A8 A9 A10:Type}(x:Option (A1×A2×A3×A4×A5×A6×A7×A8×A9×A10)) (k:A1→A2→A3→A4→A5→A6→A7→A8→A9→A10→Option γ):Option γ:=match x with | some p=>k p.1 p.2.1 p.2.2.1 p.2.2.2.1 p.2.2.2.2.1 p.2.2.2.2.2.1 p.2.2.2.2.2.2.1 p.2.2.2.2.2.2.2.1 p.2.2.2.2.2.2.2.2.1 p.2.2.2.2.2.2.2.2.2 | none=>none
theorem FC {A1 A2 A3 A4 A5 A6 A7 A8 A9 A10:Type}{a1 b1:A1}{a2 b2:A2}{a3 b3:A3}{a4 b4:A4}{a5 b5:A5}{a6 b6:A6}{a7 b7:A7}{a8 b8:A8}{a9 b9:A9}{a10 b10:A10}(h:some (a1,a2,a3,a4,a5,a6,a7,a8,a9,a10)=some (b1,b2,b3,b4,b5,b6,b7,b8,b9,b10)):a1=b1∧a2=b2∧a3=b3∧a4=b4∧a5=b5∧a6=b6∧a7=b7∧a8=b8∧a9=b9∧a10=b10:=by
 cases h
 exact⟨rfl,rfl,rfl,rfl,rfl,rfl,rfl,rfl,rfl,rfl⟩
def bO14 {A1 A2 A3 A4 A5 A6 A7 A8 A9 A10 A11 A12 A13 A14:Type}(x:Option (A1×A2×A3×A4×A5×A6×A7×A8×A9×A10×A11×A12×A13×A14)) (k:A1→A2→A3→A4→A5→A6→A7→A8→A9→A10→A11→A12→A13→A14→Option γ):Option γ:=match x with | some p=>k p.1 p.2.1 p.2.2.1 p.2.2.2.1 p.2.2.2.2.1 p.2.2.2.2.2.1 p.2.2.2.2.2.2.1 p.2.2.2.2.2.2.2.1 p.2.2.2.2.2.2.2.2.1 p.2.2.2.2.2.2.2.2.2.1 p.2.2.2.2.2.2.2.2.2.2.1 p.2.2.2.2.2.2.2.2.2.2.2.1 p.2.2.2.2.2.2.2.2.2.2.2.2.1 p.2.2.2.2.2.2.2.2.2.2.2.2.2 | none=>none
theorem SM {A1 A2 A3 A4 A5 A6 A7 A8 A9 A10 A11 A12 A13 A14:Type}{x:Option (A1×A2×A3×A4×A5×A6×A7×A8×A9×A10×A11×A12×A13×A14)}{k:A1→A2→A3→A4→A5→A6→A7→A8→A9→A10→A11→A12→A13→A14→Option γ}{r:γ}(h:bO14 x k=some r):∃a1 a2 a3 a4 a5 a6 a7 a8 a9 a10 a11 a12 a13 a14,x=some (a1,a2,a3,a4,a5,a6,a7,a8,a9,a10,a11,a12,a13,a14)∧k a1 a2 a3 a4 a5 a6 a7 a8 a9 a10 a11 a12 a13 a14=some r:=by
 cases x with
 | none=>cases h
 | some p=>exact⟨_,_,_,_,_,_,_,_,_,_,_,_,_,_,rfl,h⟩
theorem mH {A1 A2 A3 A4 A5 A6 A7 A8 A9 A10 A11 A12 A13 A14:Type}{a1 b1:A1}{a2 b2:A2}{a3 b3:A3}{a4 b4:A4}{a5 b5:A5}{a6 b6:A6}{a7 b7:A7}{a8 b8:A8}{a9 b9:A9}{a10 b10:A10}{a11 b11:A11}{a12 b12:A12}{a13 b13:A13}{a14 b14:A14}(h:some (a1,a2,a3,a4,a5,a6,a7,a8,a9,a10,a11,a12,a13,a14)=some (b1,b2,b3,b4,b5,b6,b7,b8,b9,b10,b11,b12,b13,b14)):a1=b1∧a2=b2∧a3=b3∧a4=b4∧a5=b5∧a6=b6∧a7=b7∧a8=b8∧a9=b9∧a10=b10∧a11=b11∧a12=b12∧a13=b13∧a14=b14:=by
 cases h
 exact⟨rfl,rfl,rfl,rfl,rfl,rfl,rfl,rfl,rfl,rfl,rfl,rfl,rfl,rfl⟩
def bO15 {A1 A2 A3 A4 A5 A6 A7 A8 A9 A10 A11 A12 A13 A14 A15:Type}(x:Option (A1×A2×A3×A4×A5×A6×A7×A8×A9×A10×A11×A12×A13×A14×A15)) (k:A1→A2→A3→A4→A5→A6→A7→A8→A9→A10→A11→A12→A13→A14→A15→Option γ):Option γ:=match x with | some p=>k p.1 p.2.1 p.2.2.1 p.2.2.2.1 p.2.2.2.2.1 p.2.2.2.2.2.1 p.2.2.2.2.2.2.1 p.2.2.2.2.2.2.2.1 p.2.2.2.2.2.2.2.2.1 p.2.2.2.2.2.2.2.2.2.1 p.2.2.2.2.2.2.2.2.2.2.1 p.2.2.2.2.2.2.2.2.2.2.2.1 p.2.2.2.2.2.2.2.2.2.2.2.2.1 p.2.2.2.2.2.2.2.2.2.2.2.2.2.1 p.2.2.2.2.2.2.2.2.2.2.2.2.2.2 | none=>none
theorem Mw {A1 A2 A3 A4 A5 A6 A7 A8 A9 A10 A11 A12 A13 A14 A15:Type}{x:Option (A1×A2×A3×A4×A5×A6×A7×A8×A9×A10×A11×A12×A13×A14×A15)}{k:A1→A2→A3→A4→A5→A6→A7→A8→A9→A10→A11→A12→A13→A14→A15→Option γ}{r:γ}(h:bO15 x k=some r):∃a1 a2 a3 a4 a5 a6 a7 a8 a9 a10 a11 a12 a13 a14 a15,x=some (a1,a2,a3,a4,a5,a6,a7,a8,a9,a10,a11,a12,a13,a14,a15)∧k a1 a2 a3 a4 a5 a6 a7 a8 a9 a10 a11 a12 a13 a14 a15=some r:=by
 cases x with
 | none=>cases h
 | some p=>exact⟨_,_,_,_,_,_,_,_,_,_,_,_,_,_,_,rfl,h⟩
theorem mI {A1 A2 A3 A4 A5 A6 A7 A8 A9 A10 A11 A12 A13 A14 A15:Type}{a1 b1:A1}{a2 b2:A2}{a3 b3:A3}{a4 b4:A4}{a5 b5:A5}{a6 b6:A6}{a7 b7:A7}{a8 b8:A8}{a9 b9:A9}{a10 b10:A10}{a11 b11:A11}{a12 b12:A12}{a13 b13:A13}{a14 b14:A14}{a15 b15:A15}(h:some (a1,a2,a3,a4,a5,a6,a7,a8,a9,a10,a11,a12,a13,a14,a15)=some (b1,b2,b3,b4,b5,b6,b7,b8,b9,b10,b11,b12,b13,b14,b15)):a1=b1∧a2=b2∧a3=b3∧a4=b4∧a5=b5∧a6=b6∧a7=b7∧a8=b8∧a9=b9∧a10=b10∧a11=b11∧a12=b12∧a13=b13∧a14=b14∧a15=b15:=by
 cases h
 exact⟨rfl,rfl,rfl,rfl,rfl,rfl,rfl,rfl,rfl,rfl,rfl,rfl,rfl,rfl,rfl⟩
def bO16 {A1 A2 A3 A4 A5 A6 A7 A8 A9 A10 A11 A12 A13 A14 A15 A16:Type}(x:Option (A1×A2×A3×A4×A5×A6×A7×A8×A9×A10×A11×A12×A13×A14×A15×A16)) (k:A1→A2→A3→A4→A5→A6→A7→A8→A9→A10→A11→A12→A13→A14→A15→A16→Option γ):Option γ:=match x with | some p=>k p.1 p.2.1 p.2.2.1 p.2.2.2.1 p.2.2.2.2.1 p.2.2.2.2.2.1 p.2.2.2.2.2.2.1 p.2.2.2.2.2.2.2.1 p.2.2.2.2.2.2.2.2.1 p.2.2.2.2.2.2.2.2.2.1 p.2.2.2.2.2.2.2.2.2.2.1 p.2.2.2.2.2.2.2.2.2.2.2.1 p.2.2.2.2.2.2.2.2.2.2.2.2.1 p.2.2.2.2.2.2.2.2.2.2.2.2.2.1 p.2.2.2.2.2.2.2.2.2.2.2.2.2.2.1 p.2.2.2.2.2.2.2.2.2.2.2.2.2.2.2 | none=>none
theorem Mx {A1 A2 A3 A4 A5 A6 A7 A8 A9 A10 A11 A12 A13 A14 A15 A16:Type}{x:Option (A1×A2×A3×A4×A5×A6×A7×A8×A9×A10×A11×A12×A13×A14×A15×A16)}{k:A1→A2→A3→A4→A5→A6→A7→A8→A9→A10→A11→A12→A13→A14→A15→A16→Option γ}{r:γ}(h:bO16 x k=some r):∃a1 a2 a3 a4 a5 a6 a7 a8 a9 a10 a11 a12 a13 a14 a15 a16,x=some (a1,a2,a3,a4,a5,a6,a7,a8,a9,a10,a11,a12,a13,a14,a15,a16)∧k a1 a2 a3 a4 a5 a6 a7 a8 a9 a10 a11 a12 a13 a14 a15 a16=some r:=by
 cases x with
 | none=>cases h
 | some p=>exact⟨_,_,_,_,_,_,_,_,_,_,_,_,_,_,_,_,rfl,h⟩
theorem eO {A1 A2 A3 A4 A5 A6 A7 A8 A9 A10 A11 A12 A13 A14 A15 A16:Type}{a1 b1:A1}{a2 b2:A2}{a3 b3:A3}{a4 b4:A4}{a5 b5:A5}{a6 b6:A6}{a7 b7:A7}{a8 b8:A8}{a9 b9:A9}{a10 b10:A10}{a11 b11:A11}{a12 b12:A12}{a13 b13:A13}{a14 b14:A14}{a15 b15:A15}{a16 b16:A16}(h:some (a1,a2,a3,a4,a5,a6,a7,a8,a9,a10,a11,a12,a13,a14,a15,a16)=some (b1,b2,b3,b4,b5,b6,b7,b8,b9,b10,b11,b12,b13,b14,b15,b16)):a1=b1∧a2=b2∧a3=b3∧a4=b4∧a5=b5∧a6=b6∧a7=b7∧a8=b8∧a9=b9∧a10=b10∧a11=b11∧a12=b12∧a13=b13∧a14=b14∧a15=b15∧a16=b16:=by
 cases h
 exact⟨rfl,rfl,rfl,rfl,rfl,rfl,rfl,rfl,rfl,rfl,rfl,rfl,rfl,rfl,rfl,rfl⟩
def bO18 {A1 A2 A3 A4 A5 A6 A7 A8 A9 A10 A11 A12 A13 A14 A15 A16 A17 A18:Type}(x:Option (A1×A2×A3×A4×A5×A6×A7×A8×A9×A10×A11×A12×A13×A14×A15×A16×A17×A18)) (k:A1→A2→A3→A4→A5→A6→A7→A8→A9→A10→A11→A12→A13→A14→A15→A16→A17→A18→Option γ):Option γ:=match x with | some p=>k p.1 p.2.1 p.2.2.1 p.2.2.2.1 p.2.2.2.2.1 p.2.2.2.2.2.1 p.2.2.2.2.2.2.1 p.2.2.2.2.2.2.2.1 p.2.2.2.2.2.2.2.2.1 p.2.2.2.2.2.2.2.2.2.1 p.2.2.2.2.2.2.2.2.2.2.1 p.2.2.2.2.2.2.2.2.2.2.2.1 p.2.2.2.2.2.2.2.2.2.2.2.2.1 p.2.2.2.2.2.2.2.2.2.2.2.2.2.1 p.2.2.2.2.2.2.2.2.2.2.2.2.2.2.1 p.2.2.2.2.2.2.2.2.2.2.2.2.2.2.2.1 p.2.2.2.2.2.2.2.2.2.2.2.2.2.2.2.2.1 p.2.2.2.2.2.2.2.2.2.2.2.2.2.2.2.2.2 | none=>none
theorem My {A1 A2 A3 A4 A5 A6 A7 A8 A9 A10 A11 A12 A13 A14 A15 A16 A17 A18:Type}{x:Option (A1×A2×A3×A4×A5×A6×A7×A8×A9×A10×A11×A12×A13×A14×A15×A16×A17×A18)}{k:A1→A2→A3→A4→A5→A6→A7→A8→A9→A10→A11→A12→A13→A14→A15→A16→A17→A18→Option γ}{r:γ}(h:bO18 x k=some r):∃a1 a2 a3 a4 a5 a6 a7 a8 a9 a10 a11 a12 a13 a14 a15 a16 a17 a18,x=some (a1,a2,a3,a4,a5,a6,a7,a8,a9,a10,a11,a12,a13,a14,a15,a16,a17,a18)∧k a1 a2 a3 a4 a5 a6 a7 a8 a9 a10 a11 a12 a13 a14 a15 a16 a17 a18=some r:=by
 cases x with
 | none=>cases h
 | some p=>exact⟨_,_,_,_,_,_,_,_,_,_,_,_,_,_,_,_,_,_,rfl,h⟩
end
end Go.AM
namespace Go.AM
open Go
def sI (n:Nat) (z:Int):Nat×AV:=(n,.v (.d (.int .i64 z)))
def sU (n:Nat) (z:Int):Nat×AV:=(n,.v (.d (.int .u8 z)))
def sB (n:Nat) (b:Bool):Nat×AV:=(n,.v (.d (.bool b)))
def sT (n s:Nat) (l:List D):Nat×AV:=(n,.v (.d (.list true s l)))
def sF (n s:Nat) (l:List D):Nat×AV:=(n,.v (.d (.list false s l)))
def sL (n i:Nat):Nat×AV:=(n,.v (.c (.ptr (.loc i) 0)))
def sE (n i:Nat):Nat×AV:=(n,.v (.c (.ptr (.ext i) 0)))
def sS (n:Nat) (b:ByteArray):Nat×AV:=(n,.v (.d (.str b)))
abbrev LD:=List D
abbrev BA:=ByteArray
theorem Bo {γ:Type}{x y r:Option γ}(h:(if true=true then x else y)=r):x=r:=h
theorem Bp {γ:Type}{x y r:Option γ}(h:(if false=true then x else y)=r):y=r:=h
end Go.AM
namespace Go.AM
open Go
def Ev {α:Type}(A:Nat→Option α) (r:α):Prop:=∃N,∀n,N≤n→A n=some r
section
variable {α β γ:Type}
theorem Ev.ret {r:α}:Ev (fun _=>some r) r:=⟨0,fun _ _=>rfl⟩
theorem Ev.of {A:Nat→Option α}{r:α}(h:∀n,A n=some r):Ev A r:=⟨0,fun n _=>h n⟩
theorem Ev.succ {A:Nat→Option α}{r:α}(h:Ev (fun n=>A (n+1)) r):Ev A r:=by
 obtain⟨N,h⟩:=h
 refine⟨N+1,fun n hn=>?_⟩
 obtain⟨m,rfl⟩:∃m,n=m+1:=⟨n - 1,by omega⟩
 exact h m (by omega)
theorem Ev.congr {A B:Nat→Option α}{r:α}(h:Ev A r) (e:∀n,A n=B n):Ev B r:=by
 obtain⟨N,h⟩:=h
 exact⟨N,fun n hn=>(e n)▸h n hn⟩
theorem Ev.bO0 {A:Nat→Option Unit}{k:Nat→Option γ}{r:γ}(ha:Ev A ()) (hk:Ev k r):Ev (fun n=>bO0 (A n) (k n)) r:=by
 obtain⟨N,ha⟩:=ha
 obtain⟨M,hk⟩:=hk
 refine⟨N+M,fun n hn=>?_⟩
 show Go.AM.bO0 (A n) (k n)=some r
 rw[ha n (by omega)]
 exact hk n (by omega)
theorem Ev.bO1 {A:Nat→Option α}{a:α}{k:Nat→α→Option γ}{r:γ}(ha:Ev A a) (hk:Ev (fun n=>k n a) r):Ev (fun n=>bO1 (A n) (k n)) r:=by
 obtain⟨N,ha⟩:=ha
 obtain⟨M,hk⟩:=hk
 refine⟨N+M,fun n hn=>?_⟩
 show Go.AM.bO1 (A n) (k n)=some r
 rw[ha n (by omega)]
 exact hk n (by omega)
theorem Ev.bO2 {A:Nat→Option (α×β)}{a:α}{b:β}{k:Nat→α→β→Option γ}{r:γ}(ha:Ev A (a,b)) (hk:Ev (fun n=>k n a b) r):Ev (fun n=>bO2 (A n) (k n)) r:=by
 obtain⟨N,ha⟩:=ha
 obtain⟨M,hk⟩:=hk
 refine⟨N+M,fun n hn=>?_⟩
 show Go.AM.bO2 (A n) (k n)=some r
 rw[ha n (by omega)]
 exact hk n (by omega)
theorem Ev.run {A:Nat→Option α}{r:α}(h:Ev A r):∃n,A n=some r:=let ⟨N,h⟩:=h;⟨N,h N (Nat.le_refl _)⟩
theorem Ev.uniq {A:Nat→Option α}{r s:α}(h:Ev A r) (h':Ev A s):r=s:=by
 obtain⟨N,h⟩:=h
 obtain⟨M,h'⟩:=h'
 have a:=h (N+M) (by omega)
 rw[h' (N+M) (by omega)]at a
 exact (Option.some.inj a).symm
def Total (A:Nat→Option α):Prop:=∃r,Ev A r
theorem down {P:Nat→Prop}(N:Nat) (h0:P N) (h:∀i,i<N→P (i+1)→P i):∀i,i≤N→P i:=by
 intro i hi
 obtain⟨d,hd⟩:∃d,d=N - i:=⟨_,rfl⟩
 induction d generalizing i with
 | zero=>
      obtain rfl:i=N:=by omega
      exact h0
 | succ d ih=>exact h i (by omega) (ih (i+1) (by omega) (by omega))
end
section
variable {γ:Type}
theorem AH {L:List D}{i:Nat}{x:D}{k:D→Option γ}(hx:L[i]?=some x):Ap L (i:Int) k=k x:=W3 (by omega) (by simpa using hx)
theorem W5 {x:Int}(h: -9223372036854775808≤x∧x≤9223372036854775807):IntKind.i64.wrap x=x:=IntWalk.i64_in x h
theorem AG {i N:Nat}(h:i<N) (hN:N≤maxLen):IntKind.i64.wrap ((i:Int)+1)=((i+1:Nat):Int):=by
 have:maxLen=9223372036854775807:=rfl
 rw[W5 (by omega)];omega
end
def DF (ti:Types) (e:TypeId) (x:D):Prop:=Shape ti e x.cells∧∀y,ti e=some y→x.isAgg=An y.desc
def AD (ti:Types) (e:TypeId) (L:List D):Prop:=L.length≤maxLen∧∀x∈L,DF ti e x
theorem AD.get {ti:Types}{e:TypeId}{L:List D}{i:Nat}(h:AD ti e L) (hi:i<L.length):∃x,L[i]?=some x∧x∈L∧DF ti e x:=
 ⟨L[i],List.getElem?_eq_getElem hi,List.getElem_mem hi,h.2 _ (List.getElem_mem hi)⟩
def QU (ti:Types) (rec:TypeId→Option (List TypeId)):Nat→List Field→Option (List TypeId)
 | _,[]=>some []
 | off,f::r=>match Nat.beq f.offset off with
  | false=>none
  | true=>match ti f.type with
   | none=>none
   | some y=>match rec f.type with
    | none=>none
    | some l=>match Nat.beq l.length y.size with
     | false=>none
     | true=>match QU ti rec (off+y.size) r with
      | none=>none
      | some l'=>some (l++l')
def YR (ti:Types):Nat→TypeId→Option (List TypeId)
 | 0,_=>none
 | n+1,t=>match ti t with
  | none=>none
  | some x=>match x.desc with
   | .struct fs=>match QU ti (YR ti n) 0 fs.toList with
    | none=>none
    | some l=>match Nat.beq l.length x.size with
     | true=>some l
     | false=>none
   | .array ..=>none
   | _=>some [t]
theorem Shape.one {ti:Types}{t:TypeId}{x:TI}{ds:List D}(h:Shape ti t ds) (hx:ti t=some x) (hd:∀fs,x.desc≠ .struct fs):∃c,ds=[c]:=by
 cases h with
 | struct ds h1 h2=>rw[hx]at h1;obtain rfl:=Option.some.inj h1;exact absurd h2 (hd _)
 | _=>exact⟨_,rfl⟩
theorem O5 {ti:Types}{rec:TypeId→Option (List TypeId)}{ds:List D}
  (hrec:∀t ls cs,rec t=some ls→Shape ti t cs→cs.length=ls.length∧∀(j:Nat) c tl,cs[j]?=some c→ls[j]?=some tl→Shape ti tl [c]):
  ∀(fs:List Field) (off:Nat) (ls:List TypeId),QU ti rec off fs=some ls→(∀f∈fs,∀y,ti f.type=some y→Shape ti f.type ((ds.drop f.offset).take y.size))→
   ∀(j:Nat) c tl,ds[off+j]?=some c→ls[j]?=some tl→Shape ti tl [c]
 | [],off,ls,h,_,j,c,tl,_,hl=>by
  cases h;simp at hl
 | f::fs,off,ls,h,hs,j,c,tl,hc,hl=>by
  unfold QU at h
  split at h
  ·cases h
  ·rename_i ho
   have ho:=Nat.eq_of_beq_eq_true ho
   split at h
   ·cases h
   ·rename_i y hy
    split at h
    ·cases h
    ·rename_i l hr
     split at h
     ·cases h
     ·rename_i hb
      have hb:=Nat.eq_of_beq_eq_true hb
      split at h
      ·cases h
      ·rename_i l' hl'
       cases h
       obtain⟨h1,h2⟩:=hrec _ _ _ hr (hs f (by simp) y hy)
       by_cases hj:j<l.length
       ·rw[List.getElem?_append_left hj]at hl
        refine h2 j c tl ?_ hl
        rw[List.getElem?_take,if_pos (by omega),List.getElem?_drop,ho]
        exact hc
       ·rw[List.getElem?_append_right (by omega)]at hl
        refine O5 hrec fs _ l' hl' (fun f' hf'=>hs f' (List.mem_cons_of_mem _ hf')) (j - l.length) c tl ?_ hl
        rw[←hc];congr 1;omega
theorem Shape.flat {ti:Types}:
  ∀(n:Nat) (t:TypeId) (ls:List TypeId) (ds:List D),YR ti n t=some ls→Shape ti t ds→ds.length=ls.length∧∀(j:Nat) c tl,ds[j]?=some c→ls[j]?=some tl→Shape ti tl [c]
 | 0,t,ls,ds,h,_=>by cases h
 | n+1,t,ls,ds,h,hs=>by
  unfold YR at h
  split at h
  ·cases h
  ·rename_i x hx
   have single:(∀fs,x.desc≠ .struct fs)→ls=[t]→ds.length=ls.length∧∀(j:Nat) c tl,ds[j]?=some c→ls[j]?=some tl→Shape ti tl [c]:=by
    rintro hd rfl
    obtain⟨c,rfl⟩:=hs.one hx hd
    refine⟨rfl,fun j c' tl h1 h2=>?_⟩
    match j with
    | 0=>simp at h1 h2;subst h1;subst h2;exact hs
    | j+1=>simp at h1
   split at h
   ·rename_i fs hd
    obtain⟨h1,_,h3⟩:=hs.VH hx hd
    split at h
    ·cases h
    ·rename_i l hl
     split at h
     ·rename_i hb
      cases h
      refine⟨h1.trans (Nat.eq_of_beq_eq_true hb).symm,fun j c tl h4 h5=>?_⟩
      exact O5 (fun t ls cs h6 h7=>Shape.flat n t ls cs h6 h7) fs.toList 0 ls hl h3 j c tl (by simpa using h4) h5
     ·cases h
   ·cases h
   ·rename_i h1 h2
    cases h
    exact single h1 rfl
theorem DF.agg {ti:Types}{e:TypeId}{x:D}{y:TI}(h:DF ti e x) (hy:ti e=some y) (hr:An y.desc=true):∃cs,x= .agg cs∧Shape ti e cs:=by
 have h1:=(h.2 y hy).trans hr
 cases x<;>simp[D.isAgg]at h1
 exact⟨_,rfl,h.1⟩
theorem DF.rL {ti:Types}{e:TypeId}{x:D}{y:TI}(h:DF ti e x) (hy:ti e=some y) (hr:An y.desc=false):Shape ti e [x]:=by
 have h1:=(h.2 y hy).trans hr
 have h0:=h.1
 cases x<;>simp_all [D.isAgg,D.cells]
theorem Shape.Dv {ti:Types}{t e:TypeId}{x y:TI}{c:D}(h:Shape ti t [c]) (hx:ti t=some x) (hd:x.desc= .slice e) (hy:ti e=some y):
  ∃L,c= .list (An y.desc) y.size L∧AD ti e L:=by
 obtain⟨L,e1,h1,h2,h3⟩:=h.Xd hx hd hy
 refine⟨L,(List.cons.inj e1).1,h1,fun r hr=>⟨h3 r hr,fun y' hy'=>?_⟩⟩
 rw[hy]at hy'
 obtain rfl:=Option.some.inj hy'
 exact (h2 r hr).1
theorem Shape.JT {ti:Types}{t:TypeId}{x:TI}{k:IntKind}{c:D}(h:Shape ti t [c]) (hx:ti t=some x) (hd:x.desc= .int k):∃n,c= .int k n∧(Lit.int k n).wf=true:=by
 obtain⟨n,e,hw⟩:=h.eE hx hd
 exact⟨n,(List.cons.inj e).1,hw⟩
theorem Shape.HZ {ti:Types}{t:TypeId}{x:TI}{c:D}(h:Shape ti t [c]) (hx:ti t=some x) (hd:x.desc= .string):∃s,c= .str s∧s.size≤maxLen:=by
 obtain⟨n,e,hw⟩:=h.eF hx hd
 exact⟨n,(List.cons.inj e).1,hw⟩
theorem Af {ag:Bool}{sz:Nat}{L M:List D}{cs:List D}(h:D.agg cs∈L) (h2:D.list ag sz M∈cs):SizeOf.sizeOf M<SizeOf.sizeOf L:=by
 have h1:=List.sizeOf_lt_of_mem h
 have h3:=List.sizeOf_lt_of_mem h2
 simp at h1 h3
 omega
theorem Ba {P:List D→Prop}(H:∀L,(∀M,SizeOf.sizeOf M<SizeOf.sizeOf L→P M)→P L) (L:List D):P L:=by
 obtain⟨m,hm⟩:∃m,SizeOf.sizeOf L<m:=⟨_,Nat.lt_succ_self _⟩
 induction m generalizing L with
 | zero=>omega
 | succ m ih=>exact H L (fun M hM=>ih M (by omega))
end Go.AM
namespace Go.AM
open Go
theorem Shape.row {ti:Types}{t:TypeId}{cs:List D}{y:TI}(h:Shape ti t cs) (hy:ti t=some y) (h1:An y.desc=true):cs.length=y.size∧∀c∈cs,c.isAgg=false:=by
 cases h with
 | struct ds h hd hl hg hr=>rw[hy]at h;cases h;exact⟨hl,hg⟩
 | bool b h hd=>rw[hy]at h;cases h;rw[hd]at h1;cases h1
 | int n h hd=>rw[hy]at h;cases h;rw[hd]at h1;cases h1
 | str s h hd=>rw[hy]at h;cases h;rw[hd]at h1;cases h1
 | slice rows h hd=>rw[hy]at h;cases h;rw[hd]at h1;cases h1
theorem Shape.cell {ti:Types}{t:TypeId}{cs:List D}{y:TI}(h:Shape ti t cs) (hy:ti t=some y) (h1:An y.desc=false):∃c,cs=[c]∧c.isAgg=false:=by
 cases h with
 | struct ds h hd hl hg hr=>rw[hy]at h;cases h;rw[hd]at h1;cases h1
 | bool b h hd=>exact⟨_,rfl,rfl⟩
 | int n h hd=>exact⟨_,rfl,rfl⟩
 | str s h hd=>exact⟨_,rfl,rfl⟩
 | slice rows h hd=>exact⟨_,rfl,rfl⟩
theorem DF.fits {ti:Types}{e:TypeId}{r:D}{y:TI}(h1:Bt ti) (h:DF ti e r) (hy:ti e=some y):r.fits (An y.desc) y.size:=by
 have ha:=h.2 y hy
 cases hr:An y.desc with
 | true=>
  obtain⟨q1,q2⟩:=h.1.row hy hr
  exact⟨by rw[ha,hr],q1,q2⟩
 | false=>
  obtain⟨c,q1,q2⟩:=h.1.cell hy hr
  exact⟨by rw[ha,hr],by rw[q1,h1 e y hy hr];rfl,by rw[q1];simpa using q2⟩
theorem AD.shape {ti:Types}{t e:TypeId}{x y:TI}{L:List D}(h1:Bt ti) (h:AD ti e L) (hx:ti t=some x) (hd:x.desc= .slice e) (hy:ti e=some y):Shape ti t [.list (An y.desc) y.size L]:=
 .slice L hx hd hy h.1 (fun r hr=>(h.2 r hr).fits h1 hy) (fun r hr=>(h.2 r hr).1)
theorem AD.nil {ti:Types}{e:TypeId}:AD ti e []:=⟨Nat.zero_le _,by simp⟩
theorem AD.cons {ti:Types}{e:TypeId}{x:D}{L:List D}(hx:DF ti e x) (h:AD ti e L) (hl:L.length+1≤maxLen):AD ti e (x::L):=⟨by simpa using hl,fun y hy=>by
 rcases List.mem_cons.1 hy with rfl | hy
 ·exact hx
 ·exact h.2 y hy⟩
theorem AD.app {ti:Types}{e:TypeId}{L M:List D}(h:AD ti e L) (h':AD ti e M) (hl:L.length+M.length≤maxLen):AD ti e (L++M):=⟨by simpa using hl,fun y hy=>by
 rcases List.mem_append.1 hy with hy | hy
 ·exact h.2 y hy
 ·exact h'.2 y hy⟩
theorem AD.one {ti:Types}{e:TypeId}{x:D}(hx:DF ti e x):AD ti e [x]:=.cons hx .nil (by simp[maxLen])
theorem AD.set {ti:Types}{e:TypeId}{L:List D}(h:AD ti e L) (i:Nat) {x:D}(hx:DF ti e x):AD ti e (L.set i x):=⟨by simpa using h.1,fun y hy=>by
 rcases List.mem_or_eq_of_mem_set hy with hy | rfl
 ·exact h.2 y hy
 ·exact hx⟩
theorem AD.take {ti:Types}{e:TypeId}{L:List D}(h:AD ti e L) (i:Nat):AD ti e (L.take i):=⟨by have:=h.1;simp;omega,fun x hx=>h.2 x (List.mem_of_mem_take hx)⟩
theorem AD.drop {ti:Types}{e:TypeId}{L:List D}(h:AD ti e L) (i:Nat):AD ti e (L.drop i):=⟨by have:=h.1;simp;omega,fun x hx=>h.2 x (List.mem_of_mem_drop hx)⟩
theorem Ev.bO3 {A1 A2 A3 γ:Type}{A:Nat→Option (A1×A2×A3)}{a1:A1}{a2:A2}{a3:A3}{k:Nat→A1→A2→A3→Option γ}{r:γ}(ha:Ev A (a1,a2,a3)) (hk:Ev (fun n=>k n a1 a2 a3) r):Ev (fun n=>bO3 (A n) (k n)) r:=by
 obtain⟨N,ha⟩:=ha
 obtain⟨M,hk⟩:=hk
 refine⟨N+M,fun n hn=>?_⟩
 show Go.AM.bO3 (A n) (k n)=some r
 rw[ha n (by omega)]
 exact hk n (by omega)
theorem Ev.bO4 {A1 A2 A3 A4 γ:Type}{A:Nat→Option (A1×A2×A3×A4)}{a1:A1}{a2:A2}{a3:A3}{a4:A4}{k:Nat→A1→A2→A3→A4→Option γ}{r:γ}(ha:Ev A (a1,a2,a3,a4)) (hk:Ev (fun n=>k n a1 a2 a3 a4) r):Ev (fun n=>bO4 (A n) (k n)) r:=by
 obtain⟨N,ha⟩:=ha
 obtain⟨M,hk⟩:=hk
 refine⟨N+M,fun n hn=>?_⟩
 show Go.AM.bO4 (A n) (k n)=some r
 rw[ha n (by omega)]
 exact hk n (by omega)
theorem Ev.bO7 {A1 A2 A3 A4 A5 A6 A7 γ:Type}{A:Nat→Option (A1×A2×A3×A4×A5×A6×A7)}{a1:A1}{a2:A2}{a3:A3}{a4:A4}{a5:A5}{a6:A6}{a7:A7}{k:Nat→A1→A2→A3→A4→A5→A6→A7→Option γ}{r:γ}(ha:Ev A (a1,a2,a3,a4,a5,a6,a7)) (hk:Ev (fun n=>k n a1 a2 a3 a4 a5 a6 a7) r):Ev (fun n=>bO7 (A n) (k n)) r:=by
 obtain⟨N,ha⟩:=ha
 obtain⟨M,hk⟩:=hk
 refine⟨N+M,fun n hn=>?_⟩
 show Go.AM.bO7 (A n) (k n)=some r
 rw[ha n (by omega)]
 exact hk n (by omega)
theorem Ev.bO8 {A1 A2 A3 A4 A5 A6 A7 A8 γ:Type}{A:Nat→Option (A1×A2×A3×A4×A5×A6×A7×A8)}{a1:A1}{a2:A2}{a3:A3}{a4:A4}{a5:A5}{a6:A6}{a7:A7}{a8:A8}{k:Nat→A1→A2→A3→A4→A5→A6→A7→A8→Option γ}{r:γ}(ha:Ev A (a1,a2,a3,a4,a5,a6,a7,a8)) (hk:Ev (fun n=>k n a1 a2 a3 a4 a5 a6 a7 a8) r):Ev (fun n=>bO8 (A n) (k n)) r:=by
 obtain⟨N,ha⟩:=ha
 obtain⟨M,hk⟩:=hk
 refine⟨N+M,fun n hn=>?_⟩
 show Go.AM.bO8 (A n) (k n)=some r
 rw[ha n (by omega)]
 exact hk n (by omega)
theorem Ev.bO10 {A1 A2 A3 A4 A5 A6 A7 A8 A9 A10 γ:Type}{A:Nat→Option (A1×A2×A3×A4×A5×A6×A7×A8×A9×A10)}{a1:A1}{a2:A2}{a3:A3}{a4:A4}{a5:A5}{a6:A6}{a7:A7}{a8:A8}{a9:A9}{a10:A10}{k:Nat→A1→A2→A3→A4→A5→A6→A7→A8→A9→A10→Option γ}{r:γ}(ha:Ev A (a1,a2,a3,a4,a5,a6,a7,a8,a9,a10)) (hk:Ev (fun n=>k n a1 a2 a3 a4 a5 a6 a7 a8 a9 a10) r):Ev (fun n=>bO10 (A n) (k n)) r:=by
 obtain⟨N,ha⟩:=ha
 obtain⟨M,hk⟩:=hk
 refine⟨N+M,fun n hn=>?_⟩
 show Go.AM.bO10 (A n) (k n)=some r
 rw[ha n (by omega)]
 exact hk n (by omega)
theorem Ev.bO14 {A1 A2 A3 A4 A5 A6 A7 A8 A9 A10 A11 A12 A13 A14 γ:Type}{A:Nat→Option (A1×A2×A3×A4×A5×A6×A7×A8×A9×A10×A11×A12×A13×A14)}{a1:A1}{a2:A2}{a3:A3}{a4:A4}{a5:A5}{a6:A6}{a7:A7}{a8:A8}{a9:A9}{a10:A10}{a11:A11}{a12:A12}{a13:A13}{a14:A14}{k:Nat→A1→A2→A3→A4→A5→A6→A7→A8→A9→A10→A11→A12→A13→A14→Option γ}{r:γ}(ha:Ev A (a1,a2,a3,a4,a5,a6,a7,a8,a9,a10,a11,a12,a13,a14)) (hk:Ev (fun n=>k n a1 a2 a3 a4 a5 a6 a7 a8 a9 a10 a11 a12 a13 a14) r):Ev (fun n=>bO14 (A n) (k n)) r:=by
 obtain⟨N,ha⟩:=ha
 obtain⟨M,hk⟩:=hk
 refine⟨N+M,fun n hn=>?_⟩
 show Go.AM.bO14 (A n) (k n)=some r
 rw[ha n (by omega)]
 exact hk n (by omega)
theorem Ev.bO15 {A1 A2 A3 A4 A5 A6 A7 A8 A9 A10 A11 A12 A13 A14 A15 γ:Type}{A:Nat→Option (A1×A2×A3×A4×A5×A6×A7×A8×A9×A10×A11×A12×A13×A14×A15)}{a1:A1}{a2:A2}{a3:A3}{a4:A4}{a5:A5}{a6:A6}{a7:A7}{a8:A8}{a9:A9}{a10:A10}{a11:A11}{a12:A12}{a13:A13}{a14:A14}{a15:A15}{k:Nat→A1→A2→A3→A4→A5→A6→A7→A8→A9→A10→A11→A12→A13→A14→A15→Option γ}{r:γ}(ha:Ev A (a1,a2,a3,a4,a5,a6,a7,a8,a9,a10,a11,a12,a13,a14,a15)) (hk:Ev (fun n=>k n a1 a2 a3 a4 a5 a6 a7 a8 a9 a10 a11 a12 a13 a14 a15) r):Ev (fun n=>bO15 (A n) (k n)) r:=by
 obtain⟨N,ha⟩:=ha
 obtain⟨M,hk⟩:=hk
 refine⟨N+M,fun n hn=>?_⟩
 show Go.AM.bO15 (A n) (k n)=some r
 rw[ha n (by omega)]
 exact hk n (by omega)
theorem Ev.bO16 {A1 A2 A3 A4 A5 A6 A7 A8 A9 A10 A11 A12 A13 A14 A15 A16 γ:Type}{A:Nat→Option (A1×A2×A3×A4×A5×A6×A7×A8×A9×A10×A11×A12×A13×A14×A15×A16)}{a1:A1}{a2:A2}{a3:A3}{a4:A4}{a5:A5}{a6:A6}{a7:A7}{a8:A8}{a9:A9}{a10:A10}{a11:A11}{a12:A12}{a13:A13}{a14:A14}{a15:A15}{a16:A16}{k:Nat→A1→A2→A3→A4→A5→A6→A7→A8→A9→A10→A11→A12→A13→A14→A15→A16→Option γ}{r:γ}(ha:Ev A (a1,a2,a3,a4,a5,a6,a7,a8,a9,a10,a11,a12,a13,a14,a15,a16)) (hk:Ev (fun n=>k n a1 a2 a3 a4 a5 a6 a7 a8 a9 a10 a11 a12 a13 a14 a15 a16) r):Ev (fun n=>bO16 (A n) (k n)) r:=by
 obtain⟨N,ha⟩:=ha
 obtain⟨M,hk⟩:=hk
 refine⟨N+M,fun n hn=>?_⟩
 show Go.AM.bO16 (A n) (k n)=some r
 rw[ha n (by omega)]
 exact hk n (by omega)
theorem Ev.bO18 {A1 A2 A3 A4 A5 A6 A7 A8 A9 A10 A11 A12 A13 A14 A15 A16 A17 A18 γ:Type}{A:Nat→Option (A1×A2×A3×A4×A5×A6×A7×A8×A9×A10×A11×A12×A13×A14×A15×A16×A17×A18)}{a1:A1}{a2:A2}{a3:A3}{a4:A4}{a5:A5}{a6:A6}{a7:A7}{a8:A8}{a9:A9}{a10:A10}{a11:A11}{a12:A12}{a13:A13}{a14:A14}{a15:A15}{a16:A16}{a17:A17}{a18:A18}{k:Nat→A1→A2→A3→A4→A5→A6→A7→A8→A9→A10→A11→A12→A13→A14→A15→A16→A17→A18→Option γ}{r:γ}(ha:Ev A (a1,a2,a3,a4,a5,a6,a7,a8,a9,a10,a11,a12,a13,a14,a15,a16,a17,a18)) (hk:Ev (fun n=>k n a1 a2 a3 a4 a5 a6 a7 a8 a9 a10 a11 a12 a13 a14 a15 a16 a17 a18) r):Ev (fun n=>bO18 (A n) (k n)) r:=by
 obtain⟨N,ha⟩:=ha
 obtain⟨M,hk⟩:=hk
 refine⟨N+M,fun n hn=>?_⟩
 show Go.AM.bO18 (A n) (k n)=some r
 rw[ha n (by omega)]
 exact hk n (by omega)
end Go.AM
namespace Go.Proofs.YtjmofeakajdbiaaGreatDoor
open Go Go.AM
def eP:List (Nat×TI):=[(2,⟨.int .i64,1,8,.int .i64 0,[.d (.int .i64 0)]⟩),
 (3,⟨.int .i64,1,8,.int .i64 0,[.d (.int .i64 0)]⟩),
 (4,⟨.bool,1,1,.bool false,[.d (.bool false)]⟩),
 (5,⟨.int .u8,1,1,.int .u8 0,[.d (.int .u8 0)]⟩),
 (9,⟨.string,1,16,.string ByteArray.empty,[.d (.str ByteArray.empty)]⟩)]
theorem mJ:Cj Tryz.prog eP:=⟨⟨by kernel_rfl,by kernel_rfl,by kernel_rfl⟩,⟨by kernel_rfl,by kernel_rfl,by kernel_rfl⟩,⟨by kernel_rfl,by kernel_rfl,by kernel_rfl⟩,⟨by kernel_rfl,by kernel_rfl,by kernel_rfl⟩,⟨by kernel_rfl,by kernel_rfl,by kernel_rfl⟩,trivial⟩
def eS:List (Nat×TI):=[(22,⟨.slice 45,1,24,.slice none 0 0,[.nils true 16]⟩),
 (23,⟨.struct #[⟨"Items",22,0,false, "", "",0⟩],1,24,.agg #[.slice none 0 0],[.nils true 16]⟩),
 (24,⟨.struct #[⟨"Items",22,0,false, "", "",0⟩],1,24,.agg #[.slice none 0 0],[.nils true 16]⟩),
 (31,⟨.slice 33,1,24,.slice none 0 0,[.nils true 3]⟩)]
theorem mK:Cj Tryz.prog eS:=⟨⟨by kernel_rfl,by kernel_rfl,by kernel_rfl⟩,⟨by kernel_rfl,by kernel_rfl,by kernel_rfl⟩,⟨by kernel_rfl,by kernel_rfl,by kernel_rfl⟩,⟨by kernel_rfl,by kernel_rfl,by kernel_rfl⟩,trivial⟩
def eT:List (Nat×TI):=[(33,⟨.struct #[⟨"Kind",5,0,false, "", "",0⟩,⟨"Name",9,1,false, "", "",8⟩,⟨"Args",31,2,false, "", "",24⟩],3,48,.agg #[.int .u8 0,.string ByteArray.empty,.slice none 0 0],[.d (.int .u8 0),.d (.str ByteArray.empty),.nils true 3]⟩),
 (34,⟨.slice 9,1,24,.slice none 0 0,[.nils false 1]⟩),
 (36,⟨.struct #[⟨"Name",9,0,false, "", "",0⟩,⟨"Path",34,1,false, "", "",16⟩],2,40,.agg #[.string ByteArray.empty,.slice none 0 0],[.d (.str ByteArray.empty),.nils false 1]⟩),
 (37,⟨.slice 39,1,24,.slice none 0 0,[.nils true 8]⟩),
 (39,⟨.struct #[⟨"Op",5,0,false, "", "",0⟩,⟨"Int",2,1,false, "", "",8⟩,⟨"Name",9,2,false, "", "",16⟩,⟨"Second",9,3,false, "", "",32⟩,⟨"Place",36,4,false, "", "",48⟩,⟨"Args",37,6,false, "", "",88⟩,⟨"At",3,7,false, "", "",112⟩],8,120,.agg #[.int .u8 0,.int .i64 0,.string ByteArray.empty,.string ByteArray.empty,.string ByteArray.empty,.slice none 0 0,.slice none 0 0,.int .i64 0],[.d (.int .u8 0),.d (.int .i64 0),.d (.str ByteArray.empty),.d (.str ByteArray.empty),.d (.str ByteArray.empty),.nils false 1,.nils true 8,.d (.int .i64 0)]⟩),
 (40,⟨.func #[33] #[4] false,1,8,.nilFunc,[.nilf]⟩),
 (41,⟨.func #[39] #[4] false,1,8,.nilFunc,[.nilf]⟩),
 (42,⟨.slice 74,1,24,.slice none 0 0,[.nils true 4]⟩),
 (43,⟨.slice 50,1,24,.slice none 0 0,[.nils true 15]⟩),
 (45,⟨.struct #[⟨"Kind",5,0,false, "", "",0⟩,⟨"Name",9,1,false, "", "",8⟩,⟨"Fields",42,2,false, "", "",24⟩,⟨"Result",33,3,false, "", "",48⟩,⟨"Body",43,6,false, "", "",96⟩,⟨"Return",39,7,false, "", "",120⟩,⟨"At",3,15,false, "", "",240⟩],16,248,.agg #[.int .u8 0,.string ByteArray.empty,.slice none 0 0,.int .u8 0,.string ByteArray.empty,.slice none 0 0,.slice none 0 0,.int .u8 0,.int .i64 0,.string ByteArray.empty,.string ByteArray.empty,.string ByteArray.empty,.slice none 0 0,.slice none 0 0,.int .i64 0,.int .i64 0],[.d (.int .u8 0),.d (.str ByteArray.empty),.nils true 4,.d (.int .u8 0),.d (.str ByteArray.empty),.nils true 3,.nils true 15,.d (.int .u8 0),.d (.int .i64 0),.d (.str ByteArray.empty),.d (.str ByteArray.empty),.d (.str ByteArray.empty),.nils false 1,.nils true 8,.d (.int .i64 0),.d (.int .i64 0)]⟩)]
theorem mL:Cj Tryz.prog eT:=⟨⟨by kernel_rfl,by kernel_rfl,by kernel_rfl⟩,⟨by kernel_rfl,by kernel_rfl,by kernel_rfl⟩,⟨by kernel_rfl,by kernel_rfl,by kernel_rfl⟩,⟨by kernel_rfl,by kernel_rfl,by kernel_rfl⟩,⟨by kernel_rfl,by kernel_rfl,by kernel_rfl⟩,⟨by kernel_rfl,by kernel_rfl,by kernel_rfl⟩,⟨by kernel_rfl,by kernel_rfl,by kernel_rfl⟩,⟨by kernel_rfl,by kernel_rfl,by kernel_rfl⟩,⟨by kernel_rfl,by kernel_rfl,by kernel_rfl⟩,⟨by kernel_rfl,by kernel_rfl,by kernel_rfl⟩,trivial⟩
def eU:List (Nat×TI):=[(48,⟨.slice 95,1,24,.slice none 0 0,[.nils true 3]⟩),
 (50,⟨.struct #[⟨"Op",5,0,false, "", "",0⟩,⟨"Name",9,1,false, "", "",8⟩,⟨"Second",9,2,false, "", "",24⟩,⟨"Names",34,3,false, "", "",40⟩,⟨"Type",33,4,false, "", "",64⟩,⟨"Int",2,7,false, "", "",112⟩,⟨"Place",36,8,false, "", "",120⟩,⟨"Exprs",37,10,false, "", "",160⟩,⟨"Body",43,11,false, "", "",184⟩,⟨"Else",43,12,false, "", "",208⟩,⟨"Arms",48,13,false, "", "",232⟩,⟨"At",3,14,false, "", "",256⟩],15,264,.agg #[.int .u8 0,.string ByteArray.empty,.string ByteArray.empty,.slice none 0 0,.int .u8 0,.string ByteArray.empty,.slice none 0 0,.int .i64 0,.string ByteArray.empty,.slice none 0 0,.slice none 0 0,.slice none 0 0,.slice none 0 0,.slice none 0 0,.int .i64 0],[.d (.int .u8 0),.d (.str ByteArray.empty),.d (.str ByteArray.empty),.nils false 1,.d (.int .u8 0),.d (.str ByteArray.empty),.nils true 3,.d (.int .i64 0),.d (.str ByteArray.empty),.nils false 1,.nils true 8,.nils true 15,.nils true 15,.nils true 3,.d (.int .i64 0)]⟩),
 (53,⟨.pointer 55,1,8,.pointer none,[.nilp]⟩),
 (55,⟨.struct #[⟨"Left",3,0,false, "", "",0⟩],1,8,.agg #[.int .i64 0],[.d (.int .i64 0)]⟩),
 (62,⟨.func #[33] #[33] false,1,8,.nilFunc,[.nilf]⟩)]
theorem mM:Cj Tryz.prog eU:=⟨⟨by kernel_rfl,by kernel_rfl,by kernel_rfl⟩,⟨by kernel_rfl,by kernel_rfl,by kernel_rfl⟩,⟨by kernel_rfl,by kernel_rfl,by kernel_rfl⟩,⟨by kernel_rfl,by kernel_rfl,by kernel_rfl⟩,⟨by kernel_rfl,by kernel_rfl,by kernel_rfl⟩,trivial⟩
def eV:List (Nat×TI):=[(67,⟨.func #[45] #[4] false,1,8,.nilFunc,[.nilf]⟩),
 (74,⟨.struct #[⟨"Name",9,0,false, "", "",0⟩,⟨"Type",33,1,false, "", "",16⟩],4,64,.agg #[.string ByteArray.empty,.int .u8 0,.string ByteArray.empty,.slice none 0 0],[.d (.str ByteArray.empty),.d (.int .u8 0),.d (.str ByteArray.empty),.nils true 3]⟩),
 (78,⟨.func #[33,33] #[4] false,1,8,.nilFunc,[.nilf]⟩)]
theorem mN:Cj Tryz.prog eV:=⟨⟨by kernel_rfl,by kernel_rfl,by kernel_rfl⟩,⟨by kernel_rfl,by kernel_rfl,by kernel_rfl⟩,⟨by kernel_rfl,by kernel_rfl,by kernel_rfl⟩,trivial⟩
def eW:List (Nat×TI):=[(85,⟨.func #[3] #[3] false,1,8,.nilFunc,[.nilf]⟩),
 (87,⟨.func #[39,39] #[4] false,1,8,.nilFunc,[.nilf]⟩),
 (90,⟨.func #[74,74] #[4] false,1,8,.nilFunc,[.nilf]⟩),
 (91,⟨.func #[45,45] #[4] false,1,8,.nilFunc,[.nilf]⟩),
 (95,⟨.struct #[⟨"Variant",9,0,false, "", "",0⟩,⟨"Name",9,1,false, "", "",16⟩,⟨"Body",43,2,false, "", "",32⟩],3,56,.agg #[.string ByteArray.empty,.string ByteArray.empty,.slice none 0 0],[.d (.str ByteArray.empty),.d (.str ByteArray.empty),.nils true 15]⟩)]
theorem mO:Cj Tryz.prog eW:=⟨⟨by kernel_rfl,by kernel_rfl,by kernel_rfl⟩,⟨by kernel_rfl,by kernel_rfl,by kernel_rfl⟩,⟨by kernel_rfl,by kernel_rfl,by kernel_rfl⟩,⟨by kernel_rfl,by kernel_rfl,by kernel_rfl⟩,⟨by kernel_rfl,by kernel_rfl,by kernel_rfl⟩,trivial⟩
def eY:List (Nat×TI):=[(96,⟨.func #[36] #[36] false,1,8,.nilFunc,[.nilf]⟩),
 (97,⟨.func #[9] #[4] false,1,8,.nilFunc,[.nilf]⟩),
 (99,⟨.func #[74] #[4] false,1,8,.nilFunc,[.nilf]⟩),
 (100,⟨.func #[97,4] #[4] false,1,8,.nilFunc,[.nilf]⟩),
 (103,⟨.func #[50] #[4] false,1,8,.nilFunc,[.nilf]⟩),
 (105,⟨.func #[103] #[] false,1,8,.nilFunc,[.nilf]⟩),
 (106,⟨.func #[103] #[] false,1,8,.nilFunc,[.nilf]⟩)]
theorem mP:Cj Tryz.prog eY:=⟨⟨by kernel_rfl,by kernel_rfl,by kernel_rfl⟩,⟨by kernel_rfl,by kernel_rfl,by kernel_rfl⟩,⟨by kernel_rfl,by kernel_rfl,by kernel_rfl⟩,⟨by kernel_rfl,by kernel_rfl,by kernel_rfl⟩,⟨by kernel_rfl,by kernel_rfl,by kernel_rfl⟩,⟨by kernel_rfl,by kernel_rfl,by kernel_rfl⟩,⟨by kernel_rfl,by kernel_rfl,by kernel_rfl⟩,trivial⟩
def eZ:List (Nat×TI):=[(113,⟨.struct #[⟨"place",4,0,false, "", "weftway/tree",0⟩,⟨"least",3,1,false, "", "weftway/tree",8⟩,⟨"most",3,2,false, "", "weftway/tree",16⟩],3,24,.agg #[.bool false,.int .i64 0,.int .i64 0],[.d (.bool false),.d (.int .i64 0),.d (.int .i64 0)]⟩),
 (119,⟨.func #[39] #[39] false,1,8,.nilFunc,[.nilf]⟩),
 (120,⟨.func #[50] #[50] false,1,8,.nilFunc,[.nilf]⟩),
 (125,⟨.func #[95] #[95] false,1,8,.nilFunc,[.nilf]⟩),
 (127,⟨.func #[74] #[74] false,1,8,.nilFunc,[.nilf]⟩)]
theorem mQ:Cj Tryz.prog eZ:=⟨⟨by kernel_rfl,by kernel_rfl,by kernel_rfl⟩,⟨by kernel_rfl,by kernel_rfl,by kernel_rfl⟩,⟨by kernel_rfl,by kernel_rfl,by kernel_rfl⟩,⟨by kernel_rfl,by kernel_rfl,by kernel_rfl⟩,⟨by kernel_rfl,by kernel_rfl,by kernel_rfl⟩,trivial⟩
def fA:List (Nat×TI):=[(130,⟨.func #[45] #[45] false,1,8,.nilFunc,[.nilf]⟩),
 (134,⟨.func #[50,50] #[4] false,1,8,.nilFunc,[.nilf]⟩),
 (136,⟨.func #[5] #[4] false,1,8,.nilFunc,[.nilf]⟩),
 (138,⟨.struct #[⟨"names",3,0,false, "", "weftway/tree",0⟩,⟨"exprs",3,1,false, "", "weftway/tree",8⟩,⟨"typed",4,2,false, "", "weftway/tree",16⟩,⟨"placed",4,3,false, "", "weftway/tree",17⟩,⟨"body",4,4,false, "", "weftway/tree",18⟩,⟨"other",4,5,false, "", "weftway/tree",19⟩,⟨"arms",4,6,false, "", "weftway/tree",20⟩,⟨"lent",4,7,false, "", "weftway/tree",21⟩,⟨"name",97,8,false, "", "weftway/tree",24⟩,⟨"second",97,9,false, "", "weftway/tree",32⟩],10,40,.agg #[.int .i64 0,.int .i64 0,.bool false,.bool false,.bool false,.bool false,.bool false,.bool false,.nilFunc,.nilFunc],[.d (.int .i64 0),.d (.int .i64 0),.d (.bool false),.d (.bool false),.d (.bool false),.d (.bool false),.d (.bool false),.d (.bool false),.nilf,.nilf]⟩),
 (142,⟨.func #[95] #[4] false,1,8,.nilFunc,[.nilf]⟩)]
theorem mR:Cj Tryz.prog fA:=⟨⟨by kernel_rfl,by kernel_rfl,by kernel_rfl⟩,⟨by kernel_rfl,by kernel_rfl,by kernel_rfl⟩,⟨by kernel_rfl,by kernel_rfl,by kernel_rfl⟩,⟨by kernel_rfl,by kernel_rfl,by kernel_rfl⟩,⟨by kernel_rfl,by kernel_rfl,by kernel_rfl⟩,trivial⟩
def fB:List (Nat×TI):=[(147,⟨.slice 43,1,24,.slice none 0 0,[.nils false 1]⟩),
 (149,⟨.func #[95,95] #[4] false,1,8,.nilFunc,[.nilf]⟩),
 (152,⟨.map 9 3,1,8,.map none,[.nilm]⟩),
 (157,⟨.func #[21] #[4] false,1,8,.nilFunc,[.nilf]⟩)]
theorem mS:Cj Tryz.prog fB:=⟨⟨by kernel_rfl,by kernel_rfl,by kernel_rfl⟩,⟨by kernel_rfl,by kernel_rfl,by kernel_rfl⟩,⟨by kernel_rfl,by kernel_rfl,by kernel_rfl⟩,⟨by kernel_rfl,by kernel_rfl,by kernel_rfl⟩,trivial⟩
def YS:List (List (Nat×TI)):=[eP,eS,eT,eU,eV,eW,eY,eZ,fA,fB]
def AI:Types:=VY YS
theorem Ve:GD Tryz.prog YS:=⟨mJ,mK,mL,mM,mN,mO,mP,mQ,mR,mS,trivial⟩
theorem BI:BO Tryz.prog AI:=YC Ve
theorem Ao:Bt AI:=Wz Ve
end Go.Proofs.YtjmofeakajdbiaaGreatDoor
namespace Go.AM
open Go Go.RowKit
def aZ (p:Id→Bool):CV→Bool
 | .ptr i _=>p i
 | .fn _ cap=>B3 p cap
 | .lst i _ _ _=>p i
 | .sl i _=>p i
 | .map i=>p i
 | .ap i _ _ _ _=>p i
 | .ow i=>p i
 | .op i _ _ _=>p i
 | .yl i=>p i
 | _=>true
def lL (p:Id→Bool):V1→Bool
 | .d _=>true
 | .c x=>aZ p x
 | .agg cs=>B3 (aZ p) cs
def lM (p:Id→Bool):AV→Bool
 | .u=>true
 | .v x=>lL p x
 | .t xs=>B3 (lL p) xs
def OD (p:Id→Bool):AF→Bool
 | .cells cs=>B3 (aZ p) cs
 | .tok ..=>true
 | .map _ _ es=>B3 (fun e=>lL p e.2) es
 | .arr cs1 _ _ _ cs2=>match B3 (aZ p) cs1 with
  | true=>B3 (aZ p) cs2
  | false=>false
 | .tree _ _ _ _ foc=>match foc with
  | some x=>B3 (aZ p) x.2
  | none=>true
 | .gone=>true
 | .rnd _ sl=>B3 (fun x=>lM p x.2) sl
 | .rndX _=>true
section
variable {p:Id→Bool}{f e:Id→Id}(hp:∀i,p i=true→f (e i)=i)
include hp
theorem YT {c:CV}(h:aZ p c=true):(c.BM e).BM f=c:=by
 cases c<;>simp only[CV.BM,aZ]at h ⊢
 ·rw[hp _ h]
 ·rw[List.map_map]
  congr 1
  rw[BN]at h
  exact B8 fun i hi=>hp _ (h i hi)
 ·rw[hp _ h]
 ·rw[hp _ h]
 ·rw[hp _ h]
 ·rw[hp _ h]
 ·rw[hp _ h]
 ·rw[hp _ h]
 ·rw[hp _ h]
theorem Jm {cs:List CV}(h:B3 (aZ p) cs=true):(cs.map (CV.BM e)).map (CV.BM f)=cs:=by
 rw[List.map_map]
 rw[BN]at h
 exact B8 fun i hi=>YT hp (h i hi)
theorem QV {c:V1}(h:lL p c=true):(c.BM e).BM f=c:=by
 cases c<;>simp only[V1.BM,lL]at h ⊢
 ·rw[YT hp h]
 ·rw[Jm hp h]
theorem UZ {c:AV}(h:lM p c=true):(c.BM e).BM f=c:=by
 cases c<;>simp only[AV.BM,lM]at h ⊢
 ·rw[QV hp h]
 ·rw[List.map_map]
  congr 1
  rw[BN]at h
  exact B8 fun i hi=>QV hp (h i hi)
theorem L6 {c:AF}(h:OD p c=true):(c.BM e).BM f=c:=by
 cases c<;>simp only[AF.BM,OD]at h ⊢
 ·rw[Jm hp h]
 ·rw[List.map_map]
  congr 1
  rw[BN]at h
  refine B8 fun i hi=>?_
  show (i.1,(i.2.BM e).BM f)=i
  rw[QV hp (h i hi)]
 ·split at h
  ·rename_i h1
   rw[Jm hp h,Jm hp h1]
  ·cases h
 ·congr 1
  split at h
  ·show some (_,List.map (CV.BM f) (List.map (CV.BM e) _))=_
   rw[Jm hp h]
  ·rfl
 ·rw[List.map_map]
  congr 1
  rw[BN]at h
  refine B8 fun i hi=>?_
  show (i.1,(i.2.BM e).BM f)=i
  rw[UZ hp (h i hi)]
end
theorem YU {σ σ':St}(r:Id→Id) (hext:∀j,r (.ext j)= .ext j) (hbig:∀n,σ'.next≤n→∃N,σ.next≤N∧r (.loc n)= .loc N)
  (hs:∀t,Ad σ'.slots t= .u∨Ad σ.slots t=(Ad σ'.slots t).BM r) (hh:∀i o,Aa σ'.heap i=some o→Aa σ.heap (r i)=some (o.BM r))
  (hinj:∀i j o o',Aa σ'.heap i=some o→Aa σ'.heap j=some o'→r i=r j→i=j) (hlow:∀n,σ'.next≤n→Aa σ'.heap (.loc n)=none):CH σ σ':=by
 rintro C a w ⟨g,R⟩
 let g':AY:=fun i=>g (r i)
 have hz:∀b o,zone g' (Aa σ'.heap) b o→zone g (Aa σ.heap) b o:=by
  rintro b o ⟨i,ob,hi,h1⟩
  exact⟨r i,_,hh i ob hi,CY.2 h1⟩
 have hzz:∀b o,BH (zone g' (Aa σ'.heap)) C.X b o→BH (zone g (Aa σ.heap)) C.X b o:=fun b o hx=>hx.imp (hz b o) id
 have ht:∀i n sz e,Aa σ'.heap i=some (.tok n sz e)→Aa σ.heap (r i)=some (.tok n sz e):=fun i n sz e hi=>hh i _ hi
 have hw:∀i,isLive (Aa σ'.heap i)=true→isLive (Aa σ.heap (r i))=true:=by
  intro i hi
  cases hc:Aa σ'.heap i with
  | none=>rw[hc]at hi;cases hi
  | some o=>
   rw[hh i o hc]
   rw[hc]at hi
   exact DP.trans hi
 refine⟨g',R.size,R.defers,fun t=>?_,⟨fun i o hi=>Bc.pull (r:=r) (g':=g') hzz (fun _=>rfl) ht hw (R.heap.objs _ _ (hh i o hi)),fun i j oi oj b hi hj bi bj=>?_,fun i oi b o hi bi=>R.heap.apart _ _ b o (hh i oi hi) (C0.2 bi)⟩,R.frame,fun j=>?_,
  fun j ob b o hj hz'=>R.within _ _ b o (hh j ob hj) (CY.2 hz'),R.xs,fun n hn=>⟨?_,hlow n hn⟩⟩
 ·rcases hs t with e | e
  ·rw[e];trivial
  ·have:=R.slots t
   rw[e]at this
   exact Aw.pull (r:=r) hzz (fun _=>rfl) ht hw this
 ·exact hinj i j oi oj hi hj (R.heap.sep _ _ _ _ b (hh i oi hi) (hh j oj hj) (C0.2 bi) (C0.2 bj))
 ·show Ci (C.g0 (.ext j)) (g (r (.ext j)))
  rw[hext]
  exact R.ext j
 ·obtain⟨N,hN,e⟩:=hbig n hn
  show g (r (.loc n))=undef
  rw[e]
  exact (R.free N hN).1
def fC:List (Nat×Nat)→Nat→Option Nat
 | [],_=>none
 | (a,b)::l,k=>match Nat.beq a k with
  | true=>some b
  | false=>fC l k
def fD:List (Nat×Nat)→Nat→Option Nat
 | [],_=>none
 | (a,b)::l,k=>match Nat.beq b k with
  | true=>some a
  | false=>fD l k
def Hs (l:List (Nat×Nat)):Id→Id
 | .ext j=>.ext j
 | .loc k=>match fC l k with
  | some m=>.loc m
  | none=>.loc k
def YV (l:List (Nat×Nat)):Id→Id
 | .ext j=>.ext j
 | .loc k=>match fD l k with
  | some m=>.loc m
  | none=>.loc k
def Mz (l:List (Nat×Nat)) (n:Nat) (i:Id):Bool:=
 match Id.beq (YV l (Hs l i)) i with
 | true=>Lp n (Hs l i)
 | false=>false
def bA (l:List (Nat×Nat)):List (Nat×AV)→List (Nat×AV)
 | []=>[]
 | (t,x)::r=>(t,x.BM (Hs l))::bA l r
def SN (l:List (Nat×Nat)):List (Id×AF)→List (Id×AF)
 | []=>[]
 | (i,x)::r=>(Hs l i,x.BM (Hs l))::SN l r
def Vf (ks:List Nat) (is:List Id) (n:Nat) (l:List (Nat×Nat)) (σ:St) (K:St→Prop):Prop:=
 match LQ σ.heap is with
 | none=>False
 | some hp=>B6 (B3 (fun x:Nat×AV=>lM (Mz l n) x.2) (Ho σ.slots ks))<| B6 (B3 (fun x:Id×AF=>match Mz l n x.1 with | true=>OD (Mz l n) x.2 | false=>false) hp)<|
   K ⟨bA l (Ho σ.slots ks),SN l hp,n⟩
theorem YW {l:List (Nat×Nat)}{s:List (Nat×AV)}(t:Nat):Ad (bA l s) t=(Ad s t).BM (Hs l):=by
 induction s with
 | nil=>rfl
 | cons x s ih=>
  obtain⟨k,v⟩:=x
  show Ad ((k,v.BM (Hs l))::bA l s) t=_
  rw[DX,DX]
  simp only[]
  split
  ·rfl
  ·exact ih
theorem SO {l:List (Nat×Nat)}{p:Id→Bool}{f:Id→Id}(hp:∀i,p i=true→f (Hs l i)=i):∀{s:List (Id×AF)},(∀x∈s,p x.1=true)→∀{i:Id}{o:AF},Aa (SN l s) i=some o→p (f i)=true∧Hs l (f i)=i∧∃o',Aa s (f i)=some o'∧o=o'.BM (Hs l)
 | [],_,i,o,h=>by simp[SN,Aa]at h
 | (k,v)::s,hs,i,o,h=>by
  have hk:=hs (k,v) (by simp)
  rw[show SN l ((k,v)::s)=(Hs l k,v.BM (Hs l))::SN l s from rfl,Cb]at h
  simp only[AP]at h
  by_cases e:i=Hs l k
  ·rw[if_pos e]at h
   simp at h
   have hf:f i=k:=by rw[e];exact hp k hk
   rw[hf]
   exact⟨hk,e.symm,v,by rw[Cb];simp[AP],h.symm⟩
  ·rw[if_neg e]at h
   obtain⟨h1,h2,o',h3,h4⟩:=SO hp (fun x hx=>hs x (List.mem_cons_of_mem _ hx)) h
   refine⟨h1,h2,o',?_,h4⟩
   rw[Cb]
   simp only[AP]
   rw[if_neg]
   ·exact h3
   ·rintro rfl
    exact e h2.symm
theorem YX {q:Id×AF→Bool}{l:List (Id×AF)}(h:B3 q l=true) {i:Id}{o:AF}(hi:Aa l i=some o):q (i,o)=true:=by
 induction l with
 | nil=>simp[Aa]at hi
 | cons x l ih=>
  obtain⟨k,v⟩:=x
  rw[BN]at h
  rw[Cb]at hi
  simp only[AP]at hi
  split at hi
  ·rename_i e
   cases hi
   rw[e]
   exact h _ (List.mem_cons_self ..)
  ·exact ih (BN.2 fun x hx=>h x (by simp[hx])) hi
theorem M0 {ks:List Nat}{is:List Id}{n:Nat}{l:List (Nat×Nat)}{σ:St}{K:St→Prop}(h:Vf ks is n l σ K):∃σ',CH σ σ'∧K σ':=by
 unfold Vf at h
 split at h
 ·exact h.elim
 ·rename_i hp hhp
  obtain⟨h1,h⟩:=AO.1 h
  obtain⟨h2,h⟩:=AO.1 h
  let N:=max σ.next n
  let f:Id→Id:=fun i=>if Lp n i=true then YV l i else .loc N
  have hpf:∀i,Mz l n i=true→f (Hs l i)=i:=by
   intro i hi
   unfold Mz at hi
   split at hi
   ·rename_i hb
    show (if Lp n (Hs l i)=true then _ else _)=i
    rw[if_pos hi]
    exact Id.beq_iff.1 hb
   ·cases hi
  have hk2:∀x∈hp,Mz l n x.1=true∧OD (Mz l n) x.2=true:=by
   intro x hx
   have:=BN.1 h2 x hx
   split at this
   ·rename_i hb;exact⟨hb,this⟩
   ·cases this
  have hnew:∀i o,Aa (SN l hp) i=some o→Mz l n (f i)=true∧Hs l (f i)=i∧∃o',Aa hp (f i)=some o'∧o=o'.BM (Hs l):=fun i o hi=>SO hpf (fun x hx=>(hk2 x hx).1) hi
  refine⟨_,YU f (fun j=>by show (if Lp n (.ext j)=true then _ else _)=_;simp[Lp,YV]) (fun m hm=>⟨N,Nat.le_max_left _ _,?_⟩) (fun t=>?_) (fun i o hi=>?_) (fun i j o o' hi hj e=>?_) (fun m hm=>?_),h⟩
  ·have hm:n≤m:=hm
   have:Lp n (.loc m)=false:=by
    cases hb:Lp n (.loc m)with
    | false=>rfl
    | true=>simp[Lp]at hb;omega
   show (if Lp n (.loc m)=true then _ else _)=_
   rw[this];rfl
  ·rw[YW]
   rcases Oq (l:=σ.slots) (ks:=ks) t with e | e
   ·rw[e];exact .inl rfl
   ·right
    rw[←e]
    exact (UZ hpf (R6 (p:=lM (Mz l n)) rfl h1 t)).symm
  ·obtain⟨p1,p2,o',p3,rfl⟩:=hnew i o hi
   have hq:=YX (q:=fun x=>OD (Mz l n) x.2) (BN.2 fun x hx=>(hk2 x hx).2) p3
   rw[L6 hpf hq]
   exact (IW hhp _ _ p3).1
  ·obtain⟨_,p2,_⟩:=hnew i o hi
   obtain⟨_,q2,_⟩:=hnew j o' hj
   rw[←p2,←q2,e]
  ·cases hc:Aa (SN l hp) (.loc m)with
   | none=>rfl
   | some o=>
    obtain⟨p1,p2,_⟩:=hnew _ o hc
    have hm:n≤m:=hm
    unfold Mz at p1
    split at p1
    ·rw[p2]at p1
     simp[Lp]at p1
     omega
    ·cases p1
end Go.AM
namespace Go.AM
open Go Go.RowKit
theorem W6 {M:BR}{ex:St→(CC→St→Prop)→Prop}{σ:St}{K:CC→St→Prop}(gs:List Gh) (l:List (Nat×Nat)) (ks:List Nat) (is:List Id) (nx:Nat) {T:Type}(S:T→St) (I:T→Prop) (m:T→Nat) (t0:T)
  (hI:I t0) (h0:gh gs σ fun σ=>Vf ks is nx l σ (·=S t0))
  (hr:∀t,I t→ex (S t) fun e σ2=>match e with
   | .normal=>∃n' σ3,n'<m t∧CH σ2 σ3∧∃t',I t'∧n'=m t'∧σ3=S t'
   | .exit id=>K (.exit id) σ2
   | .ret=>K .ret σ2):M.lock fun _=>VX ex σ K∨∃n,IU ex K n σ:=by
 refine (M.lock_iff _).2<| .inl ⟨fun n σ=>∃t,I t∧n=m t∧σ=S t,m t0,?_,?_⟩
 ·obtain⟨σ1,hw1,h1⟩:=FZ h0
  obtain⟨σ',hw,e⟩:=M0 h1
  exact⟨σ',CH.trans hw1 hw,t0,hI,rfl,e⟩
 ·rintro n σ1 ⟨t,h1,rfl,rfl⟩
  exact hr t h1
theorem Ua {T:Type}{m:T→Nat}{I:T→Prop}{S:T→St}{σ2:St}{k:Nat}(t':T) (gs:List Gh) (l:List (Nat×Nat)) (ks:List Nat) (is:List Id) (nx:Nat) (hI:I t') (hm:m t'<k)
  (hk:gh gs σ2 fun σ=>Vf ks is nx l σ (·=S t')):∃n' σ3,n'<k∧CH σ2 σ3∧∃t',I t'∧n'=m t'∧σ3=S t':=by
 obtain⟨σ1,hw1,h1⟩:=FZ hk
 obtain⟨σ',hw,e⟩:=M0 h1
 exact⟨m t',σ',hm,CH.trans hw1 hw,t',hI,rfl,e⟩
section
variable {w:World}{Z Z' X:Au}{g g':AY}{h h':Heap}
end
end Go.AM
namespace Go.AM
open Go Go.RowKit
theorem Ah.Z4 {P:Program}{I:Inv}{f:FuncId}{xs:List D}{res:AV}(hf:∃fn c,P.funcs[f]?=some fn∧fn.body=some c∧(fn.name== "runtime.NumGoroutine")=false)
  (h:∀(w:World) (Z:Au) (vals:Array Value),I.rel w→vals.size=xs.length→(∀(j:Nat) x v,xs[j]?=some x→vals[j]?=some v→Ag w Z x v)→
   Calls P f vals w fun e w'=>∃v,e= .returned v∧EU (fun _=>False) w w'∧∀Z' g' h',(∀b o,Z' b o→b<w.heap.size)→Aw w' Z' g' h' res v):Ah P I f (xs.map V1.d) [] res [] []:=by
 refine Ah.mk' hf fun w X g vals hX hI RH hg hsz hargs=>?_
 have none:∀{i o},Ax [] i=some o→False:=by
  intro i o h
  cases i<;>simp[Ax]at h
 have none2:∀{i o},Bk [] [] i=some o→False:=by
  intro i o h
  cases i<;>simp[Bk]at h
 refine (h w (BH (zone g (Ax [])) X) vals hI.1 (by simpa using hsz) (fun j x v hx hv=>hargs j (.d x) v (by simp[hx]) hv)).mono ?_
 rintro e w' ⟨v,rfl,A,hr⟩
 refine⟨v,g,rfl,⟨⟨fun i o hi=>(none2 hi).elim,fun i j oi oj b hi=>(none2 hi).elim,fun i oi b o hi=>(none2 hi).elim⟩,hr _ _ _ ?_,?_,fun j=>.refl _,fun i ob b o hi=>(none2 hi).elim,fun k _=>hg k⟩⟩
 ·rintro b o (⟨i,ob,hi,_⟩ | hx)
  ·exact (none2 hi).elim
  ·exact hX b o hx
 ·exact⟨A.os,A.tape,A.output,A.size,fun b hb _=>A.block b hb id,fun b o u hu _=>A.cell hu id⟩
theorem Ub {w w':World}(h:w'.os=w.os) (h1:w'.tape=w.tape) (h2:w'.output=w.output) (h3:w.heap.size≤w'.heap.size) (h4:∀b,b<w.heap.size→w'.heap[b]?=w.heap[b]?):EU (fun _=>False) w w':=
 ⟨h,h1,h2,h3,fun b hb _=>h4 b hb⟩
end Go.AM
namespace Go.AM
open Go Go.RowKit
section
variable {α β γ:Type}
def bS (x:Option (α ⊕ β)) (k1:α→Option γ) (k2:β→Option γ):Option γ:=
 match x with
 | some (.inl a)=>k1 a
 | some (.inr b)=>k2 b
 | none=>none
end
section
variable {γ:Type}
def AL (b:Bool) (k:Bool→Option γ):Option γ:=k b
theorem CS {b:Bool}{k:Bool→Option γ}{r:γ}(h:AL b k=some r):∃y,b=y∧k y=some r:=⟨b,rfl,h⟩
def findF (e:Bool) (key:D) (rows:List D) (k1:D→Option γ) (k0:Option γ):Option γ:=
 match HI e key rows with
 | some (some y)=>k1 y
 | some none=>k0
 | none=>none
theorem W7 {e:Bool}{key:D}{rows:List D}{k1:D→Option γ}{k0:Option γ}{r:γ}(h:findF e key rows k1 k0=some r):(∃y,HI e key rows=some (some y)∧k1 y=some r)∨(HI e key rows=some none∧k0=some r):=by
 unfold findF at h
 split at h
 ·rename_i y hy
  exact .inl ⟨y,hy,h⟩
 ·rename_i hy
  exact .inr ⟨hy,h⟩
 ·cases h
def bB (key:D) (ws rows:List D) (k:List D→Option γ):Option γ:=
 match P4 key ws rows with
 | some r=>k r
 | none=>none
theorem YY {key:D}{ws rows:List D}{k:List D→Option γ}{r:γ}(h:bB key ws rows k=some r):∃out,P4 key ws rows=some out∧k out=some r:=by
 unfold bB at h
 split at h
 ·rename_i out ho
  exact⟨out,ho,h⟩
 ·cases h
end
def cL:Code→Code
 | .seq a _=>a
 | .cond _ a _=>a
 | .block _ b=>b
 | .loop b=>b
 | .rangeFunc _ _ a _=>a
 | c=>c
def cR:Code→Code
 | .seq _ b=>b
 | .cond _ _ b=>b
 | .rangeFunc _ _ _ b=>b
 | c=>c
def cP:Code→Array Tmp
 | .rangeFunc _ p _ _=>p
 | _=>#[]
def Kl (fn:Func):Code:=
 match fn.body with
 | some c=>c
 | none=>.skip
def gZ (s:AX):List (Nat×AV)→Prop
 | []=>True
 | (t,v)::r=>s t=v∧gZ s r
theorem SP {s:AX}:∀{sl:List (Nat×AV)},gZ s sl→∀t,Ad sl t= .u∨Ad sl t=s t
 | [],_,_=>.inl rfl
 | (k,v)::r,h,t=>by
  show (match Nat.beq k t with | true=>v | false=>Ad r t)= .u∨(match Nat.beq k t with | true=>v | false=>Ad r t)=s t
  cases e:Nat.beq k t with
  | true=>exact .inr (by rw[←Nat.eq_of_beq_eq_true e];exact h.1.symm)
  | false=>exact SP h.2 t
theorem DN {a q:Bool}(h:(!a)=q):Ek a=q:=by rw[De];exact h
theorem AB {M:BR}{ea eb:St→(CC→St→Prop)→Prop}{σ:St}{K:CC→St→Prop}(h:ea σ fun e σ'=>match e with
  | .normal=>eb σ' K
  | .exit id=>K (.exit id) σ'
  | .ret=>K .ret σ'):M.lock fun _=>aH ea eb σ K:=(M.lock_iff _).2 (.inl h)
theorem Cu {M:BR}{ea eb:St→(CC→St→Prop)→Prop}{σ:St}{K:CC→St→Prop}{T:Type}(S:T→St) (I:T→Prop)
  (ha:ea σ fun e σ'=>match e with
   | .normal=>∃σ'',CH σ' σ''∧∃t,I t∧σ''=S t
   | .exit id=>K (.exit id) σ'
   | .ret=>K .ret σ') (hb:∀t,I t→eb (S t) K):M.lock fun _=>aH ea eb σ K:=by
 refine (M.lock_iff _).2 (.inr ⟨fun σ=>∃t,I t∧σ=S t,ha,?_⟩)
 rintro σ2 ⟨t,hi,rfl⟩
 exact hb t hi
theorem AA {T:Type}{I:T→Prop}{S:T→St}{σ2:St}(t':T) (ks:List Nat) (is:List Id) (nx:Nat) (hI:I t') (hk:Lq ks is nx σ2 (·=S t')):
  ∃σ'',CH σ2 σ''∧∃t,I t∧σ''=S t:=by
 obtain⟨σ',hw,e⟩:=GC hk
 exact⟨σ',hw,t',hI,e⟩
section
variable {M:BR}{P:Program}{I:Inv}
theorem DT.zM {ti:Types}(hti:BO P ti) (h1:Bt ti) (hm:P.follows .mixedOrders=true) {r:RF}{sl:List (Nat×AV)}{args:List V1}{pre:List AF}{Q:Jump→List AF→List AF→Prop}{nt:Nat}{ps:List Tmp}{ca cb:Code}
  (hnt:r.nt=nt) (hpl:r.params.toList=ps) (ha:r.assign=ca) (hb:r.body=cb) (hlen:args.length=ps.length) (hps:B3 (fun p=>Nat.blt p nt) ps=true)
  (hx:∀M:BR,M.P=P→M.I=I→exec M ti nt (Bi ti M nt) ca ⟨O2 ps args sl,B9 pre 0,0⟩ fun e σ=>match e with
   | .normal=>exec M ti nt (Bi ti M nt) cb σ fun e σ=>∃post new,Q (D3 e) post new∧aP σ post new
   | _=>False):DT P I r sl args pre Q:=by
 subst hnt
 subst hpl
 subst ha
 subst hb
 exact DT.intro (fun M nt=>Bi ti M nt) hti h1 (UX hti h1 hm) (by simpa using hlen) hps hx
theorem C7 {Q:AV→List AF→List AF→Prop}{ti:Types}{rs:List ResultVar}{σ:St}{res:AV}{post new:List AF}(hQ:Q res post new)
  (h:Eo ti σ rs fun xs=>∃nm:List Id,nodupB nm=true∧SH xs=res.BM (Ce nm σ.next)∧EW (Aa σ.heap) (Ce nm σ.next) post 0∧Jj (Aa σ.heap) (Ce nm σ.next) new nm∧FA post nm):
  ∃r p n,Q r p n∧Lr ti rs σ r p n:=⟨_,_,_,hQ,[],h⟩
theorem L7 {A:Prop}{ti:Types}{o:Oper}{c:Call}{f:Operand}{fresh:Nat}{σ:St}{K:St→Prop}{i:Id}{r:Unit→RF}{sl sl0:List (Nat×AV)}{xs targs:List V1}{pre post new:List AF}{j:Jump}
  (hP:M.P=P) (hI:M.I=I) (m:List Id) (ho:o.op= .call c) (hc:c.callee= .value f) (hf:Az ti (Ad σ.slots) 0 f= .v (.c (.yl i))) (hr:Aa σ.heap i=some (.rnd r sl))
  (hR:DT P I (r ()) sl0 targs pre fun j' p n=>j'=j∧p=post∧n=new) (hxs:Ij (CQ ti (Ad σ.slots) c.args.toList c.argTypes.toList)=some xs)
  (he:xs=targs.map (V1.BM (BZ (m++[i]) fresh))) (hsl:sl=eI (BZ (m++[i]) fresh) sl0) (hm:(m++[i]).Nodup) (hpre:O4 (Aa σ.heap) (BZ (m++[i]) fresh) m pre) (hkd:B7 pre post) (hn:new.length≤31)
  (hk:K ⟨D2 σ.slots o.dst (.v (.d (.bool j.isNone))),E7 σ.heap (N6 (m++[i]) (BZ (m++[i]) fresh) (post++[Dz j r sl0])++DB fresh (BZ (m++[i]) fresh) 0 new),fresh⟩):
  M.lock fun _=>A∨Oo M ti o fresh σ K:=by
 refine Vc ?_
 unfold Oo
 rw[ho]
 simp only[]
 rw[hc]
 simp only[]
 refine⟨⟨σ.slots,σ.heap,fresh⟩,CH.refl _,rfl,?_⟩
 simp only[hf]
 unfold withArgs
 rw[hxs]
 simp only[hr]
 refine⟨m,targs,pre,sl0,_,hP▸hI▸hR,he,hsl,(C6 hpre).1,hm,(C6 hpre).2,?_⟩
 rintro j' post' new' ⟨rfl,rfl,rfl⟩
 exact⟨⟨hkd,hn⟩,hk⟩
def QW (M:BR) (ti:Types) (o:Oper) (c:Call) (f:Operand) (fresh:Nat) (σ:St) (K:St→Prop):Prop:=
 match Az ti (Ad σ.slots) 0 f with
 | .v (.c (.fn n cap))=>withArgs (CQ ti (Ad σ.slots) c.args.toList c.argTypes.toList) fun xs=>QC M o.dst fresh σ n (xs++cap.map fun i=>V1.c (.ptr i 0)) K
 | _=>False
theorem Vg {A:Prop}{ti:Types}{o:Oper}{c:Call}{f:Operand}{fresh:Nat}{σ:St}{K:St→Prop}(gs:List Gh) (ho:o.op= .call c) (hc:c.callee= .value f)
  (hk:gh gs ⟨σ.slots,σ.heap,fresh⟩ fun σ'=>σ'.next=fresh∧M.lock fun _=>QW M ti o c f fresh σ' K):M.lock fun _=>A∨Oo M ti o fresh σ K:=by
 refine Vc ?_
 obtain⟨σ',hw,hn,hk⟩:=FZ hk
 have hk:=(M.lock_iff _).1 hk
 unfold Oo
 rw[ho]
 simp only[]
 rw[hc]
 simp only[]
 refine⟨σ',hw,hn,?_⟩
 unfold QW at hk
 split at hk
 ·rename_i n cap h
  rw[h]
  exact hk
 ·exact hk.elim
theorem LX {ti:Types}{o:Oper}{c:Call}{f:Operand}{fresh:Nat}{σ:St}{K:St→Prop}{n:FuncId}{cap:List Id}{xs targs:List V1}{pre post new:List AF}{res:AV}(hP:M.P=P) (hI:M.I=I) (m:List Id)
  (hf:Az ti (Ad σ.slots) 0 f= .v (.c (.fn n cap))) (hxs:Ij (CQ ti (Ad σ.slots) c.args.toList c.argTypes.toList)=some xs) (ht:Ah P I n targs pre res post new)
  (he:(xs++cap.map fun i=>V1.c (.ptr i 0))=targs.map (V1.BM (BZ m fresh))) (hm:m.Nodup) (hpre:O4 (Aa σ.heap) (BZ m fresh) m pre) (hkd:B7 pre post) (hn:new.length≤31)
  (hk:K ⟨D2 σ.slots o.dst (res.BM (BZ m fresh)),E7 σ.heap (N6 m (BZ m fresh) post++DB fresh (BZ m fresh) 0 new),σ.next⟩):M.lock fun _=>QW M ti o c f fresh σ K:=by
 refine (M.lock_iff _).2 ?_
 unfold QW
 rw[hf]
 simp only[]
 unfold withArgs
 rw[hxs]
 refine⟨m,targs,pre,_,hP▸hI▸ht,he,(C6 hpre).1,hm,(C6 hpre).2,?_⟩
 rintro res' post' new' ⟨rfl,rfl,rfl⟩
 exact⟨⟨hkd,hn⟩,hk⟩
theorem M1 {ti:Types}{nt:Nat}{g:Operand}{ps:Array Tmp}{assign body:Code}{σ:St}{K:CC→St→Prop}{n:FuncId}{cap:List Id}{targs:List V1}{pre post new:List AF}{res:AV}
  (hP:M.P=P) (hI:M.I=I) (m:List Id) (sl:List (Nat×AV)) (hg:Az ti (Ad σ.slots) 0 g= .v (.c (.fn n cap))) (hsl:gZ (Ad σ.slots) sl)
  (ht:Ah P I n targs pre res post new) (he:(V1.c (.yl (.loc σ.next))::cap.map fun i=>V1.c (.ptr i 0))=targs.map (V1.BM (BZ m (σ.next+32)))) (hm:m.Nodup)
  (hpre:O4 (Aa (D1 σ.heap (.loc σ.next) (.rnd (fun _=>⟨ps,assign,body,nt⟩) sl))) (BZ m (σ.next+32)) m pre) (hkd:B7 pre post) (hn:new.length≤31)
  (hk:match Aa (E7 (D1 σ.heap (.loc σ.next) (.rnd (fun _=>⟨ps,assign,body,nt⟩) sl)) (N6 m (BZ m (σ.next+32)) post++DB (σ.next+32) (BZ m (σ.next+32)) 0 new)) (.loc σ.next)with
   | some (.rnd _ _)=>K .normal ⟨σ.slots,D1 (E7 (D1 σ.heap (.loc σ.next) (.rnd (fun _=>⟨ps,assign,body,nt⟩) sl)) (N6 m (BZ m (σ.next+32)) post++DB (σ.next+32) (BZ m (σ.next+32)) 0 new)) (.loc σ.next) .gone,σ.next+64⟩
   | some (.rndX j)=>(match j with
    | none=>K .ret ⟨σ.slots,D1 (E7 (D1 σ.heap (.loc σ.next) (.rnd (fun _=>⟨ps,assign,body,nt⟩) sl)) (N6 m (BZ m (σ.next+32)) post++DB (σ.next+32) (BZ m (σ.next+32)) 0 new)) (.loc σ.next) .gone,σ.next+64⟩
    | some id=>K (.exit id) ⟨σ.slots,D1 (E7 (D1 σ.heap (.loc σ.next) (.rnd (fun _=>⟨ps,assign,body,nt⟩) sl)) (N6 m (BZ m (σ.next+32)) post++DB (σ.next+32) (BZ m (σ.next+32)) 0 new)) (.loc σ.next) .gone,σ.next+64⟩)
   | _=>False):
  M.lock fun _=>UO M ti nt g ps assign body σ K:=by
 refine (M.lock_iff _).2 ⟨σ,CH.refl _,?_⟩
 rw[hg]
 refine⟨sl,SP hsl,m,targs,pre,_,hP▸hI▸ht,he,(C6 hpre).1,hm,(C6 hpre).2,?_⟩
 rintro res' post' new' ⟨rfl,rfl,rfl⟩
 exact⟨⟨hkd,hn⟩,hk⟩
end
end Go.AM
namespace Go.AM
open Go
def xK (d:Nat) (b:Bool) (l:List (Nat×AV)):List Nat→List (Nat×AV)
 | []=>[]
 | k::r=>(match Nat.beq k d with
  | true=>(k,.v (.d (.bool b)))
  | false=>(k,Ad l k))::xK d b l r
def sP (h:List (Id×AF)):List Id→List (Id×AF)
 | []=>[]
 | i::r=>(match Aa h i with
  | some o=>(i,o)::sP h r
  | none=>sP h r)
def Uc (d:Nat) (ks:List Nat) (is:List Id) (nx:Nat) (σ:St) (b:Bool):St:=⟨xK d b σ.slots ks,sP σ.heap is,nx⟩
theorem AK {M:BR}{ea eb:St→(CC→St→Prop)→Prop}{σ:St}{K:CC→St→Prop}(d:Nat) (ks:List Nat) (is:List Id) (nx:Nat) (I:Nat→Bool→Prop)
  (ha:ea σ fun e σ'=>match e with
   | .normal=>∃σ'',CH σ' σ''∧∃t:Nat×Bool,I t.1 t.2∧σ''=Uc d ks is nx σ t.2
   | .exit id=>K (.exit id) σ'
   | .ret=>K .ret σ') (hb:∀t:Nat×Bool,I t.1 t.2→eb (Uc d ks is nx σ t.2) K):M.lock fun _=>aH ea eb σ K:=
 Cu (fun t:Nat×Bool=>Uc d ks is nx σ t.2) (fun t=>I t.1 t.2) ha hb
end Go.AM
namespace Go.Proofs.YtjmofeakajdbiaaGreatDoor
open Go Go.AM
theorem Fi:Tryz.prog.follows .mixedOrders=true:=by kernel_rfl
theorem YZ {P:Program}{name:String}{g:Nat}(hg:P.globalNamed name=some g) {w w':World}(h:w'.heap[g]?=w.heap[g]?):w'.var? P name=w.var? P name:=by
 unfold World.var?
 rw[hg]
 simp only[Option.bind_some,h]
theorem Ya:∃g,Tryz.prog.globalNamed "strings.asciiSpace" =some g:=⟨0,by kernel_rfl⟩
def inv:Inv:=⟨fun b=>Tryz.prog.globalNamed "strings.asciiSpace" =some b,fun w=>Lib.TabIs Tryz.prog w "strings.asciiSpace" .u8 Lib.asciiSpaceTab,fun h hr=>by
 obtain⟨g,hg⟩:=Ya
 unfold Lib.TabIs at hr ⊢
 rw[YZ hg (h g hg)]
 exact hr⟩
end Go.Proofs.YtjmofeakajdbiaaGreatDoor
namespace Go.Proofs
open Go.Shelf
def Tryz.Tw:Go.Shelf.Ren:=⟨fun | 157=>152 | 229=>153 | 199=>154 | 261=>155 | 311=>156 | 312=>157 | n=>n,fun | 9=>9 | 31=>34 | 3=>3 | 5=>5 | 4=>4 | 119=>155 | 0=>0 | 40=>157 | 152=>158 | 21=>21 | 154=>160 | 51=>161 | 141=>163 | 196=>167 | 193=>164 | 198=>170 | 49=>168 | 194=>165 | 201=>173 | 226=>175 | 46=>176 | 227=>177 | n=>n,fun | 0=>0 | 6=>1 | n=>n⟩
theorem Tryz.eG:Go.Proofs.Lays.n157 Tryz.prog Tryz.Tw:={
 mixed:=by kernel_rfl
 f157:=Tryz.func152.trans (congrArg some (by kernel_rfl))
 f199:=Tryz.func154.trans (congrArg some (by kernel_rfl))
 f229:=Tryz.func153.trans (congrArg some (by kernel_rfl))
 f261:=Tryz.func155.trans (congrArg some (by kernel_rfl))
 f311:=Tryz.func156.trans (congrArg some (by kernel_rfl))
 f312:=Tryz.func157.trans (congrArg some (by kernel_rfl))
 t0:=Tryz.underlying0
 a0:=Tryz.isAgg0
 z0:=Tryz.sizeOf0
 v0:=Tryz.zeroValue0
 t3:=Tryz.underlying3
 a3:=Tryz.isAgg3
 z3:=Tryz.sizeOf3
 v3:=Tryz.zeroValue3
 t4:=Tryz.underlying4
 a4:=Tryz.isAgg4
 z4:=Tryz.sizeOf4
 v4:=Tryz.zeroValue4
 t5:=Tryz.underlying5
 a5:=Tryz.isAgg5
 z5:=Tryz.sizeOf5
 v5:=Tryz.zeroValue5
 t9:=Tryz.underlying9
 a9:=Tryz.isAgg9
 z9:=Tryz.sizeOf9
 v9:=Tryz.zeroValue9
 t21:=Tryz.underlying21
 a21:=Tryz.isAgg21
 z21:=Tryz.sizeOf21
 v21:=Tryz.zeroValue21
 t31:=Tryz.underlying34
 a31:=Tryz.isAgg34
 z31:=Tryz.sizeOf34
 v31:=Tryz.zeroValue34
 t40:=Tryz.underlying157
 a40:=Tryz.isAgg157
 z40:=Tryz.sizeOf157
 v40:=Tryz.zeroValue157
 t46:=Tryz.underlying176
 a46:=Tryz.isAgg176
 z46:=Tryz.sizeOf176
 v46:=Tryz.zeroValue176
 t49:=Tryz.underlying168
 a49:=Tryz.isAgg168
 z49:=Tryz.sizeOf168
 v49:=Tryz.zeroValue168
 t51:=Tryz.underlying161
 a51:=Tryz.isAgg161
 z51:=Tryz.sizeOf161
 v51:=Tryz.zeroValue161
 t119:=Tryz.underlying155
 a119:=Tryz.isAgg155
 z119:=Tryz.sizeOf155
 t141:=Tryz.underlying163
 a141:=Tryz.isAgg163
 z141:=Tryz.sizeOf163
 v141:=Tryz.zeroValue163
 t152:=Tryz.underlying158
 a152:=Tryz.isAgg158
 z152:=Tryz.sizeOf158
 v152:=Tryz.zeroValue158
 t154:=Tryz.underlying160
 a154:=Tryz.isAgg160
 z154:=Tryz.sizeOf160
 v154:=Tryz.zeroValue160
 t193:=Tryz.underlying164
 a193:=Tryz.isAgg164
 z193:=Tryz.sizeOf164
 v193:=Tryz.zeroValue164
 t194:=Tryz.underlying165
 a194:=Tryz.isAgg165
 z194:=Tryz.sizeOf165
 v194:=Tryz.zeroValue165
 t196:=Tryz.underlying167
 a196:=Tryz.isAgg167
 z196:=Tryz.sizeOf167
 v196:=Tryz.zeroValue167
 t198:=Tryz.underlying170
 a198:=Tryz.isAgg170
 z198:=Tryz.sizeOf170
 v198:=Tryz.zeroValue170
 t201:=Tryz.underlying173
 a201:=Tryz.isAgg173
 z201:=Tryz.sizeOf173
 v201:=Tryz.zeroValue173
 t226:=Tryz.underlying175
 a226:=Tryz.isAgg175
 z226:=Tryz.sizeOf175
 v226:=Tryz.zeroValue175
 t227:=Tryz.underlying177
 a227:=Tryz.isAgg177
 z227:=Tryz.sizeOf177
 v227:=Tryz.zeroValue177
 g0:=by kernel_rfl
 g6:=by kernel_rfl}
open Go.RowKit Go.Lib in
theorem Tryz.strings_Fields (s:ByteArray) (w:World) (hs:s.size<4294967281) (hascii:∀(j:Nat) b,s.data.toList[j]?=some b→b.toNat<128) (htab:Lib.TabIs Tryz.prog w "strings.asciiSpace" .u8 Lib.asciiSpaceTab):
  Calls Tryz.prog 152 #[.string s] w fun e w'=>
   e= .returned (.slice (some ⟨w.heap.size,0,none⟩) (Lib.fields s.data.toList).length (Lib.fields s.data.toList).length)∧w'=w.alloc (.cells ((Lib.fields s.data.toList).map fun l=>Value.string ⟨l.toArray⟩).toArray 9):=Any.strings_Fields Tryz.eG (by kernel_rfl) (by kernel_rfl) s w hs hascii htab
end Go.Proofs
set_option linter.unusedVariables false
namespace Go.Proofs.YtjmofeakajdbiaaGreatDoor
open Go Go.AM
theorem two {vals:Array Value}(h:vals.size=2):∃v u,vals=#[v,u]:=
 ⟨vals[0],vals[1],by
  apply Array.ext
  ·simpa using h
  ·intro i h1 h2
   match i,h2 with
   | 0,_=>rfl
   | 1,_=>rfl⟩
def fieldsD (s:ByteArray):List D:=(Lib.fields s.data.toList).map fun l=>D.str ⟨l.toArray⟩
def Yb (n:Nat) (s:ByteArray):Option (List D):=if s.size<4294967281∧(s.data.toList.all fun b=>b.toNat<128)=true∧(Lib.fields s.data.toList).length≤maxLen then some (fieldsD s)else none
theorem sQ (n:Nat):∀⦃s:ByteArray⦄ ⦃r1:List D⦄,Yb n s=some r1→Ah Tryz.prog inv 152 [.d (.str s)] [] (.v (.d (.list false 1 r1))) [] []:=by
 intro s r1 h
 unfold Yb at h
 split at h
 ·rename_i hb
  cases h
  obtain⟨h1,h2,h3⟩:=hb
  refine Ah.Z4 (xs:=[.str s]) ⟨_,_,Tryz.func152,rfl,by kernel_rfl⟩ fun w Z vals hr hsz hv=>?_
  obtain⟨v,rfl⟩:∃v,vals=#[v]:=Array.size_eq_one_iff.1 hsz
  cases hv 0 _ _ rfl rfl
  refine (Tryz.strings_Fields s w h1 (fun j b hj=>by
   have:=List.all_eq_true.1 h2 b (List.mem_of_getElem? hj)
   simpa using this) hr).mono ?_
  rintro e w' ⟨rfl,rfl⟩
  refine⟨_,rfl,Ub rfl rfl rfl (by simp) (fun b hb=>Go.RowKit.Below.heap_alloc w _ b hb),fun Z' _ _ hZ=>?_⟩
  have hl:(fieldsD s).length=(Lib.fields s.data.toList).length:=by simp[fieldsD]
  show Ag _ Z' (.list false 1 (fieldsD s)) _
  rw[←hl]
  refine .list false 1 (fieldsD s) _ _ w.heap.size 0 (fun i _=>.string ⟨((Lib.fields s.data.toList).getD i []).toArray⟩) (Nat.le_refl _) (by rw[hl];exact h3) ?_ (fun _=>rfl) ?_ ?_
  ·intro r hr
   obtain⟨l,_,rfl⟩:=List.mem_map.1 hr
   exact⟨rfl,rfl,fun c hc=>by simp[D.cells]at hc;subst hc;rfl⟩
  ·intro i r j c hi hj
   have hi':((Lib.fields s.data.toList).map fun l=>D.str ⟨l.toArray⟩)[i]?=some r:=hi
   rw[List.getElem?_map,Option.map_eq_some_iff]at hi'
   obtain⟨l,hl',rfl⟩:=hi'
   match j with
   | 0=>
    refine⟨?_,fun hz=>absurd (hZ _ _ hz) (Nat.lt_irrefl _)⟩
    have:=heap_alloc_new w (.cells ((Lib.fields s.data.toList).map fun l=>Value.string ⟨l.toArray⟩).toArray 9)
    unfold World.cell?
    simp only[Nat.zero_add,Nat.mul_one,Nat.add_zero]
    rw[this]
    simp[hl']
   | j+1=>simp[D.cells]at hj
  ·intro i r j c hi hj
   have hi':((Lib.fields s.data.toList).map fun l=>D.str ⟨l.toArray⟩)[i]?=some r:=hi
   rw[List.getElem?_map,Option.map_eq_some_iff]at hi'
   obtain⟨l,hl',rfl⟩:=hi'
   match j with
   | 0=>
    simp[D.cells]at hj
    subst hj
    simp only[List.getD_eq_getElem?_getD,hl',Option.getD_some]
    exact .str _
   | j+1=>simp[D.cells]at hj
 ·cases h
end Go.Proofs.YtjmofeakajdbiaaGreatDoor
set_option maxRecDepth 100000
set_option maxHeartbeats 40000000
set_option linter.unusedVariables false
noncomputable section
namespace Go.Proofs.YtjmofeakajdbiaaGreatDoor
open Go Go.AM
def BU {γ:Type}(x:D) (k:Int->BA->LD->Int->BA->LD->LD->Int->Int->BA->BA->BA->LD->LD->Int->Int->Option γ):Option γ:=match x with | .agg [.int .u8 a0,.str a1,.list true 4 a2,.int .u8 a3,.str a4,.list true 3 a5,.list true 15 a6,.int .u8 a7,.int .i64 a8,.str a9,.str a10,.str a11,.list false 1 a12,.list true 8 a13,.int .i64 a14,.int .i64 a15]=>k a0 a1 a2 a3 a4 a5 a6 a7 a8 a9 a10 a11 a12 a13 a14 a15 | _=>none
theorem FD {γ:Type}{x:D}{k:Int->BA->LD->Int->BA->LD->LD->Int->Int->BA->BA->BA->LD->LD->Int->Int->Option γ}{r:γ}(h:BU x k=some r):∃a0 a1 a2 a3 a4 a5 a6 a7 a8 a9 a10 a11 a12 a13 a14 a15,x= .agg [.int .u8 a0,.str a1,.list true 4 a2,.int .u8 a3,.str a4,.list true 3 a5,.list true 15 a6,.int .u8 a7,.int .i64 a8,.str a9,.str a10,.str a11,.list false 1 a12,.list true 8 a13,.int .i64 a14,.int .i64 a15]/\k a0 a1 a2 a3 a4 a5 a6 a7 a8 a9 a10 a11 a12 a13 a14 a15=some r:=by
 unfold BU at h
 split at h
 ·exact⟨_,_,_,_,_,_,_,_,_,_,_,_,_,_,_,_,rfl,h⟩
 ·cases h
def Bv {γ:Type}(x:D) (k:BA->Int->BA->LD->Option γ):Option γ:=match x with | .agg [.str a0,.int .u8 a1,.str a2,.list true 3 a3]=>k a0 a1 a2 a3 | _=>none
theorem M3 {γ:Type}{x:D}{k:BA->Int->BA->LD->Option γ}{r:γ}(h:Bv x k=some r):∃a0 a1 a2 a3,x= .agg [.str a0,.int .u8 a1,.str a2,.list true 3 a3]/\k a0 a1 a2 a3=some r:=by
 unfold Bv at h
 split at h
 ·exact⟨_,_,_,_,rfl,h⟩
 ·cases h
def Cf {γ:Type}(x:D) (k:Int->BA->LD->Option γ):Option γ:=match x with | .agg [.int .u8 a0,.str a1,.list true 3 a2]=>k a0 a1 a2 | _=>none
theorem JF {γ:Type}{x:D}{k:Int->BA->LD->Option γ}{r:γ}(h:Cf x k=some r):∃a0 a1 a2,x= .agg [.int .u8 a0,.str a1,.list true 3 a2]/\k a0 a1 a2=some r:=by
 unfold Cf at h
 split at h
 ·exact⟨_,_,_,rfl,h⟩
 ·cases h
def BJ {γ:Type}(x:D) (k:Int->BA->BA->LD->Int->BA->LD->Int->BA->LD->LD->LD->LD->LD->Int->Option γ):Option γ:=match x with | .agg [.int .u8 a0,.str a1,.str a2,.list false 1 a3,.int .u8 a4,.str a5,.list true 3 a6,.int .i64 a7,.str a8,.list false 1 a9,.list true 8 a10,.list true 15 a11,.list true 15 a12,.list true 3 a13,.int .i64 a14]=>k a0 a1 a2 a3 a4 a5 a6 a7 a8 a9 a10 a11 a12 a13 a14 | _=>none
theorem DU {γ:Type}{x:D}{k:Int->BA->BA->LD->Int->BA->LD->Int->BA->LD->LD->LD->LD->LD->Int->Option γ}{r:γ}(h:BJ x k=some r):∃a0 a1 a2 a3 a4 a5 a6 a7 a8 a9 a10 a11 a12 a13 a14,x= .agg [.int .u8 a0,.str a1,.str a2,.list false 1 a3,.int .u8 a4,.str a5,.list true 3 a6,.int .i64 a7,.str a8,.list false 1 a9,.list true 8 a10,.list true 15 a11,.list true 15 a12,.list true 3 a13,.int .i64 a14]/\k a0 a1 a2 a3 a4 a5 a6 a7 a8 a9 a10 a11 a12 a13 a14=some r:=by
 unfold BJ at h
 split at h
 ·exact⟨_,_,_,_,_,_,_,_,_,_,_,_,_,_,_,rfl,h⟩
 ·cases h
def Bj {γ:Type}(x:D) (k:BA->Option γ):Option γ:=match x with | .str a0=>k a0 | _=>none
theorem M4 {γ:Type}{x:D}{k:BA->Option γ}{r:γ}(h:Bj x k=some r):∃a0,x= .str a0/\k a0=some r:=by
 unfold Bj at h
 split at h
 ·exact⟨_,rfl,h⟩
 ·cases h
def BD {γ:Type}(x:D) (k:Int->Int->BA->BA->BA->LD->LD->Int->Option γ):Option γ:=match x with | .agg [.int .u8 a0,.int .i64 a1,.str a2,.str a3,.str a4,.list false 1 a5,.list true 8 a6,.int .i64 a7]=>k a0 a1 a2 a3 a4 a5 a6 a7 | _=>none
theorem FE {γ:Type}{x:D}{k:Int->Int->BA->BA->BA->LD->LD->Int->Option γ}{r:γ}(h:BD x k=some r):∃a0 a1 a2 a3 a4 a5 a6 a7,x= .agg [.int .u8 a0,.int .i64 a1,.str a2,.str a3,.str a4,.list false 1 a5,.list true 8 a6,.int .i64 a7]/\k a0 a1 a2 a3 a4 a5 a6 a7=some r:=by
 unfold BD at h
 split at h
 ·exact⟨_,_,_,_,_,_,_,_,rfl,h⟩
 ·cases h
def Bf {γ:Type}(x:D) (k:BA->BA->LD->Option γ):Option γ:=match x with | .agg [.str a0,.str a1,.list true 15 a2]=>k a0 a1 a2 | _=>none
theorem FF {γ:Type}{x:D}{k:BA->BA->LD->Option γ}{r:γ}(h:Bf x k=some r):∃a0 a1 a2,x= .agg [.str a0,.str a1,.list true 15 a2]/\k a0 a1 a2=some r:=by
 unfold Bf at h
 split at h
 ·exact⟨_,_,_,rfl,h⟩
 ·cases h
def BW:BA:=⟨#[108,101,116,32,105,102,32,101,108,115,101,32,119,104,105,108,101,32,109,97,116,99,104,32,115,99,111,112,101,32,115,112,97,119,110,32,108,111,99,107,32,97,115,32,99,104,97,110,32,100,114,111,112,32,102,110,32,115,116,114,117,99,116,32,101,110,117,109,32,116,114,117,101,32,102,97,108,115,101,32,97,110,100,32,111,114,32,110,111,116,32,105,110,116,32,98,111,111,108,32,117,110,105,116,32,109,117,116,32,98,111,120,32,117,110,98,111,120,32,99,101,108,108,32,103,101,116,32,115,101,116,32,114,99,32,97,114,99,32,99,108,111,110,101,32,109,117,116,101,120,32,111,112,101,110,32,97,116,111,109,105,99,32,108,111,97,100,32,115,116,111,114,101,32,102,101,116,99,104,32,115,101,110,100,32,114,101,99,118,32,66,111,120,32,67,101,108,108,32,82,99,32,65,114,99,32,77,117,116,101,120,32,65,116,111,109,105,99,32,83,101,110,100,101,114,32,82,101,99,101,105,118,101,114]⟩
def M5 {γ:Type}(x:D) (k:Int->Option γ):Option γ:=match x with | .int .i64 a0=>k a0 | _=>none
theorem M6 {γ:Type}{x:D}{k:Int->Option γ}{r:γ}(h:M5 x k=some r):∃a0,x= .int .i64 a0/\k a0=some r:=by
 unfold M5 at h
 split at h
 ·exact⟨_,rfl,h⟩
 ·cases h
def hH:BA:=⟨#[42]⟩
def Yc:BA:=⟨#[108,101,116]⟩
def hJ:BA:=⟨#[105,102]⟩
def Ud:BA:=⟨#[101,108,115,101]⟩
def QX:BA:=⟨#[119,104,105,108,101]⟩
def QY:BA:=⟨#[109,97,116,99,104]⟩
def QZ:BA:=⟨#[115,99,111,112,101]⟩
def Qa:BA:=⟨#[115,112,97,119,110]⟩
def Ue:BA:=⟨#[108,111,99,107]⟩
def hY:BA:=⟨#[97,115]⟩
def Uf:BA:=⟨#[99,104,97,110]⟩
def Ug:BA:=⟨#[100,114,111,112]⟩
def iA:BA:=⟨#[102,110]⟩
def M7:BA:=⟨#[115,116,114,117,99,116]⟩
def Uh:BA:=⟨#[101,110,117,109]⟩
def Ui:BA:=⟨#[116,114,117,101]⟩
def Qb:BA:=⟨#[102,97,108,115,101]⟩
def Yd:BA:=⟨#[97,110,100]⟩
def iB:BA:=⟨#[111,114]⟩
def Ye:BA:=⟨#[110,111,116]⟩
def Yf:BA:=⟨#[105,110,116]⟩
def Uj:BA:=⟨#[98,111,111,108]⟩
def Uk:BA:=⟨#[117,110,105,116]⟩
def Yg:BA:=⟨#[109,117,116]⟩
def Yh:BA:=⟨#[98,111,120]⟩
def Qc:BA:=⟨#[117,110,98,111,120]⟩
def Ul:BA:=⟨#[99,101,108,108]⟩
def Yi:BA:=⟨#[103,101,116]⟩
def Yj:BA:=⟨#[115,101,116]⟩
def iC:BA:=⟨#[114,99]⟩
def Yk:BA:=⟨#[97,114,99]⟩
def Qd:BA:=⟨#[99,108,111,110,101]⟩
def Qe:BA:=⟨#[109,117,116,101,120]⟩
def Um:BA:=⟨#[111,112,101,110]⟩
def M8:BA:=⟨#[97,116,111,109,105,99]⟩
def Un:BA:=⟨#[108,111,97,100]⟩
def Qf:BA:=⟨#[115,116,111,114,101]⟩
def Qg:BA:=⟨#[102,101,116,99,104]⟩
def Uo:BA:=⟨#[115,101,110,100]⟩
def Up:BA:=⟨#[114,101,99,118]⟩
def Yl:BA:=⟨#[66,111,120]⟩
def Uq:BA:=⟨#[67,101,108,108]⟩
def iE:BA:=⟨#[82,99]⟩
def Ym:BA:=⟨#[65,114,99]⟩
def Qh:BA:=⟨#[77,117,116,101,120]⟩
def M9:BA:=⟨#[65,116,111,109,105,99]⟩
def NA:BA:=⟨#[83,101,110,100,101,114]⟩
def JG:BA:=⟨#[82,101,99,101,105,118,101,114]⟩
def sR:BA:=⟨#[105,48]⟩
def sV:BA:=⟨#[98,48]⟩
def zO:BA:=⟨#[48]⟩
def Ur:BA:=⟨#[112,48]⟩
def Z6:BA:=⟨#[49]⟩
def bC:BA:=⟨#[50]⟩
def sW:BA:=⟨#[110,54]⟩
def mT:BA:=⟨#[116,102,54]⟩
def mU:BA:=⟨#[116,118,57]⟩
def bD:BA:=⟨#[112,49]⟩
def JH:Unit->RF:=fun _=>⟨cP (cL (cR (cL (cR (cR (cR (cR (Kl Tryz.f88)))))))),cL (cL (cR (cL (cR (cR (cR (cR (Kl Tryz.f88)))))))),cR (cL (cR (cL (cR (cR (cR (cR (Kl Tryz.f88)))))))),34⟩
def Bd {γ:Type}(x:D) (k:LD->Option γ):Option γ:=match x with | .list true 15 a0=>k a0 | _=>none
theorem Dj {γ:Type}{x:D}{k:LD->Option γ}{r:γ}(h:Bd x k=some r):∃a0,x= .list true 15 a0/\k a0=some r:=by
 unfold Bd at h
 split at h
 ·exact⟨_,rfl,h⟩
 ·cases h
def JI:Unit->RF:=fun _=>⟨cP (cL (cR (cL (cR (cR (cR (Kl Tryz.f45))))))),cL (cL (cR (cL (cR (cR (cR (Kl Tryz.f45))))))),cR (cL (cR (cL (cR (cR (cR (Kl Tryz.f45))))))),27⟩
def DV:BA:=⟨#[109,97,105,110]⟩
def iG:BA:=⟨#[120]⟩
def xL:BA:=⟨#[84]⟩
def xM:BA:=⟨#[102]⟩
def xN:BA:=⟨#[97]⟩
def xO:BA:=⟨#[88]⟩
mutual
def Fj:Nat->LD->Int->Int->LD->Option LD
 | 0,_,_,_,_=>none
 | n+1,l1,z2,z3,l4=>
  (if z3<z2 then GZ n l1 z2 z3 l4 true else GZ n l1 z2 z3 l4 false)
def GZ:Nat->LD->Int->Int->LD->Bool->Option LD
 | 0,_,_,_,_,_=>none
 | n+1,l1,z2,z3,l4,b5=>
  (if b5=true then Ap l1 z3 fun x6=>Bj x6 fun s7=>AJ (IntKind.wrap .i64 (z3+1)) fun z8=>bB (.str s7) [.int .i64 z8] l4 fun l9=>AJ (IntKind.wrap .i64 (z3+1)) fun z10=>Fj n l1 z2 z10 l9 else some l4)
end
def Yn (n:Nat):Option LD:=
 bO1 (Yb n BW) fun l1=>AE l1 fun z2=>Fj n l1 z2 (0:Int) ([]:LD)
theorem sX (n:Nat):∀⦃r1⦄,Yn n=some r1->
    Ah Tryz.prog inv 151 [] [] (.v (.c (.ow (.loc 0)))) [] [.tree (.fmap false) true 2 r1 none]:=by
 intro r1 h
 unfold Yn at h
 refine Ah.of BI Ao Fi Tryz.func151 rfl (by kernel_rfl) rfl rfl rfl (fun M hM hI=>?_)
 try cbv
 refine AB ?_
 try cbv
 refine AB ?_
 try cbv
 refine AB ?_
 try cbv
 refine AB ?_
 try cbv
 replace h:=AU h
 obtain⟨l1,hr,h⟩:=h
 refine AZ rfl rfl ?_
 try cbv
 refine AQ hM hI (sQ _ hr) rfl ?_
 clear hr
 try cbv
 replace h:=BL M h
 obtain⟨z2,hz,h⟩:=h
 refine⟨z2,hz,?_⟩
 clear hz
 try cbv
 refine W6 (T:=Nat×Int×LD) [] [] [0,1,5,6,7] [.loc 32] 192 (fun t=>⟨[(0,.v (.c (.nilm))),(1,.v (.c (.ow (.loc 32)))),sF 5 1 l1,sI 6 z2,sI 7 t.2.1],[(.loc 32,.tree (.fmap false) true 2 t.2.2 none)],192⟩)
   (fun t=>t.1<=n/\Fj t.1 l1 z2 t.2.1 t.2.2=some r1) (fun t=>t.1) (n,((0:Int),([]:LD))) ⟨Nat.le_refl _,h⟩ (by cbv) ?_
 clear h
 rintro⟨m1,z3,l4⟩ ⟨hm1,h⟩
 replace hm1:m1<=n:=hm1
 obtain _ | m1:=m1
 ·replace h:Fj 0 l1 z2 z3 l4=some r1:=h
  rw[Fj]at h
  cases h
 replace h:Fj (m1+1) l1 z2 z3 l4=some r1:=h
 rw[Fj]at h
 try cbv
 refine AK 8 [0,1,5,6,7,8] [.loc 32] 224 (fun m b=>m<=m1/\GZ m l1 z2 z3 l4 b=some r1) ?_ ?_
 ·try cbv
  refine Bu (fun e=>?_) (fun e=>?_)
  ·replace h:=Aj e h
   clear e
   try cbv
   exact AA (m1,true) [0,1,5,6,7,8] [.loc 32] 224 ⟨by omega,h⟩ (by cbv)
  replace h:=Ak (Int.not_lt.2 e) h
  clear e
  try cbv
  exact AA (m1,false) [0,1,5,6,7,8] [.loc 32] 224 ⟨by omega,h⟩ (by cbv)
 clear h
 rintro⟨m2,b5⟩ ⟨hm2,h⟩
 try cbv
 replace hm2:m2<=m1:=hm2
 obtain _ | m2:=m2
 ·replace h:GZ 0 l1 z2 z3 l4 b5=some r1:=h
  rw[GZ]at h
  cases h
 replace h:GZ (m2+1) l1 z2 z3 l4 b5=some r1:=h
 rw[GZ]at h
 try cbv
 refine AB ?_
 try cbv
 cases b5
 ·replace h:=Bp h
  try cbv
  refine AB ?_
  try cbv
  obtain rfl:=Option.some.inj h
  refine AR ?_
  try cbv
  exact⟨[.loc 32],rfl,rfl,trivial,⟨rfl,trivial⟩,trivial⟩
 replace h:=Bo h
 try cbv
 refine AB ?_
 try cbv
 refine AB ?_
 try cbv
 replace h:=BT h
 obtain⟨x6,⟨hx0,hx⟩,h⟩:=h
 refine⟨x6,hx0,hx,?_⟩
 clear hx0 hx
 replace h:=M4 h
 obtain⟨s7,rfl,h⟩:=h
 try cbv
 replace h:=Ac h
 obtain⟨z8,hz,h⟩:=h
 refine⟨z8,hz,?_⟩
 clear hz
 try cbv
 replace h:=YY h
 obtain⟨l9,hz,h⟩:=h
 refine⟨l9,(M.lock_iff _).2 hz,?_⟩
 clear hz
 try cbv
 replace h:=Ac h
 obtain⟨z10,hz,h⟩:=h
 refine⟨z10,hz,?_⟩
 clear hz
 try cbv
 refine Ua (m2,(z10,l9)) [] [] [0,1,5,6,7] [.loc 32] 192 ⟨by omega,h⟩ (Nat.lt_succ_of_le (by omega)) ?_
 try cbv
end Go.Proofs.YtjmofeakajdbiaaGreatDoor
end
namespace Go.AM
open Go Go.RowKit
structure fE where
 res:AV
 post:List AF
 new:List AF
section
variable {γ:Type}{r:γ}
def Yo (op:BinOp) (q:IntKind) (a b:Int) (k:D→Option γ):Option γ:=
 match op with
 | .add=>AJ (q.wrap (a+b)) fun z=>k (.int q z)
 | .sub=>AJ (q.wrap (a - b)) fun z=>k (.int q z)
 | .mul=>AJ (q.wrap (a*b)) fun z=>k (.int q z)
 | .eql=>if a=b then k (.bool true)else k (.bool false)
 | .neq=>if a=b then k (.bool false)else k (.bool true)
 | .lss=>if a<b then k (.bool true)else k (.bool false)
 | .leq=>if a≤b then k (.bool true)else k (.bool false)
 | .gtr=>if b<a then k (.bool true)else k (.bool false)
 | .geq=>if b≤a then k (.bool true)else k (.bool false)
 | _=>none
theorem Yp {M:BR}{op:BinOp}{q:IntKind}{a b:Int}{k:D→Option γ}{P:D→Prop}(hk:∀d,k d=some r→P d) (h:Yo op q a b k=some r):JW M op q a b P:=by
 cases op<;>simp only[Yo]at h<;>try contradiction
 ·exact⟨_,rfl,hk _ h⟩
 ·exact⟨_,rfl,hk _ h⟩
 ·exact⟨_,rfl,hk _ h⟩
 ·simp only[JW,M.split_iff,M.eqI_eq]
  by_cases c:a=b
  ·rw[if_pos c]at h;rw[beq_iff_eq.2 c];exact hk _ h
  ·rw[if_neg c]at h;rw[beq_eq_false_iff_ne.2 c];exact hk _ h
 ·simp only[JW,M.split_iff,M.eqI_eq]
  by_cases c:a=b
  ·rw[if_pos c]at h;rw[beq_iff_eq.2 c];exact hk _ h
  ·rw[if_neg c]at h;rw[beq_eq_false_iff_ne.2 c];exact hk _ h
 ·simp only[JW,M.split_iff,M.ltI_eq]
  by_cases c:a<b
  ·rw[if_pos c]at h;rw[decide_eq_true c];exact hk _ h
  ·rw[if_neg c]at h;rw[decide_eq_false c];exact hk _ h
 ·simp only[JW,M.split_iff,M.leI_eq]
  by_cases c:a≤b
  ·rw[if_pos c]at h;rw[decide_eq_true c];exact hk _ h
  ·rw[if_neg c]at h;rw[decide_eq_false c];exact hk _ h
 ·simp only[JW,M.split_iff,M.ltI_eq]
  by_cases c:b<a
  ·rw[if_pos c]at h;rw[decide_eq_true c];exact hk _ h
  ·rw[if_neg c]at h;rw[decide_eq_false c];exact hk _ h
 ·simp only[JW,M.split_iff,M.leI_eq]
  by_cases c:b≤a
  ·rw[if_pos c]at h;rw[decide_eq_true c];exact hk _ h
  ·rw[if_neg c]at h;rw[decide_eq_false c];exact hk _ h
def Yq (op:BinOp) (a b:ByteArray) (k:D→Option γ):Option γ:=
 match op with
 | .add=>gY a b fun c=>k (.str c)
 | .eql=>if a=b then k (.bool true)else k (.bool false)
 | .neq=>if a=b then k (.bool false)else k (.bool true)
 | _=>none
theorem Yr {M:BR}{op:BinOp}{a b:ByteArray}{k:D→Option γ}{P:D→Prop}(hk:∀d,k d=some r→P d) (h:Yq op a b k=some r):RU M op a b P:=by
 cases op<;>simp only[Yq]at h<;>try contradiction
 ·obtain⟨c,h1,h2,h3⟩:=YQ h
  exact⟨c,h1,h2,hk _ h3⟩
 ·simp only[RU,M.split_iff,M.eqS_eq]
  by_cases c:a=b
  ·rw[if_pos c]at h;rw[FB.2 c];exact hk _ h
  ·rw[if_neg c]at h;rw[Bool.eq_false_iff.2 fun e=>c (FB.1 e)];exact hk _ h
 ·simp only[RU,M.split_iff,M.eqS_eq]
  by_cases c:a=b
  ·rw[if_pos c]at h;rw[FB.2 c];exact hk _ h
  ·rw[if_neg c]at h;rw[Bool.eq_false_iff.2 fun e=>c (FB.1 e)];exact hk _ h
def lN (x:AV) (k:Bool→Option γ):Option γ:=
 match x with
 | .v (.d (.bool b))=>k b
 | _=>none
def mV (x:AV) (k:Int→Option γ):Option γ:=
 match x with
 | .v (.d (.int _ n))=>k n
 | _=>none
def O6 (ti:Types) (t:TypeId) (k:TI→Option γ):Option γ:=
 match ti t with
 | some x=>k x
 | none=>none
def rO (x:AV) (k:Bool→Nat→List D→Option γ):Option γ:=
 match x with
 | .v (.d (.list ag sz rows))=>k ag sz rows
 | .v (.c (.lst _ ag sz rows))=>k ag sz rows
 | .v (.c (.nils ag sz))=>k ag sz []
 | .v (.c (.tl ag sz rows))=>k ag sz rows
 | _=>none
def EF (c:Bool) (x:Option γ):Option γ:=
 match c with
 | true=>x
 | false=>none
theorem Cg {ti:Types}{t:TypeId}{k:TI→Option γ}{P:TI→Prop}(hk:∀i,k i=some r→P i) (h:O6 ti t k=some r):BE ti t P:=by
 unfold O6 at h
 unfold BE
 split at h
 ·rename_i x hx;rw[hx];exact hk _ h
 ·cases h
theorem CB {c:Bool}{x:Option γ}{P:Prop}(hk:x=some r→P) (h:EF c x=some r):B6 c P:=by
 cases c
 ·cases h
 ·exact hk h
theorem Us {x:AV}{k:Int→Option γ}{P:IntKind→Int→Prop}(hk:∀q n,k n=some r→P q n) (h:mV x k=some r):HG x P:=by
 unfold mV at h
 split at h
 ·exact hk _ _ h
 ·cases h
theorem Ys {x:AV}{k:Bool→Nat→List D→Option γ}{P:Bool→Nat→List D→Prop}(hk:∀a s l,k a s l=some r→P a s l) (h:rO x k=some r):JV x P:=by
 unfold rO at h
 split at h
 ·exact hk _ _ _ h
 ·exact hk _ _ _ h
 ·exact hk _ _ _ h
 ·exact hk _ _ _ h
 ·cases h
theorem iH {x:AV}{k:Bool→Option γ}{P:Bool→Prop}(hk:∀b,k b=some r→P b) (h:lN x k=some r):OS x P:=by
 unfold lN at h
 split at h
 ·exact hk _ h
 ·cases h
def Qi (ti:Types) (t:TypeId) (x:AV) (h:Heap) (k:Out→Option γ):Option γ:=
 O6 ti t fun i=>match x with
 | .v (.c (.ptr id o))=>(match h id with
  | some (.cells cs)=>EF (Nat.ble (o+i.size) cs.length) (k ⟨.v (V1.A0 (An i.desc) ((cs.drop o).take i.size)),[id],[]⟩)
  | _=>none)
 | .v (.c (.row ag sz d))=>EF (An i.desc==ag) (EF (Nat.beq sz i.size) (k ⟨.v (.d d),[],[]⟩))
 | .v (.c (.rp cs))=>EF (Nat.ble i.size cs.length) (k ⟨.v (V1.A0 (An i.desc) ((cs.take i.size).map CV.d)),[],[]⟩)
 | _=>none
theorem O7 {ti:Types}{t:TypeId}{x:AV}{h:Heap}{k:Out→Option γ}{P:Out→Prop}(hk:∀o,k o=some r→P o) (e:Qi ti t x h k=some r):FR ti t x h P:=by
 unfold Qi at e
 unfold FR
 refine Cg (fun i e=>?_) e
 split at e
 ·split at e
  ·rename_i hc
   simp only[hc]
   exact CB (hk _) e
  ·cases e
 ·exact CB (CB (hk _)) e
 ·exact CB (hk _) e
 ·cases e
def Qj (ti:Types) (t:TypeId) (x y:AV) (h:Heap) (k:Out→Option γ):Option γ:=
 O6 ti t fun i=>match y with
 | .v y=>(match x with
  | .v (.c (.ptr id o))=>(match h id with
   | some (.cells cs)=>EF (Nat.ble (o+i.size) cs.length) (EF (Nat.beq y.cells.length i.size) (k ⟨.u,[id],[(id,.cells (cs.take o++y.cells++cs.drop (o+i.size)))]⟩))
   | _=>none)
  | _=>none)
 | _=>none
theorem Ut {ti:Types}{t:TypeId}{x y:AV}{h:Heap}{k:Out→Option γ}{P:Out→Prop}(hk:∀o,k o=some r→P o) (e:Qj ti t x y h k=some r):Hb ti t x y h P:=by
 unfold Qj at e
 unfold Hb
 refine Cg (fun i e=>?_) e
 split at e
 ·split at e
  ·split at e
   ·rename_i hc
    simp only[Eg,hc]
    exact CB (CB (hk _)) e
   ·cases e
  ·cases e
 ·cases e
def Qk (ti:Types) (t:TypeId) (x:AV) (f:Nat) (k:Out→Option γ):Option γ:=
 O6 ti t fun i=>match i.desc with
 | .struct fs=>(match fs[f]? with
  | some fd=>O6 ti fd.type fun j=>EF (Nat.blt 0 j.size) (match x with
   | .v (.c (.ptr id o))=>k ⟨.v (.c (.ptr id (o+fd.offset))),[],[]⟩
   | .v (.c (.row _ _ d))=>k ⟨.v (.c (.rp (d.cells.drop fd.offset))),[],[]⟩
   | .v (.c (.rp cs))=>k ⟨.v (.c (.rp (cs.drop fd.offset))),[],[]⟩
   | _=>none)
  | none=>none)
 | _=>none
theorem Uu {ti:Types}{t:TypeId}{x:AV}{f:Nat}{k:Out→Option γ}{P:Out→Prop}(hk:∀o,k o=some r→P o) (e:Qk ti t x f k=some r):Hc ti t x f P:=by
 unfold Qk at e
 unfold Hc
 refine Cg (fun i e=>?_) e
 split at e
 ·rename_i fs hf
  split at e
  ·rename_i fd hfd
   simp only[hf,hfd]
   refine Cg (fun j e=>CB (fun e=>?_) e) e
   split at e
   ·exact hk _ e
   ·exact hk _ e
   ·exact hk _ e
   ·cases e
  ·cases e
 ·cases e
abbrev Ds (γ:Type):=TypeId→D→(D→Option γ)→Option γ
def Ds.ok (ds:Ds γ):Prop:=∀t x k r,ds t x k=some r→k x=some r
def Ql (ds:Ds γ) (ti:Types) (t:TypeId) (x i:AV) (k:Out→Option γ):Option γ:=
 mV i fun n=>O6 ti t fun q=>match q.desc with
 | .slice e=>O6 ti e fun j=>rO x fun ag sz rows=>EF (An j.desc==ag)<| EF (Nat.beq sz j.size)<| Ap rows n fun d=>ds e d fun d=>k ⟨.v (.c (.row ag sz d)),[],[]⟩
 | _=>none
theorem Uv {ds:Ds γ}(hd:ds.ok) {ti:Types}{t:TypeId}{x i:AV}{k:Out→Option γ}{P:Out→Prop}(hk:∀o,k o=some r→P o) (e:Ql ds ti t x i k=some r):Hd ti t x i P:=by
 unfold Ql at e
 unfold Hd
 refine Us (fun _ n e=>Cg (fun q e=>?_) e) e
 split at e
 ·rename_i el hq
  simp only[hq]
  refine Cg (fun j e=>?_) e
  have main:JV x fun ag sz rows=>B6 (An j.desc==ag)<| B6 (Nat.beq sz j.size)<| ∃r_1,0≤n∧rows[n.toNat]?=some r_1∧P ⟨.v (.c (.row ag sz r_1)),[],[]⟩:=by
   refine Ys (fun ag sz rows e=>CB (CB fun e=>?_) e) e
   obtain⟨d,⟨h1,h2⟩,h3⟩:=BT e
   exact⟨d,h1,h2,hk _ (hd _ _ _ _ h3)⟩
  split
  ·exact main.elim
  ·exact main
 ·cases e
def Yt (ti:Types) (op:BinOp) (t:TypeId) (x y:AV) (k:Out→Option γ):Option γ:=
 match x,y with
 | .v (.d (.int q a)),.v (.d (.int q' b))=>EF (decide (q=q')) (Yo op q a b fun d=>k ⟨.v (.d d),[],[]⟩)
 | .v (.d (.str a)),.v (.d (.str b))=>Yq op a b fun d=>k ⟨.v (.d d),[],[]⟩
 | .v (.d (.bool a)),.v (.d (.bool b))=>O6 ti t fun i=>(match i.desc with
  | .bool=>(match op with
   | .eql=>AL (a==b) fun q=>k ⟨.v (.d (.bool q)),[],[]⟩
   | .neq=>AL (!(a==b)) fun q=>k ⟨.v (.d (.bool q)),[],[]⟩
   | _=>none)
  | _=>none)
 | _,_=>none
theorem Yu {M:BR}{ti:Types}{op:BinOp}{t:TypeId}{x y:AV}{k:Out→Option γ}{P:Out→Prop}(hk:∀o,k o=some r→P o) (e:Yt ti op t x y k=some r):Pq M ti op t x y P:=by
 unfold Yt at e
 split at e
 ·exact CB (fun e=>Yp (fun d h=>hk _ h) e) e
 ·exact Yr (fun d h=>hk _ h) e
 ·refine Cg (fun i e=>?_) e
  split at e
  ·rename_i hi
   simp only[hi]
   split at e
   ·exact⟨_,L2 _ _,hk _ e⟩
   ·exact⟨_,by rw[De,L2],hk _ e⟩
   ·cases e
  ·cases e
 ·cases e
def iI (op:UnOp) (x:AV) (k:Out→Option γ):Option γ:=
 match op,x with
 | .not,.v (.d (.bool b))=>AL (!b) fun q=>k ⟨.v (.d (.bool q)),[],[]⟩
 | _,_=>none
theorem bE {op:UnOp}{x:AV}{k:Out→Option γ}{P:Out→Prop}(hk:∀o,k o=some r→P o) (e:iI op x k=some r):VJ op x P:=by
 unfold iI at e
 split at e
 ·exact⟨_,De _,hk _ e⟩
 ·cases e
def Yv (ti:Types) (t:TypeId) (x:AV) (k:Out→Option γ):Option γ:=
 O6 ti t fun q=>match q.desc with
 | .slice _=>rO x fun _ _ rows=>AE rows fun z=>k ⟨.v (.d (.int .i64 z)),[],[]⟩
 | .string=>(match x with
  | .v (.d (.str s))=>N3 s fun z=>k ⟨.v (.d (.int .i64 z)),[],[]⟩
  | _=>none)
 | .array n _=>k ⟨.v (.d (.int .i64 n)),[],[]⟩
 | _=>none
theorem Yw {M:BR}{ti:Types}{t:TypeId}{x:AV}{k:Out→Option γ}{P:Out→Prop}(hk:∀o,k o=some r→P o) (e:Yv ti t x k=some r):MI M ti t x P:=by
 unfold Yv at e
 unfold MI
 refine Cg (fun q e=>?_) e
 split at e
 ·rename_i hq
  simp only[hq]
  have main:JV x fun _ _ rows=>∃z:Int,M.lenI rows=z∧P ⟨.v (.d (.int .i64 z)),[],[]⟩:=Ys (fun _ _ rows e=>(BL M e).imp fun z h=>⟨h.1,hk _ h.2⟩) e
  split
  ·exact main.elim
  ·exact main
 ·rename_i hq
  simp only[hq]
  split at e
  ·exact (aR M e).imp fun z h=>⟨h.1,hk _ h.2⟩
  ·cases e
 ·rename_i hq
  simp only[hq]
  exact hk _ e
 ·cases e
def Qm (ti:Types) (s:AX) (fs:List Field) (cs:List CV):List (Nat×Operand)→(List CV→Option γ)→Option γ
 | [],k=>k cs
 | (i,x)::r,k=>match fs[i]? with
  | some fd=>O6 ti fd.type fun j=>(match Az ti s fd.type x with
   | .v y=>EF (Nat.beq y.cells.length j.size)<| EF (Nat.ble (fd.offset+j.size) cs.length)<| Qm ti s fs (cs.take fd.offset++y.cells++cs.drop (fd.offset+j.size)) r k
   | _=>none)
  | none=>none
theorem O8 {ti:Types}{s:AX}{fs:List Field}:∀{l:List (Nat×Operand)}{cs:List CV}{k:List CV→Option γ}{P:List CV→Prop},(∀cs,k cs=some r→P cs)→Qm ti s fs cs l k=some r→OT ti s fs cs l P
 | [],_,_,_,hk,e=>hk _ e
 | (i,x)::l,cs,k,P,hk,e=>by
  unfold Qm at e
  unfold OT
  split at e
  ·rename_i fd hfd
   simp only[hfd]
   refine Cg (fun j e=>?_) e
   split at e
   ·rename_i y hy
    simp only[hy,Eg]
    exact CB (CB fun e=>O8 hk e) e
   ·cases e
  ·cases e
def Qn (ti:Types) (s:AX) (t:TypeId) (parts:List (Nat×Operand)) (k:Out→Option γ):Option γ:=
 O6 ti t fun q=>match q.desc with
 | .struct fs=>EF (RV ti fs.toList)<| Qm ti s fs.toList q.zc parts fun cs=>k ⟨.v (V1.A0 true cs),[],[]⟩
 | _=>none
theorem Uw {ti:Types}{s:AX}{t:TypeId}{parts:List (Nat×Operand)}{k:Out→Option γ}{P:Out→Prop}(hk:∀o,k o=some r→P o) (e:Qn ti s t parts k=some r):He ti s t parts P:=by
 unfold Qn at e
 unfold He
 refine Cg (fun q e=>?_) e
 split at e
 ·rename_i hq
  simp only[hq]
  exact CB (fun e=>O8 (fun cs h=>hk _ h) e) e
 ·cases e
def NB (ti:Types) (t:TypeId) (x:AV) (f:Nat) (k:Out→Option γ):Option γ:=
 O6 ti t fun i=>match i.desc with
 | .struct fs=>(match fs[f]? with
  | some fd=>O6 ti fd.type fun j=>(match x with
   | .v y=>EF (ML y)<| EF (Nat.ble (fd.offset+j.size) y.cells.length)<| k ⟨.v (V1.A0 (An j.desc) ((y.cells.drop fd.offset).take j.size)),[],[]⟩
   | _=>none)
  | none=>none)
 | _=>none
theorem SQ {ti:Types}{t:TypeId}{x:AV}{f:Nat}{k:Out→Option γ}{P:Out→Prop}(hk:∀o,k o=some r→P o) (e:NB ti t x f k=some r):F5 ti t x f P:=by
 unfold NB at e
 unfold F5
 refine Cg (fun i e=>?_) e
 split at e
 ·rename_i fs hf
  split at e
  ·rename_i fd hfd
   simp only[hf,hfd]
   refine Cg (fun j e=>?_) e
   split at e
   ·simp only[Eg];exact CB (CB (hk _)) e
   ·cases e
  ·cases e
 ·cases e
def Km (x:AV) (i:Nat) (k:Out→Option γ):Option γ:=
 match x with
 | .t xs=>(match Wc xs i with
  | some y=>k ⟨.v y,[],[]⟩
  | none=>none)
 | _=>none
theorem Qo {x:AV}{i:Nat}{k:Out→Option γ}{P:Out→Prop}(hk:∀o,k o=some r→P o) (e:Km x i k=some r):E3 x i P:=by
 unfold Km at e
 split at e
 ·split at e
  ·rename_i hy
   simp only[E3,hy];exact hk _ e
  ·cases e
 ·cases e
def Yx (ti:Types) (t:TypeId) (x i:AV) (k:Out→Option γ):Option γ:=
 mV i fun n=>O6 ti t fun q=>match q.desc with
 | .string=>(match x with
  | .v (.d (.str b))=>Tz b n fun z=>k ⟨.v (.d (.int .u8 z)),[],[]⟩
  | _=>none)
 | _=>none
theorem Yy {ti:Types}{t:TypeId}{x i:AV}{k:Out→Option γ}{P:Out→Prop}(hk:∀o,k o=some r→P o) (e:Yx ti t x i k=some r):F4 ti t x i P:=by
 unfold Yx at e
 unfold F4
 refine Us (fun _ n e=>Cg (fun q e=>?_) e) e
 split at e
 ·rename_i hq
  simp only[hq]
  split at e
  ·obtain⟨z,h1,h2⟩:=aU e
   exact⟨z,h1,hk _ h2⟩
  ·cases e
 ·cases e
def Kp (ti:Types) (src dst:TypeId) (x:AV) (k:Out→Option γ):Option γ:=
 O6 ti src fun a=>O6 ti dst fun b=>match a.desc,b.desc with
 | .int _,.int q=>mV x fun n=>AJ (q.wrap n) fun z=>k ⟨.v (.d (.int q z)),[],[]⟩
 | _,_=>none
theorem Qq {ti:Types}{src dst:TypeId}{x:AV}{k:Out→Option γ}{P:Out→Prop}(hk:∀o,k o=some r→P o) (e:Kp ti src dst x k=some r):E4 ti src dst x P:=by
 unfold Kp at e
 unfold E4
 refine Cg (fun a e=>Cg (fun b e=>?_) e) e
 split at e
 ·rename_i h1 h2
  simp only[h1,h2]
  exact Us (fun _ n e=>(Ac e).imp fun z h=>⟨h.1,hk _ h.2⟩) e
 ·cases e
def Da (ds:Ds γ) (ti:Types) (o:Oper) (fresh:Nat) (s:AX) (h:Heap) (k:Out→Option γ):Option γ:=
 match o.op with
 | .move x=>k ⟨Az ti s o.type x,[],[]⟩
 | .assign x=>k ⟨Az ti s o.type x,[],[]⟩
 | .alloc t=>O6 ti t fun i=>k ⟨ptrTo fresh,[],[(.loc fresh,.cells i.zc)]⟩
 | .box t x=>(match Az ti s t x with
  | .v y=>k ⟨ptrTo fresh,[],[(.loc fresh,.cells y.cells)]⟩
  | _=>none)
 | .load t x=>Qi ti t (Az ti s 0 x) h k
 | .store t x y=>Qj ti t (Az ti s 0 x) (Az ti s t y) h k
 | .fieldAddr t x f=>Qk ti t (Az ti s 0 x) f k
 | .indexAddr t x i=>Ql ds ti t (Az ti s t x) (Az ti s 3 i) k
 | .nilCheck x=>(match Az ti s 0 x with
  | .v (.c (.ptr i q))=>k ⟨.v (.c (.ptr i q)),[],[]⟩
  | _=>none)
 | .binOp op t x y _=>Yt ti op t (Az ti s t x) (Az ti s t y) k
 | .unOp op _ x=>iI op (Az ti s o.type x) k
 | .makeFunc fn first captured=>(match fn,first.toList with
  | .func f,[]=>(match MJ (captured.toList.map (Az ti s 0))with
   | some l=>k ⟨.v (.c (.fn f l)),[],[]⟩
   | none=>none)
  | _,_=>none)
 | .build t parts=>Qn ti s t parts.toList k
 | .index t x i=>Yx ti t (Az ti s t x) (Az ti s 3 i) k
 | .field t x f=>NB ti t (Az ti s t x) f k
 | .extract x i=>Km (Az ti s 0 x) i k
 | .convert a b x=>Kp ti a b (Az ti s a x) k
 | .call c=>(match c.callee with
  | .builtin .len=>(match c.args.toList,c.argTypes.toList with
   | [x],[t]=>Yv ti t (Az ti s t x) k
   | _,_=>none)
  | _=>none)
 | _=>none
theorem Dk {ds:Ds γ}(hd:ds.ok) {M:BR}{ti:Types}{o:Oper}{fresh:Nat}{s:AX}{h:Heap}{k:Out→Option γ}{P:Out→Prop}(hk:∀o,k o=some r→P o) (e:Da ds ti o fresh s h k=some r):Bs M ti o fresh s h P:=by
 unfold Da at e
 unfold Bs
 split at e<;>rename_i ho<;>first | (cases e;done) | simp only[ho]
 ·exact hk _ e
 ·exact hk _ e
 ·exact Cg (fun _ e=>hk _ e) e
 ·split at e
  ·rename_i hy;simp only[hy,Eg];exact hk _ e
  ·cases e
 ·exact O7 hk e
 ·exact Ut hk e
 ·exact Uu hk e
 ·exact Uv hd hk e
 ·split at e
  ·rename_i hy;simp only[hy];exact hk _ e
  ·cases e
 ·exact Yu hk e
 ·exact bE hk e
 ·split at e
  ·rename_i hf
   simp only[hf]
   split at e
   ·rename_i h3;simp only[h3];exact hk _ e
   ·cases e
  ·cases e
 ·exact Uw hk e
 ·exact Yy hk e
 ·exact SQ hk e
 ·exact Qo hk e
 ·exact Qq hk e
 ·split at e
  ·rename_i hc
   simp only[hc]
   split at e
   ·rename_i h1 h2
    simp only[h1,h2]
    exact Yw hk e
   ·cases e
  ·cases e
end
end Go.AM
namespace Go.AM
open Go Go.RowKit
def mW:CV→List Id
 | .ptr i _=>[i]
 | .fn _ cap=>cap
 | .lst i _ _ _=>[i]
 | .sl i _=>[i]
 | .map i=>[i]
 | .ap i _ _ _ _=>[i]
 | .ow i=>[i]
 | .op i _ _ _=>[i]
 | .yl i=>[i]
 | _=>[]
def Yz:List CV→List Id
 | []=>[]
 | c::cs=>mW c++Yz cs
def sY:V1→List Id
 | .d _=>[]
 | .c x=>mW x
 | .agg cs=>Yz cs
def CT:List V1→List Id
 | []=>[]
 | x::xs=>sY x++CT xs
def sZ:Option AF→List Id
 | some (.cells cs)=>Yz cs
 | _=>[]
def Bw (h:Heap):Nat→List Id→List Id→List Id
 | 0,_,acc=>acc
 | _+1,[],acc=>acc
 | n+1,i::t,acc=>match KT i acc with
  | true=>Bw h n t acc
  | false=>Bw h n (sZ (h i)++t) (acc++[i])
def iJ:List Id→Nat→Id→Option Nat
 | [],_,_=>none
 | j::l,n,i=>match Id.beq j i with
  | true=>some n
  | false=>iJ l (n+1) i
def Y0 (m:List Id) (i:Id):Id:=match iJ m 0 i with
 | some j=>.ext j
 | none=>i
def D4 (h:Heap):List Id→Option (List AF)
 | []=>some []
 | i::l=>match h i with
  | some o=>(match D4 h l with
   | some r=>some (o::r)
   | none=>none)
  | none=>none
theorem NC {h:Heap}:∀{l:List Id}{r:List AF},D4 h l=some r→l.length=r.length∧∀(j:Nat) i o,l[j]?=some i→r[j]?=some o→h i=some o
 | [],r,e=>by cases e;exact⟨rfl,by simp⟩
 | i::l,r,e=>by
  unfold D4 at e
  split at e
  ·rename_i o ho
   split at e
   ·rename_i r' hr
    cases e
    obtain⟨h1,h2⟩:=NC hr
    refine⟨by simp[h1],fun j x y hx hy=>?_⟩
    cases j with
    | zero=>simp at hx hy;subst hx;subst hy;exact ho
    | succ j=>simp at hx hy;exact h2 j x y hx hy
   ·cases e
  ·cases e
def Y1:AF→AF→Bool
 | .cells _,.cells _=>true
 | _,.gone=>true
 | _,_=>false
def Qr:List AF→List AF→Bool
 | [],[]=>true
 | a::al,b::bs=>match Y1 a b with
  | true=>Qr al bs
  | false=>false
 | _,_=>false
theorem Y2 {a b:AF}(h:Y1 a b=true):sameKind a b:=by
 unfold Y1 at h
 split at h
 ·trivial
 ·cases a<;>trivial
 ·cases h
theorem O9:∀{a b:List AF},Qr a b=true→B7 a b
 | [],[],_=>trivial
 | a::al,b::bs,h=>by
  unfold Qr at h
  split at h
  ·rename_i hk;exact⟨Y2 hk,O9 h⟩
  ·cases h
 | [],_::_,h=>by cases h
 | _::_,[],h=>by cases h
section
variable {γ:Type}{r:γ}
abbrev Cl (γ:Type):=FuncId→List V1→List AF→(fE→Option γ)→Option γ
def Cl.ok (P:Program) (I:Inv) (call:Cl γ):Prop:=∀f args pre k r,call f args pre k=some r→∃res post new,Ah P I f args pre res post new∧k ⟨res,post,new⟩=some r
def Vh (m:List Id) (fresh:Nat) (i:Id):Bool:=Id.beq (BZ m fresh (Y0 m i)) i
theorem SR {m:List Id}{fresh:Nat}{i:Id}(h:Vh m fresh i=true):BZ m fresh (Y0 m i)=i:=Id.beq_iff.1 h
def Ux (call:Cl γ) (f:FuncId) (xs:List V1) (fresh:Nat) (h:Heap) (k:Out→Option γ):Option γ:=
 match D4 h (Bw h 100 (CT xs) [])with
 | none=>none
 | some objs=>EF (B3 (lL (Vh (Bw h 100 (CT xs) []) fresh)) xs)<| EF (B3 (OD (Vh (Bw h 100 (CT xs) []) fresh)) objs)<| EF (nodupB (Bw h 100 (CT xs) []))<|
   call f (xs.map (V1.BM (Y0 (Bw h 100 (CT xs) [])))) (objs.map (AF.BM (Y0 (Bw h 100 (CT xs) [])))) fun ret=>
    EF (Qr (objs.map (AF.BM (Y0 (Bw h 100 (CT xs) [])))) ret.post)<| EF (Nat.ble ret.new.length 31)<|
     k ⟨ret.res.BM (BZ (Bw h 100 (CT xs) []) fresh),Bw h 100 (CT xs) [],N6 (Bw h 100 (CT xs) []) (BZ (Bw h 100 (CT xs) []) fresh) ret.post++DB fresh (BZ (Bw h 100 (CT xs) []) fresh) 0 ret.new⟩
theorem BG {c:Bool}{x:Option γ}(h:EF c x=some r):c=true∧x=some r:=by
 cases c
 ·cases h
 ·exact⟨rfl,h⟩
theorem Y3 {l:List Id}(h:nodupB l=true):l.Nodup:=by
 induction l with
 | nil=>exact List.nodup_nil
 | cons i l ih=>
  unfold nodupB at h
  split at h
  ·cases h
  ·rename_i hi
   refine List.nodup_cons.2 ⟨fun hm=>?_,ih h⟩
   rw[Hg.2 hm]at hi
   cases hi
theorem W8 {P:Program}{I:Inv}{call:Cl γ}(hc:call.ok P I) {f:FuncId}{xs:List V1}{fresh:Nat}{h:Heap}{k:Out→Option γ}{A:Out→Prop}(hk:∀o,k o=some r→A o) (e:Ux call f xs fresh h k=some r):Lz P I f xs fresh h A:=by
 unfold Ux at e
 generalize Bw h 100 (CT xs) []=m at e
 split at e
 ·cases e
 ·rename_i objs ho
  obtain⟨h1,e⟩:=BG e
  obtain⟨h2,e⟩:=BG e
  obtain⟨h3,e⟩:=BG e
  obtain⟨res,post,new,ht,e⟩:=hc _ _ _ _ _ e
  obtain⟨h4,e⟩:=BG e
  obtain⟨h5,e⟩:=BG e
  obtain⟨g1,g2⟩:=NC ho
  refine⟨m,_,_,res,post,new,ht,?_,by simpa using g1,Y3 h3,fun j i o hm hp=>?_,O9 h4,Nat.le_of_ble_eq_true h5,hk _ e⟩
  ·rw[List.map_map]
   rw[BN]at h1
   exact (B8 fun x hx=>QV (fun i hi=>SR hi) (h1 x hx)).symm
  ·rw[List.getElem?_map,Option.map_eq_some_iff]at hp
   obtain⟨o',ho',rfl⟩:=hp
   rw[BN]at h2
   rw[L6 (p:=Vh m fresh) (fun i hi=>SR hi) (h2 o' (List.mem_of_getElem? ho'))]
   exact g2 j i o' hm ho'
def Vi:List Id→List Id→Bool
 | [],[]=>true
 | i::a,j::b=>(match Id.beq i j with
  | true=>Vi a b
  | false=>false)
 | _,_=>false
theorem SS:∀{a b:List Id},Vi a b=true→a=b
 | [],[],_=>rfl
 | i::a,j::b,h=>by
  unfold Vi at h
  split at h
  ·rename_i hb;rw[Id.beq_iff.1 hb,SS h]
  ·cases h
 | [],_::_,h=>by cases h
 | _::_,[],h=>by cases h
def iK:CV→CV→Bool
 | .ptr i o,.ptr j q=>(match Id.beq i j with
  | true=>Nat.beq o q
  | false=>false)
 | .fn f c,.fn g d=>(match Nat.beq f g with
  | true=>Vi c d
  | false=>false)
 | .nilp,.nilp=>true
 | .nilf,.nilf=>true
 | _,_=>false
theorem bF {a b:CV}(h:iK a b=true):a=b:=by
 unfold iK at h
 split at h
 ·split at h
  ·rename_i hb;rw[Id.beq_iff.1 hb,Nat.eq_of_beq_eq_true h]
  ·cases h
 ·split at h
  ·rename_i hb;rw[Nat.eq_of_beq_eq_true hb,SS h]
  ·cases h
 ·rfl
 ·rfl
 ·cases h
def SU:List CV→List CV→Bool
 | [],[]=>true
 | i::a,j::b=>(match iK i j with
  | true=>SU a b
  | false=>false)
 | _,_=>false
theorem SV:∀{a b:List CV},SU a b=true→a=b
 | [],[],_=>rfl
 | i::a,j::b,h=>by
  unfold SU at h
  split at h
  ·rename_i hb;rw[bF hb,SV h]
  ·cases h
 | [],_::_,h=>by cases h
 | _::_,[],h=>by cases h
def Ht (h:Heap):List Id→List Id
 | []=>[]
 | i::l=>(match h i with
  | some (.cells cs)=>(match SU cs cs with
   | true=>i::Ht h l
   | false=>Ht h l)
  | _=>Ht h l)
def Jn (h:Heap) (ids rd:List Id):List (Id×AF)→(List (Id×AF)→Option γ)→Option γ
 | [],K=>K []
 | x::l,K=>(match KT x.1 ids with
  | true=>(match KT x.1 rd with
   | true=>(match h x.1,x.2 with
    | some (.cells a),.cells b=>EF (SU a b) (Jn h ids rd l K)
    | _,_=>none)
   | false=>none)
  | false=>Jn h ids rd l fun wr=>K (x::wr))
theorem JJ {h:Heap}{ids rd:List Id}:∀{wr:List (Id×AF)}{K:List (Id×AF)→Option γ}{A:List (Id×AF)→Prop},(∀w,K w=some r→A w)→Jn h ids rd wr K=some r→Mb h ids rd wr A
 | [],_,_,hk,e=>hk _ e
 | x::l,K,A,hk,e=>by
  obtain⟨i,o⟩:=x
  unfold Jn at e
  unfold Mb
  simp only[]at e ⊢
  split at e
  ·rename_i h1
   rw[h1]
   split at e
   ·rename_i h2
    rw[h2]
    split at e
    ·rename_i h3
     obtain⟨h4,e⟩:=BG e
     exact⟨by rw[h3,SV h4],JJ hk e⟩
    ·cases e
   ·cases e
  ·rename_i h1
   rw[h1]
   exact JJ (fun w hw=>hk _ hw) e
def Qs (ti:Types) (s:AX) (e:TypeId) (ag:Bool) (sz:Nat):Nat→List (Nat×Operand)→(List D→Option γ)→Option γ
 | _,[],k=>k []
 | n,(i,x)::l,k=>EF (Nat.beq i n)<| (match Az ti s e x with
  | .v y=>(match y.norm with
   | .d d=>EF (d.isAgg==ag)<| EF (Nat.beq d.cells.length sz)<| Qs ti s e ag sz (n+1) l fun ds=>k (d::ds)
   | _=>none)
  | _=>none)
theorem PA {ti:Types}{s:AX}{e:TypeId}{ag:Bool}{sz:Nat}:∀{l:List (Nat×Operand)}{n:Nat}{k:List D→Option γ}{A:List D→Prop},(∀w,k w=some r→A w)→Qs ti s e ag sz n l k=some r→OU ti s e ag sz n l A
 | [],_,_,_,hk,h=>hk _ h
 | (i,x)::l,n,k,A,hk,h=>by
  unfold Qs at h
  unfold OU
  refine CB (fun h=>?_) h
  split at h
  ·rename_i hy
   simp only[hy]
   split at h
   ·rename_i hd
    simp only[hd]
    exact CB (CB fun h=>PA (fun w hw=>hk _ hw) h) h
   ·cases h
  ·cases h
def Ga (ti:Types) (s:AX) (t:TypeId) (len:Nat) (parts:List (Nat×Operand)) (k:Out→Option γ):Option γ:=
 O6 ti t fun q=>match q.desc with
 | .slice e=>O6 ti e fun j=>EF (Nat.ble (len*j.size) 16777216)<| EF (Nat.beq parts.length len)<| EF (Nat.blt 0 j.size)<| Qs ti s e (An j.desc) j.size 0 parts fun ds=>
   k ⟨.v (.c (.tl (An j.desc) j.size ds)),[],[]⟩
 | _=>none
theorem Ls {ti:Types}{s:AX}{t:TypeId}{len:Nat}{parts:List (Nat×Operand)}{k:Out→Option γ}{A:Out→Prop}(hk:∀o,k o=some r→A o) (h:Ga ti s t len parts k=some r):DC ti s t len parts A:=by
 unfold Ga at h
 unfold DC
 refine Cg (fun q h=>?_) h
 split at h
 ·rename_i hq
  simp only[hq]
  exact Cg (fun j h=>CB (CB (CB fun h=>PA (fun w hw=>hk _ hw) h)) h) h
 ·cases h
def bG (mn:Bool) (x y:AV) (k:Out→Option γ):Option γ:=
 match x,y with
 | .v (.d (.int q a)),.v (.d (.int q' b))=>EF (decide (q=q'))<| (match mn with
  | true=>AJ (if b<a then b else a) fun z=>k ⟨.v (.d (.int q z)),[],[]⟩
  | false=>AJ (if b>a then b else a) fun z=>k ⟨.v (.d (.int q z)),[],[]⟩)
 | _,_=>none
theorem Vj {mn:Bool}{x y:AV}{k:Out→Option γ}{A:Out→Prop}(hk:∀o,k o=some r→A o) (e:bG mn x y k=some r):GB mn x y A:=by
 unfold bG at e
 split at e
 ·refine CB (fun e=>?_) e
  cases mn with
  | true=>obtain⟨z,h1,h2⟩:=Ac e;exact⟨z,h1,hk _ h2⟩
  | false=>obtain⟨z,h1,h2⟩:=Ac e;exact⟨z,h1,hk _ h2⟩
 ·cases e
def bH (ds:Ds γ) (call:Cl γ) (ti:Types) (o:Oper) (fresh:Nat) (s:AX) (h:Heap) (k:Out→Option γ):Option γ:=
 match o.op with
 | .call c=>(match c.callee with
  | .value f=>(match Az ti s 0 f with
   | .v (.c (.fn n cap))=>(match Ij (CQ ti s c.args.toList c.argTypes.toList)with
    | some xs=>Ux call n (xs++cap.map fun i=>V1.c (.ptr i 0)) fresh h fun out=>Jn h (Ht h (Bw h 100 (CT (xs++cap.map fun i=>V1.c (.ptr i 0))) [])) out.rd out.wr fun wr=>k ⟨out.val,out.rd,wr⟩
    | none=>none)
   | _=>none)
  | .builtin .len=>(match c.args.toList,c.argTypes.toList with
   | [x],[t]=>EF (Ek (Tx (Az ti s t x))) (Da ds ti o fresh s h k)
   | _,_=>none)
  | .builtin .max=>(match c.args.toList,c.argTypes.toList with
   | [x,y],[t,t']=>bG false (Az ti s t x) (Az ti s t' y) k
   | _,_=>none)
  | .builtin .min=>(match c.args.toList,c.argTypes.toList with
   | [x,y],[t,t']=>bG true (Az ti s t x) (Az ti s t' y) k
   | _,_=>none)
  | _=>none)
 | .load _ x=>EF (Ek (Tx (Az ti s 0 x))) (Da ds ti o fresh s h k)
 | .store _ x _=>EF (Ek (Tx (Az ti s 0 x))) (Da ds ti o fresh s h k)
 | .fieldAddr _ x _=>EF (Ek (Tx (Az ti s 0 x))) (Da ds ti o fresh s h k)
 | .indexAddr t x _=>EF (Ek (Tx (Az ti s t x))) (Da ds ti o fresh s h k)
 | .nilCheck x=>EF (Ek (Tx (Az ti s 0 x))) (Da ds ti o fresh s h k)
 | .binOp _ t x _ _=>EF (Ek (Xu (Az ti s t x)))<| EF (Ek (Tx (Az ti s t x))) (Da ds ti o fresh s h k)
 | .convert a _ x=>EF (Xv (Az ti s a x)) (Da ds ti o fresh s h k)
 | .move _=>Da ds ti o fresh s h k
 | .assign _=>Da ds ti o fresh s h k
 | .alloc _=>Da ds ti o fresh s h k
 | .box _ _=>Da ds ti o fresh s h k
 | .unOp _ _ _=>Da ds ti o fresh s h k
 | .makeFunc _ _ _=>Da ds ti o fresh s h k
 | .build _ _=>Da ds ti o fresh s h k
 | .index _ _ _=>Da ds ti o fresh s h k
 | .field _ _ _=>Da ds ti o fresh s h k
 | .extract _ _=>Da ds ti o fresh s h k
 | .buildSlice t len parts=>Ga ti s t len parts.toList k
 | .pick c a b=>lN (Az ti s 0 c) fun q=>if q=true then k ⟨Az ti s o.type a,[],[]⟩else k ⟨Az ti s o.type b,[],[]⟩
 | _=>none
theorem Hu {b:Bool}(h:Ek b=true):b=false:=by cases b;rfl;cases h
theorem Vk {M:BR}{ds:Ds γ}(hd:ds.ok) {call:Cl γ}(hc:call.ok M.P M.I) {ti:Types}{o:Oper}{fresh:Nat}{s:AX}{h:Heap}{k:Out→Option γ}{A:Out→Prop}(hk:∀o,k o=some r→A o) (e:bH ds call ti o fresh s h k=some r):Eh M ti o fresh s h A:=by
 unfold bH at e
 unfold Eh
 split at e<;>rename_i ho<;>first | (cases e;done) | simp only[ho]
 ·split at e
  ·rename_i hcal
   simp only[hcal]
   split at e
   ·rename_i n cap hf
    split at e
    ·rename_i xs hxs
     refine .inr (.inr ⟨Ht h (Bw h 100 (CT (xs++cap.map fun i=>V1.c (.ptr i 0))) []),?_⟩)
     show Bs M ti o fresh s h _
     unfold Bs
     simp only[ho,hcal]
     unfold JX
     simp only[hf]
     unfold withArgs
     simp only[hxs]
     exact (M.lock_iff _).2 (W8 hc (fun out e=>JJ (fun w hw=>hk _ hw) e) e)
    ·cases e
   ·cases e
  ·rename_i hcal
   simp only[hcal]
   split at e
   ·rename_i h1 h2
    simp only[h1,h2]
    obtain⟨h3,e⟩:=BG e
    simp only[Hu h3]
    exact Dk hd hk e
   ·cases e
  ·rename_i hcal
   simp only[hcal]
   split at e
   ·rename_i h1 h2
    simp only[h1,h2]
    exact Vj hk e
   ·cases e
  ·rename_i hcal
   simp only[hcal]
   split at e
   ·rename_i h1 h2
    simp only[h1,h2]
    exact Vj hk e
   ·cases e
  ·cases e
 all_goals first | exact Dk hd hk e | skip
 rotate_right 2
 ·refine⟨false,?_⟩
  show Bs M ti o fresh s h _
  unfold Bs
  simp only[ho]
  exact⟨true,Ls hk e⟩
 ·show Bs M ti o fresh s h _
  unfold Bs
  simp only[ho]
  refine iH (fun q e=>?_) e
  cases q with
  | true=>rw[if_pos rfl]at e;exact hk _ e
  | false=>rw[if_neg Bool.false_ne_true]at e;exact hk _ e
 ·obtain⟨h3,e⟩:=BG e;simp only[Hu h3];exact Dk hd hk e
 ·obtain⟨h3,e⟩:=BG e;simp only[Hu h3];exact Dk hd hk e
 ·obtain⟨h3,e⟩:=BG e;simp only[Hu h3];exact Dk hd hk e
 ·obtain⟨h3,e⟩:=BG e;simp only[Hu h3];exact Dk hd hk e
 ·obtain⟨h3,e⟩:=BG e;simp only[Hu h3];exact Dk hd hk e
 ·obtain⟨h3,e⟩:=BG e
  obtain⟨h4,e⟩:=BG e
  simp only[Hu h3,Hu h4];exact Dk hd hk e
 ·obtain⟨h3,e⟩:=BG e;simp only[h3];exact Dk hd hk e
def Qt (o:Oper):Bool:=
 match o.op with
 | .store ..=>o.dst.isNone
 | .mapUpdate ..=>o.dst.isNone
 | .defer _=>false
 | _=>true
theorem PB {o:Oper}{K:Prop}(h:Qt o=true) (hk:K):FX o K:=by
 unfold Qt at h
 unfold FX
 split at h<;>rename_i ho<;>simp only[ho]
 ·cases hd:o.dst with
  | none=>exact hk
  | some d=>rw[hd]at h;cases h
 ·cases hd:o.dst with
  | none=>exact hk
  | some d=>rw[hd]at h;cases h
 ·cases h
 ·exact hk
def Y4 (nt:Nat) (d:Option Tmp):Bool:=
 match d with
 | none=>true
 | some d=>Nat.blt d nt
theorem L8 {nt:Nat}{d:Option Tmp}{K:Prop}(h:Y4 nt d=true) (hk:K):HJ nt d K:=by
 cases d with
 | none=>exact hk
 | some d=>exact AO.2 ⟨h,hk⟩
def isNone {α:Type}:Option α→Bool
 | none=>true
 | some _=>false
theorem PC {α:Type}{x:Option α}(h:isNone x=true):x=none:=by cases x;rfl;cases h
def SW:List (Nat×AV)→Nat→AV→List (Nat×AV)
 | [],_,_=>[]
 | x::l,t,v=>(match Nat.beq x.1 t with
  | true=>(x.1,v)::l
  | false=>x::SW l t v)
theorem Qu:∀{l:List (Nat×AV)}{t:Nat}{v:AV},Ad l t=v→SW l t v=l
 | [],_,_,_=>rfl
 | (k,v0)::l,t,v,h=>by
  unfold Ad at h
  unfold SW
  split at h
  ·rename_i hb;simp only[hb,h]
  ·rename_i hb;simp only[hb,Qu h]
def L9 (ops:Array Oper) (o:Oper) (σ:St) (K1 K0:St→Option γ):Option γ:=
 match o.guard with
 | none=>K1 σ
 | some (j,want)=>(match (ops[j]?).bind (·.dst)with
  | none=>none
  | some d=>(match Ad σ.slots d with
   | .v (.d (.bool c))=>(match want with
    | true=>if c=true then K1 ⟨SW σ.slots d (.v (.d (.bool true))),σ.heap,σ.next⟩else K0 ⟨SW σ.slots d (.v (.d (.bool false))),σ.heap,σ.next⟩
    | false=>if c=true then K0 ⟨SW σ.slots d (.v (.d (.bool true))),σ.heap,σ.next⟩else K1 ⟨SW σ.slots d (.v (.d (.bool false))),σ.heap,σ.next⟩)
   | .t []=>K0 σ
   | _=>none))
theorem ND {ops:Array Oper}{o:Oper}{σ:St}{K1 K0:St→Option γ}{P1 P0:St→Prop}(h1:K1 σ=some r→P1 σ) (h0:K0 σ=some r→P0 σ) (e:L9 ops o σ K1 K0=some r):guarded ops o σ P1 P0:=by
 unfold L9 at e
 unfold guarded
 split at e
 ·rename_i hg;simp only[hg];exact h1 e
 ·rename_i j want hg
  simp only[hg]
  split at e
  ·cases e
  ·rename_i d hd
   simp only[hd]
   split at e
   ·rename_i c hs
    simp only[hs]
    cases want<;>cases c<;>simp only[if_true,Bool.false_eq_true,if_false,Qu hs]at e ⊢
    ·exact h1 e
    ·exact h0 e
    ·exact h0 e
    ·exact h1 e
   ·rename_i hs;simp only[hs];exact h0 e
   ·cases e
def Uy (ds:Ds γ) (call:Cl γ) (ti:Types) (nt:Nat) (o:Oper) (fresh:Nat) (σ:St) (K:St→Option γ):Option γ:=
 EF (Qt o)<| EF (Y4 nt o.dst)<| EF (isNone (P9 ti o (Ad σ.slots) (Aa σ.heap)))<| EF (Ke o || isNone (mB ti o (Ad σ.slots) (Aa σ.heap)))<|
  bH ds call ti o fresh (Ad σ.slots) (Aa σ.heap) fun out=>K ⟨D2 σ.slots o.dst out.val,E7 σ.heap out.wr,σ.next⟩
theorem W9 {M:BR}{ds:Ds γ}(hd:ds.ok) {call:Cl γ}(hc:call.ok M.P M.I) {ti:Types}{nt:Nat}{o:Oper}{fresh:Nat}{σ:St}{K:St→Option γ}{P:St→Prop}(hK:∀σ,K σ=some r→P σ) (e:Uy ds call ti nt o fresh σ K=some r):QD M ti nt o fresh σ P:=by
 unfold Uy at e
 obtain⟨h1,e⟩:=BG e
 obtain⟨h2,e⟩:=BG e
 obtain⟨h3,e⟩:=BG e
 obtain⟨h4,e⟩:=BG e
 unfold QD
 refine PB h1 (L8 h2 ?_)
 simp only[PC h3]
 have main:Eh M ti o fresh (Ad σ.slots) (Aa σ.heap) fun out=>P ⟨D2 σ.slots o.dst out.val,E7 σ.heap out.wr,σ.next⟩:=Vk hd hc (fun out h=>hK _ h) e
 cases hv:Ke o with
 | true=>exact (M.lock_iff _).2 (.inl main)
 | false=>
  rw[hv,Bool.false_or]at h4
  simp only[PC h4]
  exact main
end
end Go.AM
namespace Go.AM
open Go Go.RowKit
section
variable {γ:Type}{r:γ}
def SX (ds:Ds γ) (call:Cl γ) (ti:Types) (nt:Nat) (ops:Array Oper) (base:Nat):List Oper→Nat→St→(St→Option γ)→Option γ
 | [],i,σ,K=>K ⟨σ.slots,σ.heap,base+32*i⟩
 | o::l,i,σ,K=>L9 ops o σ (fun σ=>Uy ds call ti nt o (base+32*i) σ fun σ2=>SX ds call ti nt ops base l (i+1) σ2 K)
   (fun σ=>EF (Y4 nt o.dst) (SX ds call ti nt ops base l (i+1) ⟨D2 σ.slots o.dst (.t []),σ.heap,σ.next⟩ K))
theorem NF {M:BR}{ds:Ds γ}(hd:ds.ok) {call:Cl γ}(hc:call.ok M.P M.I) {ti:Types}{nt:Nat}{ops:Array Oper}{base:Nat}{K:St→Option γ}{P:St→Prop}(hK:∀σ,K σ=some r→P σ):
  ∀(l:List Oper) (i:Nat) (σ:St),SX ds call ti nt ops base l i σ K=some r→DM M ti nt ops base l i σ P
 | [],_,_,e=>hK _ e
 | o::l,i,σ,e=>by
  unfold SX at e
  unfold DM
  exact ND (P1:=fun σ1=>QD M ti nt o (base+32*i) σ1 fun σ2=>DM M ti nt ops base l (i+1) σ2 P) (P0:=fun σ1=>HJ nt o.dst (DM M ti nt ops base l (i+1) ⟨D2 σ1.slots o.dst (.t []),σ1.heap,σ1.next⟩ P))
   (fun e=>W9 hd hc (fun σ2 e=>NF hd hc hK l (i+1) σ2 e) e) (fun e=>by
    obtain⟨h1,e⟩:=BG e
    exact L8 h1 (NF hd hc hK l (i+1) _ e)) e
def NG (ds:Ds γ) (call:Cl γ) (ti:Types) (nt:Nat) (ops:Array Oper) (base:Nat):List Oper→Nat→St→List Fp→(St→List Fp→Option γ)→Option γ
 | [],i,σ,fps,K=>K ⟨σ.slots,σ.heap,base+32*i⟩ fps
 | o::l,i,σ,fps,K=>L9 ops o σ (fun σ=>EF (Qt o)<| EF (Y4 nt o.dst)<| bH ds call ti o (base+32*i) (Ad σ.slots) (Aa σ.heap) fun out=>
    NG ds call ti nt ops base l (i+1) ⟨D2 σ.slots o.dst out.val,E7 σ.heap out.wr,σ.next⟩ (fps++[(out.rd,out.wr.map (·.1))]) K)
   (fun σ=>EF (Y4 nt o.dst) (NG ds call ti nt ops base l (i+1) ⟨D2 σ.slots o.dst (.t []),σ.heap,σ.next⟩ (fps++[([],[])]) K))
theorem Kq {M:BR}{ds:Ds γ}(hd:ds.ok) {call:Cl γ}(hc:call.ok M.P M.I) {ti:Types}{nt:Nat}{ops:Array Oper}{base:Nat}{K:St→List Fp→Option γ}{P:St→List Fp→Prop}(hK:∀σ fps,K σ fps=some r→P σ fps):
  ∀(l:List Oper) (i:Nat) (σ:St) (fps:List Fp),NG ds call ti nt ops base l i σ fps K=some r→EE M ti nt ops base l i σ fps P
 | [],_,_,_,e=>hK _ _ e
 | o::l,i,σ,fps,e=>by
  unfold NG at e
  unfold EE
  refine ND (P1:=fun σ1=>FX o<| HJ nt o.dst<| Eh M ti o (base+32*i) (Ad σ1.slots) (Aa σ1.heap) fun out=>EE M ti nt ops base l (i+1) ⟨D2 σ1.slots o.dst out.val,E7 σ1.heap out.wr,σ1.next⟩ (fps++[(out.rd,out.wr.map (·.1))]) P)
   (P0:=fun σ1=>HJ nt o.dst (EE M ti nt ops base l (i+1) ⟨D2 σ1.slots o.dst (.t []),σ1.heap,σ1.next⟩ (fps++[([],[])]) P)) (fun e=>?_) (fun e=>?_) e
  ·obtain⟨h1,e⟩:=BG e
   obtain⟨h2,e⟩:=BG e
   exact PB h1 (L8 h2 (Vk hd hc (fun out e=>Kq hd hc hK l (i+1) _ _ e) e))
  ·obtain⟨h1,e⟩:=BG e
   exact L8 h1 (Kq hd hc hK l (i+1) _ _ e)
abbrev Kt (γ:Type):=CC→St→Option γ
abbrev Rs (γ:Type):=Nat→St→Option (Option γ)
def Qv (res:Rs γ) (q:Nat) (eb:St→Kt γ→Option γ) (K:Kt γ):Kt γ
 | .normal,σ=>(match res q σ with
  | some x=>x
  | none=>eb σ K)
 | .exit id,σ=>K (.exit id) σ
 | .ret,σ=>K .ret σ
def Qw (id:Nat) (K:Kt γ):Kt γ
 | .normal,σ=>K .normal σ
 | .exit id',σ=>(match Nat.beq id' id with
  | true=>K .normal σ
  | false=>K (.exit id') σ)
 | .ret,σ=>K .ret σ
def NH (res:Rs γ) (p:Nat) (σ:St):Option γ:=
 match res p σ with
 | some x=>x
 | none=>none
def MA (res:Rs γ) (p:Nat) (K:Kt γ):Kt γ
 | .normal,σ=>NH res p σ
 | .exit id,σ=>K (.exit id) σ
 | .ret,σ=>K .ret σ
structure Env (γ:Type) where
 ds:Ds γ
 call:Cl γ
 res:Rs γ
def told (σ:St) (c:Operand) (q:Bool):St:=
 match c with
 | .tmp t=>⟨SW σ.slots t (.v (.d (.bool q))),σ.heap,σ.next⟩
 | _=>σ
theorem Vl {σ:St}{ti:Types}{c:Operand}{q:Bool}(h:Az ti (Ad σ.slots) 0 c= .v (.d (.bool q))):told σ c q=σ:=by
 unfold told
 split
 ·rw[Qu h]
 ·rfl
def CR (E:Env γ) (ti:Types) (nt:Nat):Code→Nat→St→Kt γ→Option γ
 | .skip,_,σ,K=>K .normal σ
 | .region _ ops draw,_,σ,K=>(match draw with
  | false=>SX E.ds E.call ti nt ops σ.next ops.toList 0 σ fun σ'=>K .normal σ'
  | true=>NG E.ds E.call ti nt ops σ.next ops.toList 0 σ [] fun σ' fps=>EF (YE ops fps) (K .normal σ'))
 | .seq a b,p,σ,K=>CR E ti nt a (2*p) σ (Qv E.res (2*p+1) (fun σ K=>CR E ti nt b (2*p+1) σ K) K)
 | .cond c a b,p,σ,K=>lN (Az ti (Ad σ.slots) 0 c) fun q=>if q=true then CR E ti nt a (2*p) (told σ c true) K else CR E ti nt b (2*p+1) (told σ c false) K
 | .block id c,p,σ,K=>CR E ti nt c (2*p) σ (Qw id K)
 | .loop _,p,σ,_=>NH E.res p σ
 | .exit id,_,σ,K=>K (.exit id) σ
 | .ret,_,σ,K=>K .ret σ
 | _,_,_,_=>none
def bI (E:Env γ) (ti:Types) (nt:Nat) (c:Code) (p:Nat) (σ:St) (K:Kt γ):Option γ:=
 match c with
 | .loop b=>CR E ti nt b (2*p) σ (MA E.res p K)
 | c=>CR E ti nt c p σ K
def iL (E:Env γ) (ti:Types) (nt:Nat):Code→Nat→Kt γ→Bool→Option (Code×Nat×Kt γ)
 | .seq a b,p,K,d=>(match d with
  | false=>some (a,2*p,Qv E.res (2*p+1) (fun σ K=>CR E ti nt b (2*p+1) σ K) K)
  | true=>some (b,2*p+1,K))
 | .cond _ a b,p,K,d=>(match d with
  | false=>some (a,2*p,K)
  | true=>some (b,2*p+1,K))
 | .block id c,p,K,d=>(match d with
  | false=>some (c,2*p,Qw id K)
  | true=>none)
 | .loop c,p,K,d=>(match d with
  | false=>some (c,2*p,MA E.res p K)
  | true=>none)
 | _,_,_,_=>none
def EG (E:Env γ) (ti:Types) (nt:Nat) (body:Code) (K:Kt γ):List Bool→Option (Code×Nat×Kt γ)
 | []=>some (body,1,K)
 | b::t=>(match EG E ti nt body K t with
  | some x=>iL E ti nt x.1 x.2.1 x.2.2 b
  | none=>none)
def B0:List Bool→Nat
 | []=>1
 | b::t=>(match b with
  | true=>2*B0 t+1
  | false=>2*B0 t)
theorem Kr:∀t:List Bool,1≤B0 t
 | []=>Nat.le_refl _
 | b::t=>by have:=Kr t;cases b<;>simp only[B0]<;>omega
theorem GI:∀{s t:List Bool},B0 s=B0 t→s=t
 | [],[],_=>rfl
 | [],b::t,h=>by have:=Kr t;cases b<;>simp only[B0]at h<;>omega
 | b::s,[],h=>by have:=Kr s;cases b<;>simp only[B0]at h<;>omega
 | a::s,b::t,h=>by
  cases a<;>cases b<;>simp only[B0]at h
  ·rw[GI (s:=s) (t:=t) (by omega)]
  ·omega
  ·omega
  ·rw[GI (s:=s) (t:=t) (by omega)]
def JK (E:Env γ) (ti:Types) (nt:Nat) (body:Code) (K:Kt γ) (way:List Bool) (σ:St):Option γ:=
 match EG E ti nt body K way with
 | some x=>bI E ti nt x.1 x.2.1 σ x.2.2
 | none=>none
def SY:Nat→Nat→List Bool
 | 0,_=>[]
 | f+1,p=>match Nat.ble p 1 with
  | true=>[]
  | false=>Nat.beq (p % 2) 1::SY f (p / 2)
variable {M:BR}{ti:Types}{nt:Nat}{E:Nat→Env γ}{body:Code}{Kf:Kt γ}
def mX (E:Nat→Env γ) (ti:Types) (nt:Nat) (body:Code) (Kf:Kt γ) (r:γ) (n:Nat):Prop:=
 ∀p σ,NH (E n).res p σ=some r→∃m σ' way,m<n∧CH σ σ'∧B0 way=p∧JK (E m) ti nt body Kf way σ'=some r
theorem Fa {N:Nat}(hd:∀m,m≤N→(E m).ds.ok) (hc:∀m,m≤N→(E m).call.ok M.P M.I) (hr:∀m,m≤N→mX E ti nt body Kf r m):
  ∀(c:Code) (way:List Bool) (n:Nat) (Ko:Nat→Kt γ) (KP:CC→St→Prop),n≤N→(∀m,m≤n→EG (E m) ti nt body Kf way=some (c,B0 way,Ko m))→(∀m e σ,m≤n→Ko m e σ=some r→KP e σ)→
   (∀σ,CR (E n) ti nt c (B0 way) σ (Ko n)=some r→exec M ti nt (Bi ti M nt) c σ KP)∧(∀σ,bI (E n) ti nt c (B0 way) σ (Ko n)=some r→exec M ti nt (Bi ti M nt) c σ KP)
 | .skip,way,n,Ko,KP,hn,h1,h2=>⟨fun σ e=>h2 n _ _ (Nat.le_refl _) e,fun σ e=>h2 n _ _ (Nat.le_refl _) e⟩
 | .exit id,way,n,Ko,KP,hn,h1,h2=>⟨fun σ e=>h2 n _ _ (Nat.le_refl _) e,fun σ e=>h2 n _ _ (Nat.le_refl _) e⟩
 | .ret,way,n,Ko,KP,hn,h1,h2=>⟨fun σ e=>h2 n _ _ (Nat.le_refl _) e,fun σ e=>h2 n _ _ (Nat.le_refl _) e⟩
 | .region id ops draw,way,n,Ko,KP,hn,h1,h2=>by
  have main:∀σ,CR (E n) ti nt (.region id ops draw) (B0 way) σ (Ko n)=some r→exec M ti nt (Bi ti M nt) (.region id ops draw) σ KP:=by
   intro σ e
   cases draw with
   | false=>exact NF (hd n hn) (hc n hn) (fun σ' e=>h2 n _ _ (Nat.le_refl _) e) _ _ _ e
   | true=>
    refine Kq (hd n hn) (hc n hn) (fun σ' fps e=>?_) _ _ _ _ e
    obtain⟨g1,e⟩:=BG e
    exact⟨(M.lock_iff _).2 g1,h2 n _ _ (Nat.le_refl _) e⟩
  exact⟨main,main⟩
 | .cond c a b,way,n,Ko,KP,hn,h1,h2=>by
  have main:∀σ,CR (E n) ti nt (.cond c a b) (B0 way) σ (Ko n)=some r→exec M ti nt (Bi ti M nt) (.cond c a b) σ KP:=by
   intro σ e
   have e':lN (Az ti (Ad σ.slots) 0 c) (fun q=>if q=true then CR (E n) ti nt a (2*B0 way) (told σ c true) (Ko n)else CR (E n) ti nt b (2*B0 way+1) (told σ c false) (Ko n))=some r:=e
   show OS (Az ti (Ad σ.slots) 0 c) _
   generalize ho:Az ti (Ad σ.slots) 0 c=x at e'
   unfold lN at e'
   split at e'
   rotate_left
   ·cases e'
   rename_i q
   have e:(if q=true then CR (E n) ti nt a (2*B0 way) (told σ c true) (Ko n)else CR (E n) ti nt b (2*B0 way+1) (told σ c false) (Ko n))=some r:=e'
   cases q with
   | true=>
    rw[if_pos rfl,Vl ho]at e
    exact (Fa hd hc hr a (false::way) n Ko KP hn (fun m hm=>by show (match EG (E m) ti nt body Kf way with | some x=>_ | none=>_)=_;rw[h1 m hm];rfl) h2).1 σ e
   | false=>
    rw[if_neg Bool.false_ne_true,Vl ho]at e
    exact (Fa hd hc hr b (true::way) n Ko KP hn (fun m hm=>by show (match EG (E m) ti nt body Kf way with | some x=>_ | none=>_)=_;rw[h1 m hm];rfl) h2).1 σ e
  exact⟨main,main⟩
 | .block id c,way,n,Ko,KP,hn,h1,h2=>by
  have main:∀σ,CR (E n) ti nt (.block id c) (B0 way) σ (Ko n)=some r→exec M ti nt (Bi ti M nt) (.block id c) σ KP:=by
   intro σ e
   refine (Fa hd hc hr c (false::way) n (fun m=>Qw id (Ko m)) _ hn (fun m hm=>by show (match EG (E m) ti nt body Kf way with | some x=>_ | none=>_)=_;rw[h1 m hm];rfl) (fun m e σ hm he=>?_)).1 σ e
   cases e with
   | normal=>exact h2 m _ _ hm he
   | ret=>exact h2 m _ _ hm he
   | exit id'=>
    simp only[Qw]at he
    simp only[]
    split at he
    ·rename_i hb;simp only[hb];exact h2 m _ _ hm he
    ·rename_i hb;simp only[hb];exact h2 m _ _ hm he
  exact⟨main,main⟩
 | .loop c,way,n,Ko,KP,hn,h1,h2=>by
  have at':∀k,k≤n→∀σ σ1,CH σ σ1→bI (E k) ti nt (.loop c) (B0 way) σ1 (Ko k)=some r→exec M ti nt (Bi ti M nt) (.loop c) σ KP:=by
   intro k hk σ σ1 hw e
   refine (M.lock_iff _).2 (.inl ⟨fun j σ=>j≤n∧CR (E j) ti nt c (2*B0 way) σ (MA (E j).res (B0 way) (Ko j))=some r,k,⟨σ1,hw,hk,e⟩,?_⟩)
   rintro j σ2 ⟨hj,e2⟩
   refine (Fa hd hc hr c (false::way) j (fun m=>MA (E m).res (B0 way) (Ko m)) _ (Nat.le_trans hj hn) (fun m hm=>by show (match EG (E m) ti nt body Kf way with | some x=>_ | none=>_)=_;rw[h1 m (Nat.le_trans hm hj)];rfl) (fun m e σ hm he=>?_)).1 σ2 e2
   cases e with
   | exit id=>exact h2 m _ _ (Nat.le_trans hm hj) he
   | ret=>exact h2 m _ _ (Nat.le_trans hm hj) he
   | normal=>
    obtain⟨m',σ',way',g1,g2,g3,g4⟩:=hr m (Nat.le_trans (Nat.le_trans hm hj) hn) (B0 way) σ he
    obtain rfl:=GI g3
    unfold JK at g4
    rw[h1 m' (Nat.le_trans (Nat.le_of_lt g1) (Nat.le_trans hm hj))]at g4
    exact⟨m',σ',Nat.lt_of_lt_of_le g1 hm,g2,Nat.le_trans (Nat.le_of_lt g1) (Nat.le_trans hm hj),g4⟩
  refine⟨fun σ e=>?_,fun σ e=>at' n (Nat.le_refl _) σ σ (fun _ _ _ h=>h) e⟩
  obtain⟨m',σ',way',g1,g2,g3,g4⟩:=hr n hn (B0 way) σ e
  obtain rfl:=GI g3
  unfold JK at g4
  rw[h1 m' (Nat.le_of_lt g1)]at g4
  exact at' m' (Nat.le_of_lt g1) σ σ' g2 g4
 | .seq a b,way,n,Ko,KP,hn,h1,h2=>by
  have hb:∀m,m≤n→EG (E m) ti nt body Kf (true::way)=some (b,2*B0 way+1,Ko m):=fun m hm=>by show (match EG (E m) ti nt body Kf way with | some x=>_ | none=>_)=_;rw[h1 m hm];rfl
  have main:∀σ,CR (E n) ti nt (.seq a b) (B0 way) σ (Ko n)=some r→exec M ti nt (Bi ti M nt) (.seq a b) σ KP:=by
   intro σ e
   refine (M.lock_iff _).2 (.inr ⟨fun σ''=>exec M ti nt (Bi ti M nt) b σ'' KP,?_,fun _ h=>h⟩)
   refine (Fa hd hc hr a (false::way) n (fun m=>Qv (E m).res (2*B0 way+1) (fun σ K=>CR (E m) ti nt b (2*B0 way+1) σ K) (Ko m)) _ hn (fun m hm=>by show (match EG (E m) ti nt body Kf way with | some x=>_ | none=>_)=_;rw[h1 m hm];rfl) (fun m e σ hm he=>?_)).1 σ e
   cases e with
   | exit id=>exact h2 m _ _ hm he
   | ret=>exact h2 m _ _ hm he
   | normal=>
    simp only[Qv]at he
    split at he
    ·rename_i f hf
     obtain⟨m',σ',way',g1,g2,g3,g4⟩:=hr m (Nat.le_trans hm hn) (2*B0 way+1) σ (by unfold NH;rw[hf];exact he)
     obtain rfl:way'=true::way:=GI (by rw[g3];rfl)
     unfold JK at g4
     rw[hb m' (Nat.le_trans (Nat.le_of_lt g1) hm)]at g4
     exact⟨σ',g2,(Fa hd hc hr b (true::way) m' Ko KP (Nat.le_trans (Nat.le_trans (Nat.le_of_lt g1) hm) hn) (fun k hk=>hb k (Nat.le_trans hk (Nat.le_trans (Nat.le_of_lt g1) hm))) (fun k e σ hk=>h2 k e σ (Nat.le_trans hk (Nat.le_trans (Nat.le_of_lt g1) hm)))).2 σ' g4⟩
    ·exact⟨σ,fun _ _ _ h=>h,(Fa hd hc hr b (true::way) m Ko KP (Nat.le_trans hm hn) (fun k hk=>hb k (Nat.le_trans hk hm)) (fun k e σ hk=>h2 k e σ (Nat.le_trans hk hm))).1 σ he⟩
  exact⟨main,main⟩
 | .rangeFunc ..,_,_,_,_,_,_,_=>⟨fun _ e=>(by cases e),fun _ e=>(by cases e)⟩
 | .scope _,_,_,_,_,_,_,_=>⟨fun _ e=>(by cases e),fun _ e=>(by cases e)⟩
 | .label _,_,_,_,_,_,_,_=>⟨fun _ e=>(by cases e),fun _ e=>(by cases e)⟩
 | .goto _,_,_,_,_,_,_,_=>⟨fun _ e=>(by cases e),fun _ e=>(by cases e)⟩
 | .refuse _,_,_,_,_,_,_,_=>⟨fun _ e=>(by cases e),fun _ e=>(by cases e)⟩
end
end Go.AM
namespace Go.AM
open Go Go.RowKit
section
variable {γ:Type}{r:γ}
def SZ (ti:Types) (σ:St):List ResultVar→Option (List V1)
 | []=>some []
 | x::l=>(match (match x with
  | .tmp t=>some (Ad σ.slots t)
  | .cell a t=>Qi ti t (Ad σ.slots a) (Aa σ.heap) fun out=>some out.val)with
  | some (.v y)=>(match SZ ti σ l with
   | some xs=>some (y.norm::xs)
   | none=>none)
  | _=>none)
theorem NI {ti:Types}{σ:St}:∀{l:List ResultVar}{xs:List V1}{P:List V1→Prop},SZ ti σ l=some xs→P xs→Eo ti σ l P
 | [],_,_,e,hP=>by cases e;exact hP
 | .tmp t::l,xs,P,e,hP=>by
  unfold SZ at e
  unfold Eo
  simp only[]at e
  split at e
  ·rename_i y hy
   split at e
   ·rename_i ys hys
    cases e
    rw[Option.some.inj hy]
    exact NI hys hP
   ·cases e
  ·cases e
 | .cell a t::l,xs,P,e,hP=>by
  unfold SZ at e
  unfold Eo
  simp only[]at e
  split at e
  ·rename_i y hy
   split at e
   ·rename_i ys hys
    cases e
    refine O7 (fun out ho=>?_) hy
    rw[Option.some.inj ho]
    exact NI hys hP
   ·cases e
  ·cases e
def D5:List Id→List Id
 | []=>[]
 | i::l=>(match i with
  | .loc _=>i::D5 l
  | .ext _=>D5 l)
def GJ:Nat→Nat→List Id
 | _,0=>[]
 | j,n+1=>.ext j::GJ (j+1) n
def NJ (nm:List Id) (i:Id):Id:=match i with
 | .ext j=>.ext j
 | .loc _=>(match iJ nm 0 i with
  | some k=>.loc k
  | none=>i)
def LY (nm:List Id) (N:Nat) (i:Id):Bool:=Id.beq (Ce nm N (NJ nm i)) i
def Vm (ti:Types) (rs:List ResultVar) (np:Nat) (σ:St) (fin:fE→Option γ):Option γ:=
 match SZ ti σ rs with
 | none=>none
 | some xs=>(match D4 (Aa σ.heap) (GJ 0 np),D4 (Aa σ.heap) (D5 (Bw (Aa σ.heap) 100 (CT xs++GJ 0 np) []))with
  | some ps,some ns=>EF (nodupB (D5 (Bw (Aa σ.heap) 100 (CT xs++GJ 0 np) [])))<|
    EF (lM (LY (D5 (Bw (Aa σ.heap) 100 (CT xs++GJ 0 np) [])) σ.next) (SH xs))<| EF (B3 (OD (LY (D5 (Bw (Aa σ.heap) 100 (CT xs++GJ 0 np) [])) σ.next)) ps)<|
    EF (B3 (OD (LY (D5 (Bw (Aa σ.heap) 100 (CT xs++GJ 0 np) [])) σ.next)) ns)<|
    fin ⟨(SH xs).BM (NJ (D5 (Bw (Aa σ.heap) 100 (CT xs++GJ 0 np) []))),ps.map (AF.BM (NJ (D5 (Bw (Aa σ.heap) 100 (CT xs++GJ 0 np) [])))),ns.map (AF.BM (NJ (D5 (Bw (Aa σ.heap) 100 (CT xs++GJ 0 np) []))))⟩
  | _,_=>none)
theorem Ks {h:Heap}{N:Nat}{nm:List Id}:∀{n j:Nat}{ps:List AF},D4 h (GJ j n)=some ps→B3 (OD (LY nm N)) ps=true→EW h (Ce nm N) (ps.map (AF.BM (NJ nm))) j
 | 0,j,ps,e,_=>by cases e;trivial
 | n+1,j,ps,e,hb=>by
  unfold GJ D4 at e
  split at e
  ·rename_i o ho
   split at e
   ·rename_i r' hr
    cases e
    unfold B3 at hb
    split at hb
    ·rename_i h1
     show (match Mp (o.BM (NJ nm))with | true=>_ | false=>_)
     split
     ·exact Ks hr hb
     ·exact⟨by rw[L6 (p:=LY nm N) (fun i hi=>Id.beq_iff.1 hi) h1];exact ho,Ks hr hb⟩
    ·cases hb
   ·cases e
  ·cases e
theorem Sa {h:Heap}{N:Nat}{nm:List Id}:∀{l:List Id}{ns:List AF},D4 h l=some ns→B3 (OD (LY nm N)) ns=true→Jj h (Ce nm N) (ns.map (AF.BM (NJ nm))) l
 | [],ns,e,_=>by cases e;trivial
 | i::l,ns,e,hb=>by
  unfold D4 at e
  split at e
  ·rename_i o ho
   split at e
   ·rename_i r' hr
    cases e
    unfold B3 at hb
    split at hb
    ·rename_i h1
     exact⟨by rw[L6 (p:=LY nm N) (fun i hi=>Id.beq_iff.1 hi) h1];exact ho,Sa hr hb⟩
    ·cases hb
   ·cases e
  ·cases e
theorem Ku {post:List AF}:∀l:List Id,FA post (D5 l)
 | []=>trivial
 | .loc _::l=>Ku l
 | .ext _::l=>Ku l
theorem Sb {ti:Types}{rs:List ResultVar}{np:Nat}{σ:St}{fin:fE→Option γ}(e:Vm ti rs np σ fin=some r):∃res post new,fin ⟨res,post,new⟩=some r∧Lr ti rs σ res post new:=by
 unfold Vm at e
 split at e
 ·cases e
 ·rename_i xs hxs
  generalize hm:Bw (Aa σ.heap) 100 (CT xs++GJ 0 np) []=m at e
  split at e
  ·rename_i ps ns hp hn
   obtain⟨h1,e⟩:=BG e
   obtain⟨h2,e⟩:=BG e
   obtain⟨h3,e⟩:=BG e
   obtain⟨h4,e⟩:=BG e
   exact⟨_,_,_,e,[],NI hxs ⟨D5 m,h1,(UZ (p:=LY (D5 m) σ.next) (fun i hi=>Id.beq_iff.1 hi) h2).symm,Ks hp h3,Sa hn h4,Ku _⟩⟩
  ·cases e
inductive Lf where
 | I (z:Int)
 | B (b:Bool)
 | S (s:ByteArray)
 | L (l:List D)
inductive Sk where
 | int (k:IntKind)
 | bool
 | str
 | list (ag:Bool) (sz:Nat)
 | ci (k:IntKind) (z:Int)
 | cb (b:Bool)
 | nils (ag:Bool) (sz:Nat)
 | nilp
 | ptr (i:Id) (o:Nat)
 | fn (f:Nat) (cap:List Id)
 | cs (s:ByteArray)
 | el (ag:Bool) (sz:Nat)
 | nilf
inductive Jo where
 | one (s:Sk)
 | agg (l:List Sk)
 | mix (l:List Sk)
abbrev Sk.z:Sk:=.int .i64
abbrev Sk.y:Sk:=.int .u8
abbrev Sk.k (z:Int):Sk:=.ci .i64 z
abbrev Sk.q (n:Nat):Sk:=.list true n
abbrev Sk.f (n:Nat):Sk:=.list false n
abbrev Jo.z:Jo:=.one .z
abbrev Jo.y:Jo:=.one .y
abbrev Jo.b:Jo:=.one .bool
abbrev Jo.s:Jo:=.one .str
abbrev Jo.k (z:Int):Jo:=.one (.k z)
abbrev Jo.q (n:Nat):Jo:=.one (.q n)
abbrev Jo.f (n:Nat):Jo:=.one (.f n)
abbrev Jo.p (i:Id) (n:Nat):Jo:=.one (.ptr i n)
def Vn:List Id→List Id→Bool
 | [],[]=>true
 | i::a,j::b=>(match Id.beq i j with
  | true=>Vn a b
  | false=>false)
 | _,_=>false
theorem Sc:∀{a b:List Id},Vn a b=true→a=b
 | [],[],_=>rfl
 | i::a,j::b,h=>by
  unfold Vn at h
  split at h
  ·rename_i hb;rw[Id.beq_iff.1 hb,Sc h]
  ·cases h
 | [],_::_,h=>by cases h
 | _::_,[],h=>by cases h
def mY:IntKind→IntKind→Bool:=fun a b=>decide (a=b)
def tA:Int→Int→Bool
 | .ofNat a,.ofNat b=>Nat.beq a b
 | .negSucc a,.negSucc b=>Nat.beq a b
 | _,_=>false
theorem iM {a b:Int}(h:tA a b=true):a=b:=by
 cases a<;>cases b<;>simp only[tA]at h
 ·rw[Nat.eq_of_beq_eq_true h]
 ·cases h
 ·cases h
 ·rw[Nat.eq_of_beq_eq_true h]
def mZ:List UInt8→List UInt8→Bool
 | [],[]=>true
 | a::l,b::m=>(match Nat.beq a.toNat b.toNat with
  | true=>mZ l m
  | false=>false)
 | _,_=>false
theorem Y5:∀{a b:List UInt8},mZ a b=true→a=b
 | [],[],_=>rfl
 | a::l,b::m,h=>by
  unfold mZ at h
  split at h
  ·rename_i hb;rw[UInt8.toNat_inj.1 (Nat.eq_of_beq_eq_true hb),Y5 h]
  ·cases h
 | [],_::_,h=>by cases h
 | _::_,[],h=>by cases h
theorem bJ {a b:ByteArray}(h:mZ a.data.toList b.data.toList=true):a=b:=by
 obtain⟨a⟩:=a
 obtain⟨b⟩:=b
 rw[show a=b from Array.ext' (Y5 h)]
def Ih (b:Bool) (x:Option (List Lf)):Option (List Lf):=match b with
 | true=>x
 | false=>none
theorem Bn {b:Bool}{x:Option (List Lf)}{l:List Lf}(h:Ih b x=some l):b=true∧x=some l:=by
 cases b
 ·cases h
 ·exact⟨rfl,h⟩
def Y6:Sk→CV→Option (List Lf)
 | .int k,.d (.int k' z)=>Ih (mY k k') (some [.I z])
 | .bool,.d (.bool b)=>some [.B b]
 | .str,.d (.str s)=>some [.S s]
 | .list ag sz,.d (.list ag' sz' l)=>Ih (ag==ag') (Ih (Nat.beq sz sz') (some [.L l]))
 | .ci k z,.d (.int k' z')=>Ih (mY k k') (Ih (tA z z') (some []))
 | .cb b,.d (.bool b')=>Ih (b==b') (some [])
 | .nils ag sz,.nils ag' sz'=>Ih (ag==ag') (Ih (Nat.beq sz sz') (some []))
 | .nilp,.nilp=>some []
 | .ptr i o,.ptr i' o'=>Ih (Id.beq i i') (Ih (Nat.beq o o') (some []))
 | .fn f c,.fn f' c'=>Ih (Nat.beq f f') (Ih (Vn c c') (some []))
 | .cs s,.d (.str s')=>Ih (mZ s.data.toList s'.data.toList) (some [])
 | .el ag sz,.d (.list ag' sz' [])=>Ih (ag==ag') (Ih (Nat.beq sz sz') (some []))
 | .nilf,.nilf=>some []
 | _,_=>none
def iP:Sk→List Lf→Option (CV×List Lf)
 | .int k,.I z::r=>some (.d (.int k z),r)
 | .bool,.B b::r=>some (.d (.bool b),r)
 | .str,.S s::r=>some (.d (.str s),r)
 | .list ag sz,.L l::r=>some (.d (.list ag sz l),r)
 | .ci k z,r=>some (.d (.int k z),r)
 | .cb b,r=>some (.d (.bool b),r)
 | .nils ag sz,r=>some (.nils ag sz,r)
 | .nilp,r=>some (.nilp,r)
 | .ptr i o,r=>some (.ptr i o,r)
 | .fn f c,r=>some (.fn f c,r)
 | .cs s,r=>some (.d (.str s),r)
 | .el ag sz,r=>some (.d (.list ag sz []),r)
 | .nilf,r=>some (.nilf,r)
 | _,_=>none
theorem Qx {s:Sk}{c:CV}{l:List Lf}(h:Y6 s c=some l) (rest:List Lf):iP s (l++rest)=some (c,rest):=by
 unfold Y6 at h
 split at h
 ·obtain⟨h1,h⟩:=Bn h
  cases h
  rw[show _=_ from of_decide_eq_true h1];rfl
 ·cases h;rfl
 ·cases h;rfl
 ·obtain⟨h1,h⟩:=Bn h
  obtain⟨h2,h⟩:=Bn h
  cases h
  rw[eq_of_beq h1,Nat.eq_of_beq_eq_true h2];rfl
 ·obtain⟨h1,h⟩:=Bn h
  obtain⟨h2,h⟩:=Bn h
  cases h
  rw[show _=_ from of_decide_eq_true h1,iM h2];rfl
 ·obtain⟨h1,h⟩:=Bn h
  cases h
  rw[eq_of_beq h1];rfl
 ·obtain⟨h1,h⟩:=Bn h
  obtain⟨h2,h⟩:=Bn h
  cases h
  rw[eq_of_beq h1,Nat.eq_of_beq_eq_true h2];rfl
 ·cases h;rfl
 ·obtain⟨h1,h⟩:=Bn h
  obtain⟨h2,h⟩:=Bn h
  cases h
  rw[Id.beq_iff.1 h1,Nat.eq_of_beq_eq_true h2];rfl
 ·obtain⟨h1,h⟩:=Bn h
  obtain⟨h2,h⟩:=Bn h
  cases h
  rw[Nat.eq_of_beq_eq_true h1,Sc h2];rfl
 ·obtain⟨h1,h⟩:=Bn h
  cases h
  rw[bJ h1];rfl
 ·obtain⟨h1,h⟩:=Bn h
  obtain⟨h2,h⟩:=Bn h
  cases h
  rw[eq_of_beq h1,Nat.eq_of_beq_eq_true h2];rfl
 ·cases h;rfl
 ·cases h
def PD:List Sk→List CV→Option (List Lf)
 | [],[]=>some []
 | s::ss,c::cs=>(match Y6 s c with
  | some l=>(match PD ss cs with
   | some m=>some (l++m)
   | none=>none)
  | none=>none)
 | _,_=>none
def PE:List Sk→List Lf→Option (List CV×List Lf)
 | [],r=>some ([],r)
 | s::ss,r=>(match iP s r with
  | some (c,r)=>(match PE ss r with
   | some (cs,r)=>some (c::cs,r)
   | none=>none)
  | none=>none)
theorem Hv:∀{s:List Sk}{c:List CV}{l:List Lf},PD s c=some l→∀rest,PE s (l++rest)=some (c,rest)
 | [],[],l,h,rest=>by cases h;rfl
 | s::ss,c::cs,l,h,rest=>by
  unfold PD at h
  split at h
  ·rename_i a ha
   split at h
   ·rename_i b hb
    cases h
    unfold PE
    rw[List.append_assoc,Qx ha]
    simp only[]
    rw[Hv hb]
   ·cases h
  ·cases h
 | [],_::_,_,h,_=>by cases h
 | _::_,[],_,h,_=>by cases h
def bK:List CV→Option (List D)
 | []=>some []
 | .d x::r=>(match bK r with
  | some l=>some (x::l)
  | none=>none)
 | _::_=>none
theorem Sd:∀l:List D,bK (l.map CV.d)=some l
 | []=>rfl
 | x::l=>by show (match bK (l.map CV.d)with | some l=>some (x::l) | none=>none)=_;rw[Sd l]
def bL:Jo→AV→Option (List Lf)
 | .one s,.v (.d (.agg _))=>none
 | .one s,.v (.d x)=>Y6 s (.d x)
 | .one s,.v (.c (.d _))=>none
 | .one s,.v (.c x)=>Y6 s x
 | .agg ss,.v (.d (.agg cs))=>PD ss (cs.map CV.d)
 | .mix ss,.v (.agg cs)=>PD ss cs
 | _,_=>none
def Uz:Jo→List Lf→Option (AV×List Lf)
 | .one s,r=>(match iP s r with
  | some (.d x,r)=>some (.v (.d x),r)
  | some (c,r)=>some (.v (.c c),r)
  | none=>none)
 | .agg ss,r=>(match PE ss r with
  | some (cs,r)=>(match bK cs with
   | some ds=>some (.v (.d (.agg ds)),r)
   | none=>none)
  | none=>none)
 | .mix ss,r=>(match PE ss r with
  | some (cs,r)=>some (.v (.agg cs),r)
  | none=>none)
theorem Se {s:Jo}{c:AV}{l:List Lf}(h:bL s c=some l) (rest:List Lf):Uz s (l++rest)=some (c,rest):=by
 unfold bL at h
 split at h
 ·cases h
 ·unfold Uz;simp only[];rw[Qx h]
 ·cases h
 ·rename_i x hx
  unfold Uz
  simp only[]
  rw[Qx h]
  cases x<;>first | rfl | exact absurd rfl (hx _)
 ·unfold Uz;simp only[];rw[Hv h];simp only[];rw[Sd]
 ·unfold Uz;simp only[];rw[Hv h]
 ·cases h
end
end Go.AM
