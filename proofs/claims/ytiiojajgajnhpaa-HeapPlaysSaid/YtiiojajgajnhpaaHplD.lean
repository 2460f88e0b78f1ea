/- Part of a proof. No condition. (Part 4: AmQ, AmS, AmP, AmAb, AmU, AmUB, YtiiojajgajnhpaaTab, YtiiojajgajnhpaaHy, YtiiojajgajnhpaaHk, AmKE, AmOB, AmX, AmJB, YtiiojajgajnhpaaFo, YtiiojajgajnhpaaXDs, YtiiojajgajnhpaaX141, YtiiojajgajnhpaaX95, YtiiojajgajnhpaaX94x1, YtiiojajgajnhpaaX97, YtiiojajgajnhpaaX32, YtiiojajgajnhpaaX97x1, Ytiiojajgajn.) -/
import Derived.DataReads
import Derived.Test.YtiiojajgajnhpaaProg
import Derived.KernelRfl
import Derived.Test.YtiiojajgajnhpaaHplC
set_option linter.unusedVariables false
set_option linter.unusedSimpArgs false
namespace Go.AM
open Go Go.RowKit
inductive Shape (ti:Types):TypeId→List D→Prop where
 | bool {t x} (b:Bool) (h:ti t=some x) (hd:x.desc= .bool):Shape ti t [.bool b]
 | int {t x k} (n:Int) (h:ti t=some x) (hd:x.desc= .int k) (hw:(Lit.int k n).wf=true):Shape ti t [.int k n]
 | str {t x} (s:ByteArray) (h:ti t=some x) (hd:x.desc= .string) (hs:s.size≤maxLen):Shape ti t [.str s]
 | slice {t x e y} (rows:List D) (h:ti t=some x) (hd:x.desc= .slice e) (he:ti e=some y) (hl:rows.length≤maxLen)
   (hf:∀r∈rows,r.fits (rowD y.desc) y.size) (hr:∀r∈rows,Shape ti e r.cells):Shape ti t [.list (rowD y.desc) y.size rows]
 | struct {t x fs} (ds:List D) (h:ti t=some x) (hd:x.desc= .struct fs) (hl:ds.length=x.size) (hg:∀c∈ds,c.isAgg=false)
   (hr:∀f∈fs.toList,∀y,ti f.type=some y→Shape ti f.type ((ds.drop f.offset).take y.size)):Shape ti t ds
def chain (ti:Types):Nat→List Field→Option Nat
 | off,[]=>some off
 | off,f::r=>if f.offset=off then match ti f.type with
   | some y=>chain ti (off+y.size) r
   | none=>none
  else none
theorem chain_le {ti:Types}:∀{fs:List Field}{off tot:Nat},chain ti off fs=some tot→off≤tot∧∀f∈fs,off≤f.offset∧∃y,ti f.type=some y
 | [],off,tot,h=>by simp[chain]at h;subst h;exact⟨Nat.le_refl _,by simp⟩
 | f::fs,off,tot,h=>by
  unfold chain at h
  split at h
  ·rename_i ho
   split at h
   ·rename_i y hy
    obtain⟨h1,h2⟩:=chain_le h
    refine⟨by omega,fun f' hf'=>?_⟩
    rcases List.mem_cons.1 hf' with rfl | hf'
    ·exact⟨by omega,y,hy⟩
    ·exact⟨by have:=(h2 f' hf').1;omega,(h2 f' hf').2⟩
   ·simp at h
  ·simp at h
def plainB (ti:Types) (T:List TypeId):Bool:=
 T.all fun t=>match ti t with
  | some x=>match x.desc with
   | .bool | .int _ | .string=>x.size==1
   | .slice e=>T.contains e&&(x.size==1)&&(match ti e with
    | some y=>decide (0<y.size)&&(rowD y.desc || y.size==1)
    | none=>false)
   | .struct fs=>(chain ti 0 fs.toList==some x.size)&&fs.toList.all fun f=>T.contains f.type
   | _=>false
  | none=>false
theorem choose_list {Q:Nat→D→Prop}:∀n,(∀i,i<n→∃r,Q i r)→∃l:List D,l.length=n∧∀i r,l[i]?=some r→Q i r
 | 0,_=>⟨[],rfl,by simp⟩
 | n+1,h=>by
  obtain⟨l,h1,h2⟩:=choose_list n (fun i hi=>h i (by omega))
  obtain⟨r,hr⟩:=h n (by omega)
  refine⟨l++[r],by simp[h1],fun i r' hi=>?_⟩
  by_cases hl:i<l.length
  ·rw[List.getElem?_append_left hl]at hi;exact h2 i r' hi
  ·rw[List.getElem?_append_right (by omega)]at hi
   have hin:i=n:=by
    by_cases he:i=n
    ·exact he
    ·rw[List.getElem?_eq_none (by simp;omega)]at hi;simp at hi
   subst hin
   rw[h1]at hi
   simp at hi
   subst hi
   exact hr
def RelDs (w:World) (Z:Zone) (ds:List D) (cs:List Value):Prop:=
 ds.length=cs.length∧(∀c∈ds,c.isAgg=false)∧∀(j:Nat) c u,ds[j]?=some c→cs[j]?=some u→RelD w Z c u
theorem relDs_one {w:World}{Z:Zone}{c:D}{u:Value}(hc:c.isAgg=false) (h:RelD w Z c u):RelDs w Z [c] [u]:=
 ⟨rfl,by simpa using hc,fun j c' u' h1 h2=>by
  match j with
  | 0=>simp at h1 h2;subst h1;subst h2;exact h
  | j+1=>simp at h1⟩
theorem conv_fields {w:World}{Z:Zone}{ti:Types}{cs:List Value}:∀(fs:List Field) (off tot:Nat),chain ti off fs=some tot→tot≤cs.length→
  (∀f∈fs,∀y,ti f.type=some y→∃ds,Shape ti f.type ds∧RelDs w Z ds ((cs.drop f.offset).take y.size))→
  ∃ds,RelDs w Z ds ((cs.drop off).take (tot - off))∧∀f∈fs,∀y,ti f.type=some y→Shape ti f.type ((ds.drop (f.offset - off)).take y.size)
 | [],off,tot,h,_,_=>by
  simp[chain]at h
  subst h
  exact⟨[],⟨by simp,by simp,by simp⟩,by simp⟩
 | f::fs,off,tot,h,hl,hx=>by
  unfold chain at h
  split at h
  ·rename_i ho
   split at h
   ·rename_i y hy
    obtain⟨hle,hoff⟩:=chain_le h
    obtain⟨ds',⟨a1,a2,a3⟩,hs'⟩:=conv_fields fs _ tot h hl (fun f' hf'=>hx f' (List.mem_cons_of_mem _ hf'))
    obtain⟨p,hp,b1,b2,b3⟩:=hx f (by simp) y hy
    rw[ho]at b1 b3
    have hpl:p.length=y.size:=by rw[b1];simp;omega
    refine⟨p++ds',⟨?_,?_,?_⟩,fun f' hf' y' hy'=>?_⟩
    ·simp at a1 ⊢;omega
    ·intro c hc
     rcases List.mem_append.1 hc with hc | hc
     ·exact b2 c hc
     ·exact a2 c hc
    ·intro j c u hc hu
     rw[List.getElem?_take]at hu
     split at hu
     ·rename_i hj
      rw[List.getElem?_drop]at hu
      by_cases hjp:j<p.length
      ·rw[List.getElem?_append_left hjp]at hc
       refine b3 j c u hc ?_
       rw[List.getElem?_take,if_pos (by omega),List.getElem?_drop];exact hu
      ·rw[List.getElem?_append_right (by omega)]at hc
       refine a3 (j - p.length) c u hc ?_
       rw[List.getElem?_take,if_pos (by omega),List.getElem?_drop,←hu]
       congr 1
       omega
     ·simp at hu
    ·rcases List.mem_cons.1 hf' with rfl | hf'
     ·rw[hy]at hy'
      obtain rfl:y=y':=by simpa using hy'
      rw[ho,Nat.sub_self,List.drop_zero,List.take_append_of_le_length (by omega),List.take_of_length_le (by omega)]
      exact hp
     ·have h1:=(hoff f' hf').1
      have:=hs' f' hf' y' hy'
      rw[List.drop_append,List.drop_of_length_le (by omega),List.nil_append]
      rw[show f'.offset - off - p.length=f'.offset - (off+y.size)from by omega]
      exact this
   ·simp at h
  ·simp at h
theorem cellsOf_ti {P:Program}{ti:Types}(hti:TIok P ti) {t:TypeId}{x:TI}(h:ti t=some x):P.cellsOf t=x.size:=by
 obtain⟨_,i,h1,h2,_⟩:=hti t x h
 simp[Program.cellsOf,h1,h2]
theorem conv {H:Type}{enc:TypeId×Value→H}{P:Program}{ti:Types}(hti:TIok P ti) {T:List TypeId}(hT:plainB ti T=true) {w:World}{base:Nat}{spare:Nat→Bool}{held:Bool}{Z:Zone}(hZ:∀b o,¬Z b o):
  ∀(fuel:Nat) (t:TypeId) (cs:List Value) (d:DataW H) (ps:List MemPlace),t∈T→DataW.trod enc P w base spare held fuel t cs=some (d,ps)→∃ds,Shape ti t ds∧RelDs w Z ds cs
 | 0,t,cs,d,ps,_,h=>by simp[DataW.trod]at h
 | fuel+1,t,cs,d,ps,ht,h=>by
  have hp:=hT
  unfold plainB at hp
  have hp:=List.all_eq_true.1 hp t ht
  split at hp
  ·rename_i x hx
   have hu:=(hti t x hx).1
   have hcs:=cellsOf_ti hti hx
   split at hp
   ·rename_i hd
    rw[hd]at hu
    unfold DataW.trod at h
    simp only[hu]at h
    split at h<;>simp_all
    exact⟨_,.bool _ hx hd,relDs_one rfl (.bool _)⟩
   ·rename_i k hd
    rw[hd]at hu
    unfold DataW.trod at h
    simp only[hu]at h
    split at h<;>simp_all
    obtain⟨⟨rfl,hw⟩,_⟩:=h
    exact⟨_,.int _ hx hd hw,relDs_one rfl (.int _ _)⟩
   ·rename_i hd
    rw[hd]at hu
    unfold DataW.trod at h
    simp only[hu]at h
    split at h<;>simp_all
    exact⟨_,.str _ hx hd h.1,relDs_one rfl (.str _)⟩
   ·rename_i e hd
    rw[hd]at hu
    simp only[Bool.and_eq_true]at hp
    obtain⟨⟨he,_⟩,hp⟩:=hp
    have he:e∈T:=by simpa using he
    split at hp
    ·rename_i y hy
     simp only[Bool.and_eq_true,decide_eq_true_eq]at hp
     have hey:=cellsOf_ti hti hy
     unfold DataW.trod at h
     simp only[hu]at h
     split at h<;>rename_i hq<;>try cases hq
     ·exact⟨_,.slice [] hx hd hy (by simp) (by simp) (by simp),relDs_one rfl (relD_nil _ _)⟩
     ·rename_i a len cap
      rw[hey]at h
      split at h
      ·rename_i hg
       obtain⟨elems,he1,_⟩:=Option.bind_eq_some_iff.1 h
       have hel:elems.length=len:=by simpa using mapM_some_length he1
       have each:∀i,i<len→∃cs' ds,(w.cells? base (a.add (i*y.size)) y.size)=some cs'∧Shape ti e ds∧RelDs w Z ds cs':=by
        intro i hi
        have h1:=mapM_some_get he1 i i (by simp[hi])
        rw[List.getElem?_eq_getElem (by omega:i<elems.length)]at h1
        obtain⟨cs',h2,h3⟩:=Option.bind_eq_some_iff.1 h1
        obtain⟨ds,h4,h5⟩:=conv hti hT hZ fuel e cs' _ _ he h3
        exact⟨cs',ds,h2,h4,h5⟩
       have hspot:0<len→a.spot=none:=by
        intro hl
        obtain⟨cs',_,h2,_⟩:=each 0 hl
        obtain⟨_,h3,h4⟩:=World.cells?_some h2
        have h5:=h4 0 hp.1
        rw[List.getElem?_eq_getElem (by omega)]at h5
        simp only[Nat.zero_mul,Addr.add,if_true]at h5
        unfold World.cell? at h5
        split at h5
        ·split at h5
         ·cases h5
         ·rename_i hs;simpa using hs
        ·cases h5
       obtain⟨rows,hrl,hrows⟩:=choose_list (Q:=fun i r=>r.fits (rowD y.desc) y.size∧Shape ti e r.cells∧∀(j:Nat) c,r.cells[j]?=some c→
         ∃u,w.cell? ⟨a.block,a.off+(i*y.size+j),none⟩=some u∧RelD w Z c u) len (fun i hi=>by
        obtain⟨cs',ds,h2,h3,h4⟩:=each i hi
        obtain⟨_,h5,h6⟩:=World.cells?_some h2
        have hdl:ds.length=y.size:=h4.1.trans h5
        obtain⟨r,hr1,hr2⟩:∃r:D,r.cells=ds∧r.isAgg=rowD y.desc:=by
         cases hrw:rowD y.desc with
         | true=>exact⟨.agg ds,rfl,rfl⟩
         | false=>
          rw[hrw]at hp
          have:y.size=1:=by simpa using hp.2
          obtain⟨c,rfl⟩:=List.length_eq_one_iff.1 (hdl.trans this)
          have hc:=h4.2.1 c (by simp)
          exact⟨c,by cases c<;>first | rfl | simp[D.isAgg]at hc,hc⟩
        refine⟨r,⟨hr2,by rw[hr1,hdl],by rw[hr1];exact h4.2.1⟩,by rw[hr1];exact h3,fun j c hc=>?_⟩
        rw[hr1]at hc
        have hj:j<y.size:=by rw[←hdl];exact (List.getElem?_eq_some_iff.1 hc).1
        have h7:=h6 j hj
        have ha:(a.add (i*y.size)).add j=⟨a.block,a.off+(i*y.size+j),none⟩:=by
         have:=hspot (by omega)
         obtain⟨ab,ao,asp⟩:=a
         simp only at this
         subst this
         unfold Addr.add
         split<;>split<;>simp_all<;>omega
        rw[ha,List.getElem?_eq_getElem (by omega:j<cs'.length)]at h7
        exact⟨_,h7,h4.2.2 j c _ hc (List.getElem?_eq_getElem (by omega:j<cs'.length))⟩)
       refine⟨_,.slice rows hx hd hy (by omega) (fun r hr=>?_) (fun r hr=>?_),relDs_one rfl ?_⟩
       ·obtain⟨i,hi⟩:=List.mem_iff_getElem?.1 hr
        exact (hrows i r hi).1
       ·obtain⟨i,hi⟩:=List.mem_iff_getElem?.1 hr
        exact (hrows i r hi).2.1
       ·rw[←hrl]
        refine .list _ _ rows (some a) cap a.block a.off (fun i j=>(w.cell? ⟨a.block,a.off+(i*y.size+j),none⟩).getD undef) (by omega) hg.2.2 (fun r hr=>?_) (fun hne=>?_) (fun i r j c hr hc=>?_) (fun i r j c hr hc=>?_)
        ·obtain⟨i,hi⟩:=List.mem_iff_getElem?.1 hr
         exact (hrows i r hi).1
        ·have:=hspot (by rw[←hrl];exact List.length_pos_iff.2 hne)
         obtain⟨ab,ao,asp⟩:=a
         simp only at this
         rw[this]
        ·obtain⟨u,hu1,_⟩:=(hrows i r hr).2.2 j c hc
         rw[hu1]
         exact⟨rfl,hZ _ _⟩
        ·obtain⟨u,hu1,hu2⟩:=(hrows i r hr).2.2 j c hc
         rw[hu1]
         exact hu2
      ·cases h
     ·cases h
    ·simp at hp
   ·rename_i fs hd
    rw[hd]at hu
    simp only[Bool.and_eq_true,beq_iff_eq]at hp
    obtain⟨hch,hfs⟩:=hp
    unfold DataW.trod at h
    simp only[hu]at h
    split at h<;>rename_i hq<;>try cases hq
    ·obtain⟨xs,hxs,_⟩:=Option.map_eq_some_iff.1 h
     obtain⟨ds,h1,h2⟩:=conv_fields (w:=w) (Z:=Z) (cs:=cs) fs.toList 0 x.size hch (by omega) (fun f hf y hy=>by
      obtain⟨i,hi⟩:=List.mem_iff_getElem?.1 hf
      have h3:=mapM_some_get hxs i f hi
      have hil:i<xs.length:=by rw[mapM_some_length hxs];exact (List.getElem?_eq_some_iff.1 hi).1
      rw[List.getElem?_eq_getElem hil,cellsOf_ti hti hy]at h3
      have hfT:f.type∈T:=by simpa using List.all_eq_true.1 hfs f hf
      exact conv hti hT hZ fuel f.type _ _ _ hfT h3)
     rw[List.drop_zero,Nat.sub_zero,List.take_of_length_le (by omega)]at h1
     exact⟨ds,.struct ds hx hd (by rw[h1.1];omega) h1.2.1 (fun f hf y hy=>by simpa using h2 f hf y hy),h1⟩
    ·cases h
   ·simp at hp
  ·simp at hp
end Go.AM
namespace Go.AM
open Go
structure AllR (L L':List D) (r:Nat→Bool) (R:Bool):Prop where
 len:L.length≠L'.length→R=false
 bad:∀i,i<L.length→i<L'.length→r i=false→R=false
 good:L.length=L'.length→(∀i,i<L.length→r i=true)→R=true
theorem AllR.of (L L':List D) (r:Nat→Bool):AllR L L' r (decide (L.length=L'.length∧∀i,i<L.length→r i=true)) where
 len h:=by simp[h]
 bad i h1 h2 h:=by
  rw[decide_eq_false_iff_not]
  rintro⟨_,h3⟩
  rw[h3 i h1]at h
  cases h
 good h1 h2:=by rw[decide_eq_true_iff];exact⟨h1,h2⟩
section
variable {ti:Types}{t e:TypeId}{x y:TI}{ds:List D}{fs:Array Field}{k:IntKind}
theorem Shape.int_inv (h:Shape ti t ds) (hx:ti t=some x) (hd:x.desc= .int k):∃n,ds=[.int k n]∧(Lit.int k n).wf=true:=by
 cases h<;>simp_all
theorem Shape.str_inv (h:Shape ti t ds) (hx:ti t=some x) (hd:x.desc= .string):∃s,ds=[.str s]∧s.size≤maxLen:=by
 cases h<;>simp_all
theorem Shape.slice_inv (h:Shape ti t ds) (hx:ti t=some x) (hd:x.desc= .slice e) (hy:ti e=some y):
  ∃rows,ds=[.list (rowD y.desc) y.size rows]∧rows.length≤maxLen∧(∀r∈rows,r.fits (rowD y.desc) y.size)∧∀r∈rows,Shape ti e r.cells:=by
 cases h with
 | slice rows h1 h2 h3 h4 h5 h6=>
  rw[hx]at h1
  obtain rfl:=Option.some.inj h1
  rw[hd]at h2
  obtain rfl:=TypeDesc.slice.inj h2
  rw[hy]at h3
  obtain rfl:=Option.some.inj h3
  exact⟨rows,rfl,h4,h5,h6⟩
 | _=>simp_all
theorem Shape.struct_inv (h:Shape ti t ds) (hx:ti t=some x) (hd:x.desc= .struct fs):
  ds.length=x.size∧(∀c∈ds,c.isAgg=false)∧∀f∈fs.toList,∀y,ti f.type=some y→Shape ti f.type ((ds.drop f.offset).take y.size):=by
 cases h with
 | struct ds h1 h2 h3 h4 h5=>
  rw[hx]at h1
  obtain rfl:=Option.some.inj h1
  rw[hd]at h2
  obtain rfl:=TypeDesc.struct.inj h2
  exact⟨h3,h4,h5⟩
 | _=>simp_all
end
open Classical in
theorem AllR.same (L L':List D):AllR L L' (fun i=>decide (L[i]?=L'[i]?)) (decide (L=L')) where
 len h:=by rw[decide_eq_false_iff_not];rintro rfl;exact h rfl
 bad i h1 h2 h:=by
  rw[decide_eq_false_iff_not]at h ⊢
  rintro rfl;exact h rfl
 good h1 h2:=by
  rw[decide_eq_true_iff]
  refine List.ext_getElem? fun i=>?_
  by_cases hi:i<L.length
  ·exact of_decide_eq_true (h2 i hi)
  ·rw[List.getElem?_eq_none (by omega),List.getElem?_eq_none (by omega)]
def tyD (ti:Types) (t:TypeId):TI:=
 match ti t with
 | some x=>x
 | none=>⟨.bool,0,0,.bool false,[]⟩
theorem bytes_eq {a b:ByteArray}:(a.toList==b.toList)=true↔a=b:=by
 constructor
 ·intro h
  have h:=beq_iff_eq.1 h
  rw[ByteArray.toList_eq,ByteArray.toList_eq]at h
  exact ByteArray.ext (Array.ext' h)
 ·rintro rfl;simp
theorem bytes_ne {a b:ByteArray}:(a.toList==b.toList)=false↔a≠b:=by
 rw[←Bool.not_eq_true,bytes_eq]
end Go.AM
namespace Go.AM
open Go
section
variable {α γ:Type}
def letF (z:Int) (k:Int→Option γ):Option γ:=k z
theorem letF_inv {z:Int}{k:Int→Option γ}{r:γ}(h:letF z k=some r):∃y,z=y∧k y=some r:=⟨z,rfl,h⟩
def lenF (L:List D) (k:Int→Option γ):Option γ:=k L.length
theorem lenF_inv (M:Mach) {L:List D}{k:Int→Option γ}{r:γ}(h:lenF L k=some r):∃y,M.lenI L=y∧k y=some r:=⟨L.length,M.lenI_eq L,h⟩
def szF (s:ByteArray) (k:Int→Option γ):Option γ:=k s.size
theorem szF_inv (M:Mach) {s:ByteArray}{k:Int→Option γ}{r:γ}(h:szF s k=some r):∃y,M.szI s=y∧k y=some r:=⟨s.size,M.szI_eq s,h⟩
def getF (L:List D) (i:Int) (k:D→Option γ):Option γ:=if 0≤i then (match L[i.toNat]? with | some x=>k x | none=>none)else none
theorem getF_inv {L:List D}{i:Int}{k:D→Option γ}{r:γ}(h:getF L i k=some r):∃x,(0≤i∧L[i.toNat]?=some x)∧k x=some r:=by
 unfold getF at h
 split at h
 ·rename_i h0
  split at h
  ·rename_i x hx
   exact⟨x,⟨h0,hx⟩,h⟩
  ·cases h
 ·cases h
theorem getF_some {L:List D}{i:Int}{k:D→Option γ}{x:D}(h0:0≤i) (hx:L[i.toNat]?=some x):getF L i k=k x:=by
 unfold getF
 rw[if_pos h0,hx]
def needF (p:Prop) [Decidable p] (x:Option γ):Option γ:=if p then x else none
theorem needF_inv {p:Prop} [Decidable p] {x:Option γ}{r:γ}(h:needF p x=some r):p∧x=some r:=by
 unfold needF at h
 split at h
 ·rename_i hp
  exact⟨hp,h⟩
 ·cases h
theorem ite_t {p:Prop} [Decidable p] {x y r:Option γ}(hp:p) (h:(if p then x else y)=r):x=r:=by rwa [if_pos hp]at h
theorem ite_f {p:Prop} [Decidable p] {x y r:Option γ}(hp:¬p) (h:(if p then x else y)=r):y=r:=by rwa [if_neg hp]at h
def appF (b:Nat) (L M:List D) (k:List D→Option γ):Option γ:=if L.length+M.length≤maxLen∧(L.length+M.length)*b≤140737488355328 then k (L++M)else none
theorem appF_inv {b:Nat}{L M:List D}{k:List D→Option γ}{r:γ}(h:appF b L M k=some r):∃out,(L.length+M.length≤maxLen∧(L.length+M.length)*b≤140737488355328)∧L++M=out∧k out=some r:=by
 unfold appF at h
 split at h
 ·rename_i hb
  exact⟨_,hb,rfl,h⟩
 ·cases h
def fromF (L:List D) (l:Int) (k:List D→Option γ):Option γ:=if 0≤l∧l≤(L.length:Int)then k (L.drop l.toNat)else none
theorem fromF_inv (M:Mach) {L:List D}{l:Int}{k:List D→Option γ}{r:γ}(h:fromF L l k=some r):∃out,(0≤l∧l≤M.lenI L∧M.lenI L≤M.lenI L)∧(L.take (M.lenI L).toNat).drop l.toNat=out∧k out=some r:=by
 unfold fromF at h
 split at h
 ·rename_i hb
  exact⟨_,by rw[M.lenI_eq];exact⟨hb.1,hb.2,Int.le_refl _⟩,rfl,by rw[M.lenI_eq];simpa using h⟩
 ·cases h
open Classical in
noncomputable def nilF (L:List D) (A B:Option γ):Option γ:=if L=[]then (if A=B then B else none)else B
theorem nilF_inv {L:List D}{A B:Option γ}{r:γ}(h:nilF L A B=some r):B=some r∧(L=[]→A=some r):=by
 unfold nilF at h
 split at h
 ·split at h
  ·rename_i e;exact⟨h,fun _=>e▸h⟩
  ·cases h
 ·rename_i hn;exact⟨h,fun e=>absurd e hn⟩
theorem nilF_eq {L:List D}{A B:Option γ}(h:L=[]→A=B):nilF L A B=B:=by
 unfold nilF
 split
 ·rename_i e;rw[if_pos (h e)]
 ·rfl
theorem nil_both {L:List D}{K0 K1:Prop}(h0:K0) (h1:L=[]→K1):(L≠[]→K0)∧(L=[]→K1∧K0):=⟨fun _=>h0,fun e=>⟨h1 e,h0⟩⟩
def scalB (L:List D):Bool:=L.all fun r=>r.cells.all fun c=>!isCon c
theorem scalB_iff {L:List D}:scalB L=true↔ScalRows L:=by
 simp[scalB,ScalRows]
def setF (L:List D) (i:Nat) (x:D) (k:List D→Option γ):Option γ:=k (L.set i x)
theorem setF_inv {L:List D}{i:Nat}{x:D}{k:List D→Option γ}{r:γ}(h:setF L i x k=some r):∃out,L.set i x=out∧k out=some r:=⟨_,rfl,h⟩
def getN (L:List D) (i:Nat) (k:D→Option γ):Option γ:=match L[i]? with | some x=>k x | none=>none
theorem getN_inv {L:List D}{i:Nat}{k:D→Option γ}{r:γ}(h:getN L i k=some r):∃x,L[i]?=some x∧k x=some r:=by
 unfold getN at h
 split at h
 ·rename_i x hx
  exact⟨x,hx,h⟩
 ·cases h
def bO0 (x:Option Unit) (k:Option γ):Option γ:=match x with | some _=>k | none=>none
theorem bO0_inv {x:Option Unit}{k:Option γ}{r:γ}(h:bO0 x k=some r):x=some ()∧k=some r:=by
 cases x with
 | none=>cases h
 | some u=>exact⟨rfl,h⟩
def bO1 {A1:Type}(x:Option (A1)) (k:A1→Option γ):Option γ:=match x with | some p=>k p | none=>none
theorem bO1_inv {A1:Type}{x:Option (A1)}{k:A1→Option γ}{r:γ}(h:bO1 x k=some r):∃a1,x=some a1∧k a1=some r:=by
 cases x with
 | none=>cases h
 | some p=>exact⟨_,rfl,h⟩
def bO2 {A1 A2:Type}(x:Option (A1×A2)) (k:A1→A2→Option γ):Option γ:=match x with | some p=>k p.1 p.2 | none=>none
theorem bO2_inv {A1 A2:Type}{x:Option (A1×A2)}{k:A1→A2→Option γ}{r:γ}(h:bO2 x k=some r):∃a1 a2,x=some (a1,a2)∧k a1 a2=some r:=by
 cases x with
 | none=>cases h
 | some p=>exact⟨_,_,rfl,h⟩
theorem inj2 {A1 A2:Type}{a1 b1:A1}{a2 b2:A2}(h:some (a1,a2)=some (b1,b2)):a1=b1∧a2=b2:=by
 cases h
 exact⟨rfl,rfl⟩
def bO3 {A1 A2 A3:Type}(x:Option (A1×A2×A3)) (k:A1→A2→A3→Option γ):Option γ:=match x with | some p=>k p.1 p.2.1 p.2.2 | none=>none
theorem bO3_inv {A1 A2 A3:Type}{x:Option (A1×A2×A3)}{k:A1→A2→A3→Option γ}{r:γ}(h:bO3 x k=some r):∃a1 a2 a3,x=some (a1,a2,a3)∧k a1 a2 a3=some r:=by
 cases x with
 | none=>cases h
 | some p=>exact⟨_,_,_,rfl,h⟩
theorem inj3 {A1 A2 A3:Type}{a1 b1:A1}{a2 b2:A2}{a3 b3:A3}(h:some (a1,a2,a3)=some (b1,b2,b3)):a1=b1∧a2=b2∧a3=b3:=by
 cases h
 exact⟨rfl,rfl,rfl⟩
def bO4 {A1 A2 A3 A4:Type}(x:Option (A1×A2×A3×A4)) (k:A1→A2→A3→A4→Option γ):Option γ:=match x with | some p=>k p.1 p.2.1 p.2.2.1 p.2.2.2 | none=>none
theorem bO4_inv {A1 A2 A3 A4:Type}{x:Option (A1×A2×A3×A4)}{k:A1→A2→A3→A4→Option γ}{r:γ}(h:bO4 x k=some r):∃a1 a2 a3 a4,x=some (a1,a2,a3,a4)∧k a1 a2 a3 a4=some r:=by
 cases x with
 | none=>cases h
 | some p=>exact⟨_,_,_,_,rfl,h⟩
theorem inj4 {A1 A2 A3 A4:Type}{a1 b1:A1}{a2 b2:A2}{a3 b3:A3}{a4 b4:A4}(h:some (a1,a2,a3,a4)=some (b1,b2,b3,b4)):a1=b1∧a2=b2∧a3=b3∧a4=b4:=by
 cases h
 exact⟨rfl,rfl,rfl,rfl⟩
def bO5 {A1 A2 A3 A4 A5:Type}(x:Option (A1×A2×A3×A4×A5)) (k:A1→A2→A3→A4→A5→Option γ):Option γ:=match x with | some p=>k p.1 p.2.1 p.2.2.1 p.2.2.2.1 p.2.2.2.2 | none=>none
theorem bO5_inv {A1 A2 A3 A4 A5:Type}{x:Option (A1×A2×A3×A4×A5)}{k:A1→A2→A3→A4→A5→Option γ}{r:γ}(h:bO5 x k=some r):∃a1 a2 a3 a4 a5,x=some (a1,a2,a3,a4,a5)∧k a1 a2 a3 a4 a5=some r:=by
 cases x with
 | none=>cases h
 | some p=>exact⟨_,_,_,_,_,rfl,h⟩
theorem inj5 {A1 A2 A3 A4 A5:Type}{a1 b1:A1}{a2 b2:A2}{a3 b3:A3}{a4 b4:A4}{a5 b5:A5}(h:some (a1,a2,a3,a4,a5)=some (b1,b2,b3,b4,b5)):a1=b1∧a2=b2∧a3=b3∧a4=b4∧a5=b5:=by
 cases h
 exact⟨rfl,rfl,rfl,rfl,rfl⟩
def bO6 {A1 A2 A3 A4 A5 A6:Type}(x:Option (A1×A2×A3×A4×A5×A6)) (k:A1→A2→A3→A4→A5→A6→Option γ):Option γ:=match x with | some p=>k p.1 p.2.1 p.2.2.1 p.2.2.2.1 p.2.2.2.2.1 p.2.2.2.2.2 | none=>none
theorem bO6_inv {A1 A2 A3 A4 A5 A6:Type}{x:Option (A1×A2×A3×A4×A5×A6)}{k:A1→A2→A3→A4→A5→A6→Option γ}{r:γ}(h:bO6 x k=some r):∃a1 a2 a3 a4 a5 a6,x=some (a1,a2,a3,a4,a5,a6)∧k a1 a2 a3 a4 a5 a6=some r:=by
 cases x with
 | none=>cases h
 | some p=>exact⟨_,_,_,_,_,_,rfl,h⟩
theorem inj6 {A1 A2 A3 A4 A5 A6:Type}{a1 b1:A1}{a2 b2:A2}{a3 b3:A3}{a4 b4:A4}{a5 b5:A5}{a6 b6:A6}(h:some (a1,a2,a3,a4,a5,a6)=some (b1,b2,b3,b4,b5,b6)):a1=b1∧a2=b2∧a3=b3∧a4=b4∧a5=b5∧a6=b6:=by
 cases h
 exact⟨rfl,rfl,rfl,rfl,rfl,rfl⟩
def bO7 {A1 A2 A3 A4 A5 A6 A7:Type}(x:Option (A1×A2×A3×A4×A5×A6×A7)) (k:A1→A2→A3→A4→A5→A6→A7→Option γ):Option γ:=match x with | some p=>k p.1 p.2.1 p.2.2.1 p.2.2.2.1 p.2.2.2.2.1 p.2.2.2.2.2.1 p.2.2.2.2.2.2 | none=>none
theorem bO7_inv {A1 A2 A3 A4 A5 A6 A7:Type}{x:Option (A1×A2×A3×A4×A5×A6×A7)}{k:A1→A2→A3→A4→A5→A6→A7→Option γ}{r:γ}(h:bO7 x k=some r):∃a1 a2 a3 a4 a5 a6 a7,x=some (a1,a2,a3,a4,a5,a6,a7)∧k a1 a2 a3 a4 a5 a6 a7=some r:=by
 cases x with
 | none=>cases h
 | some p=>exact⟨_,_,_,_,_,_,_,rfl,h⟩
theorem inj7 {A1 A2 A3 A4 A5 A6 A7:Type}{a1 b1:A1}{a2 b2:A2}{a3 b3:A3}{a4 b4:A4}{a5 b5:A5}{a6 b6:A6}{a7 b7:A7}(h:some (a1,a2,a3,a4,a5,a6,a7)=some (b1,b2,b3,b4,b5,b6,b7)):a1=b1∧a2=b2∧a3=b3∧a4=b4∧a5=b5∧a6=b6∧a7=b7:=by
 cases h
 exact⟨rfl,rfl,rfl,rfl,rfl,rfl,rfl⟩
def bO8 {A1 A2 A3 A4 A5 A6 A7 A8:Type}(x:Option (A1×A2×A3×A4×A5×A6×A7×A8)) (k:A1→A2→A3→A4→A5→A6→A7→A8→Option γ):Option γ:=match x with | some p=>k p.1 p.2.1 p.2.2.1 p.2.2.2.1 p.2.2.2.2.1 p.2.2.2.2.2.1 p.2.2.2.2.2.2.1 p.2.2.2.2.2.2.2 | none=>none
theorem bO8_inv {A1 A2 A3 A4 A5 A6 A7 A8:Type}{x:Option (A1×A2×A3×A4×A5×A6×A7×A8)}{k:A1→A2→A3→A4→A5→A6→A7→A8→Option γ}{r:γ}(h:bO8 x k=some r):∃a1 a2 a3 a4 a5 a6 a7 a8,x=some (a1,a2,a3,a4,a5,a6,a7,a8)∧k a1 a2 a3 a4 a5 a6 a7 a8=some r:=by
 cases x with
 | none=>cases h
 | some p=>exact⟨_,_,_,_,_,_,_,_,rfl,h⟩
theorem inj8 {A1 A2 A3 A4 A5 A6 A7 A8:Type}{a1 b1:A1}{a2 b2:A2}{a3 b3:A3}{a4 b4:A4}{a5 b5:A5}{a6 b6:A6}{a7 b7:A7}{a8 b8:A8}(h:some (a1,a2,a3,a4,a5,a6,a7,a8)=some (b1,b2,b3,b4,b5,b6,b7,b8)):a1=b1∧a2=b2∧a3=b3∧a4=b4∧a5=b5∧a6=b6∧a7=b7∧a8=b8:=by
 cases h
 exact⟨rfl,rfl,rfl,rfl,rfl,rfl,rfl,rfl⟩
def bO9 {A1 A2 A3 A4 A5 A6 A7 A8 A9:Type}(x:Option (A1×A2×A3×A4×A5×A6×A7×A8×A9)) (k:A1→A2→A3→A4→A5→A6→A7→A8→A9→Option γ):Option γ:=match x with | some p=>k p.1 p.2.1 p.2.2.1 p.2.2.2.1 p.2.2.2.2.1 p.2.2.2.2.2.1 p.2.2.2.2.2.2.1 p.2.2.2.2.2.2.2.1 p.2.2.2.2.2.2.2.2 | none=>none
theorem bO9_inv {A1 A2 A3 A4 A5 A6 A7 A8 A9:Type}{x:Option (A1×A2×A3×A4×A5×A6×A7×A8×A9)}{k:A1→A2→A3→A4→A5→A6→A7→A8→A9→Option γ}{r:γ}(h:bO9 x k=some r):∃a1 a2 a3 a4 a5 a6 a7 a8 a9,x=some (a1,a2,a3,a4,a5,a6,a7,a8,a9)∧k a1 a2 a3 a4 a5 a6 a7 a8 a9=some r:=by
 cases x with
 | none=>cases h
 | some p=>exact⟨_,_,_,_,_,_,_,_,_,rfl,h⟩
theorem inj9 {A1 A2 A3 A4 A5 A6 A7 A8 A9:Type}{a1 b1:A1}{a2 b2:A2}{a3 b3:A3}{a4 b4:A4}{a5 b5:A5}{a6 b6:A6}{a7 b7:A7}{a8 b8:A8}{a9 b9:A9}(h:some (a1,a2,a3,a4,a5,a6,a7,a8,a9)=some (b1,b2,b3,b4,b5,b6,b7,b8,b9)):a1=b1∧a2=b2∧a3=b3∧a4=b4∧a5=b5∧a6=b6∧a7=b7∧a8=b8∧a9=b9:=by
 cases h
 exact⟨rfl,rfl,rfl,rfl,rfl,rfl,rfl,rfl,rfl⟩
def bO10 {A1 A2 A3 A4 A5 A6 A7 A8 A9 A10:Type}(x:Option (A1×A2×A3×A4×A5×A6×A7×A8×A9×A10)) (k:A1→A2→A3→A4→A5→A6→A7→A8→A9→A10→Option γ):Option γ:=match x with | some p=>k p.1 p.2.1 p.2.2.1 p.2.2.2.1 p.2.2.2.2.1 p.2.2.2.2.2.1 p.2.2.2.2.2.2.1 p.2.2.2.2.2.2.2.1 p.2.2.2.2.2.2.2.2.1 p.2.2.2.2.2.2.2.2.2 | none=>none
theorem bO10_inv {A1 A2 A3 A4 A5 A6 A7 A8 A9 A10:Type}{x:Option (A1×A2×A3×A4×A5×A6×A7×A8×A9×A10)}{k:A1→A2→A3→A4→A5→A6→A7→A8→A9→A10→Option γ}{r:γ}(h:bO10 x k=some r):∃a1 a2 a3 a4 a5 a6 a7 a8 a9 a10,x=some (a1,a2,a3,a4,a5,a6,a7,a8,a9,a10)∧k a1 a2 a3 a4 a5 a6 a7 a8 a9 a10=some r:=by
 cases x with
 | none=>cases h
 | some p=>exact⟨_,_,_,_,_,_,_,_,_,_,rfl,h⟩
theorem inj10 {A1 A2 A3 A4 A5 A6 A7 A8 A9 A10:Type}{a1 b1:A1}{a2 b2:A2}{a3 b3:A3}{a4 b4:A4}{a5 b5:A5}{a6 b6:A6}{a7 b7:A7}{a8 b8:A8}{a9 b9:A9}{a10 b10:A10}(h:some (a1,a2,a3,a4,a5,a6,a7,a8,a9,a10)=some (b1,b2,b3,b4,b5,b6,b7,b8,b9,b10)):a1=b1∧a2=b2∧a3=b3∧a4=b4∧a5=b5∧a6=b6∧a7=b7∧a8=b8∧a9=b9∧a10=b10:=by
 cases h
 exact⟨rfl,rfl,rfl,rfl,rfl,rfl,rfl,rfl,rfl,rfl⟩
def bO11 {A1 A2 A3 A4 A5 A6 A7 A8 A9 A10 A11:Type}(x:Option (A1×A2×A3×A4×A5×A6×A7×A8×A9×A10×A11)) (k:A1→A2→A3→A4→A5→A6→A7→A8→A9→A10→A11→Option γ):Option γ:=match x with | some p=>k p.1 p.2.1 p.2.2.1 p.2.2.2.1 p.2.2.2.2.1 p.2.2.2.2.2.1 p.2.2.2.2.2.2.1 p.2.2.2.2.2.2.2.1 p.2.2.2.2.2.2.2.2.1 p.2.2.2.2.2.2.2.2.2.1 p.2.2.2.2.2.2.2.2.2.2 | none=>none
theorem bO11_inv {A1 A2 A3 A4 A5 A6 A7 A8 A9 A10 A11:Type}{x:Option (A1×A2×A3×A4×A5×A6×A7×A8×A9×A10×A11)}{k:A1→A2→A3→A4→A5→A6→A7→A8→A9→A10→A11→Option γ}{r:γ}(h:bO11 x k=some r):∃a1 a2 a3 a4 a5 a6 a7 a8 a9 a10 a11,x=some (a1,a2,a3,a4,a5,a6,a7,a8,a9,a10,a11)∧k a1 a2 a3 a4 a5 a6 a7 a8 a9 a10 a11=some r:=by
 cases x with
 | none=>cases h
 | some p=>exact⟨_,_,_,_,_,_,_,_,_,_,_,rfl,h⟩
theorem inj11 {A1 A2 A3 A4 A5 A6 A7 A8 A9 A10 A11:Type}{a1 b1:A1}{a2 b2:A2}{a3 b3:A3}{a4 b4:A4}{a5 b5:A5}{a6 b6:A6}{a7 b7:A7}{a8 b8:A8}{a9 b9:A9}{a10 b10:A10}{a11 b11:A11}(h:some (a1,a2,a3,a4,a5,a6,a7,a8,a9,a10,a11)=some (b1,b2,b3,b4,b5,b6,b7,b8,b9,b10,b11)):a1=b1∧a2=b2∧a3=b3∧a4=b4∧a5=b5∧a6=b6∧a7=b7∧a8=b8∧a9=b9∧a10=b10∧a11=b11:=by
 cases h
 exact⟨rfl,rfl,rfl,rfl,rfl,rfl,rfl,rfl,rfl,rfl,rfl⟩
def bO13 {A1 A2 A3 A4 A5 A6 A7 A8 A9 A10 A11 A12 A13:Type}(x:Option (A1×A2×A3×A4×A5×A6×A7×A8×A9×A10×A11×A12×A13)) (k:A1→A2→A3→A4→A5→A6→A7→A8→A9→A10→A11→A12→A13→Option γ):Option γ:=match x with | some p=>k p.1 p.2.1 p.2.2.1 p.2.2.2.1 p.2.2.2.2.1 p.2.2.2.2.2.1 p.2.2.2.2.2.2.1 p.2.2.2.2.2.2.2.1 p.2.2.2.2.2.2.2.2.1 p.2.2.2.2.2.2.2.2.2.1 p.2.2.2.2.2.2.2.2.2.2.1 p.2.2.2.2.2.2.2.2.2.2.2.1 p.2.2.2.2.2.2.2.2.2.2.2.2 | none=>none
theorem bO13_inv {A1 A2 A3 A4 A5 A6 A7 A8 A9 A10 A11 A12 A13:Type}{x:Option (A1×A2×A3×A4×A5×A6×A7×A8×A9×A10×A11×A12×A13)}{k:A1→A2→A3→A4→A5→A6→A7→A8→A9→A10→A11→A12→A13→Option γ}{r:γ}(h:bO13 x k=some r):∃a1 a2 a3 a4 a5 a6 a7 a8 a9 a10 a11 a12 a13,x=some (a1,a2,a3,a4,a5,a6,a7,a8,a9,a10,a11,a12,a13)∧k a1 a2 a3 a4 a5 a6 a7 a8 a9 a10 a11 a12 a13=some r:=by
 cases x with
 | none=>cases h
 | some p=>exact⟨_,_,_,_,_,_,_,_,_,_,_,_,_,rfl,h⟩
theorem inj13 {A1 A2 A3 A4 A5 A6 A7 A8 A9 A10 A11 A12 A13:Type}{a1 b1:A1}{a2 b2:A2}{a3 b3:A3}{a4 b4:A4}{a5 b5:A5}{a6 b6:A6}{a7 b7:A7}{a8 b8:A8}{a9 b9:A9}{a10 b10:A10}{a11 b11:A11}{a12 b12:A12}{a13 b13:A13}(h:some (a1,a2,a3,a4,a5,a6,a7,a8,a9,a10,a11,a12,a13)=some (b1,b2,b3,b4,b5,b6,b7,b8,b9,b10,b11,b12,b13)):a1=b1∧a2=b2∧a3=b3∧a4=b4∧a5=b5∧a6=b6∧a7=b7∧a8=b8∧a9=b9∧a10=b10∧a11=b11∧a12=b12∧a13=b13:=by
 cases h
 exact⟨rfl,rfl,rfl,rfl,rfl,rfl,rfl,rfl,rfl,rfl,rfl,rfl,rfl⟩
def bO14 {A1 A2 A3 A4 A5 A6 A7 A8 A9 A10 A11 A12 A13 A14:Type}(x:Option (A1×A2×A3×A4×A5×A6×A7×A8×A9×A10×A11×A12×A13×A14)) (k:A1→A2→A3→A4→A5→A6→A7→A8→A9→A10→A11→A12→A13→A14→Option γ):Option γ:=match x with | some p=>k p.1 p.2.1 p.2.2.1 p.2.2.2.1 p.2.2.2.2.1 p.2.2.2.2.2.1 p.2.2.2.2.2.2.1 p.2.2.2.2.2.2.2.1 p.2.2.2.2.2.2.2.2.1 p.2.2.2.2.2.2.2.2.2.1 p.2.2.2.2.2.2.2.2.2.2.1 p.2.2.2.2.2.2.2.2.2.2.2.1 p.2.2.2.2.2.2.2.2.2.2.2.2.1 p.2.2.2.2.2.2.2.2.2.2.2.2.2 | none=>none
theorem bO14_inv {A1 A2 A3 A4 A5 A6 A7 A8 A9 A10 A11 A12 A13 A14:Type}{x:Option (A1×A2×A3×A4×A5×A6×A7×A8×A9×A10×A11×A12×A13×A14)}{k:A1→A2→A3→A4→A5→A6→A7→A8→A9→A10→A11→A12→A13→A14→Option γ}{r:γ}(h:bO14 x k=some r):∃a1 a2 a3 a4 a5 a6 a7 a8 a9 a10 a11 a12 a13 a14,x=some (a1,a2,a3,a4,a5,a6,a7,a8,a9,a10,a11,a12,a13,a14)∧k a1 a2 a3 a4 a5 a6 a7 a8 a9 a10 a11 a12 a13 a14=some r:=by
 cases x with
 | none=>cases h
 | some p=>exact⟨_,_,_,_,_,_,_,_,_,_,_,_,_,_,rfl,h⟩
theorem inj14 {A1 A2 A3 A4 A5 A6 A7 A8 A9 A10 A11 A12 A13 A14:Type}{a1 b1:A1}{a2 b2:A2}{a3 b3:A3}{a4 b4:A4}{a5 b5:A5}{a6 b6:A6}{a7 b7:A7}{a8 b8:A8}{a9 b9:A9}{a10 b10:A10}{a11 b11:A11}{a12 b12:A12}{a13 b13:A13}{a14 b14:A14}(h:some (a1,a2,a3,a4,a5,a6,a7,a8,a9,a10,a11,a12,a13,a14)=some (b1,b2,b3,b4,b5,b6,b7,b8,b9,b10,b11,b12,b13,b14)):a1=b1∧a2=b2∧a3=b3∧a4=b4∧a5=b5∧a6=b6∧a7=b7∧a8=b8∧a9=b9∧a10=b10∧a11=b11∧a12=b12∧a13=b13∧a14=b14:=by
 cases h
 exact⟨rfl,rfl,rfl,rfl,rfl,rfl,rfl,rfl,rfl,rfl,rfl,rfl,rfl,rfl⟩
def bO16 {A1 A2 A3 A4 A5 A6 A7 A8 A9 A10 A11 A12 A13 A14 A15 A16:Type}(x:Option (A1×A2×A3×A4×A5×A6×A7×A8×A9×A10×A11×A12×A13×A14×A15×A16)) (k:A1→A2→A3→A4→A5→A6→A7→A8→A9→A10→A11→A12→A13→A14→A15→A16→Option γ):Option γ:=match x with | some p=>k p.1 p.2.1 p.2.2.1 p.2.2.2.1 p.2.2.2.2.1 p.2.2.2.2.2.1 p.2.2.2.2.2.2.1 p.2.2.2.2.2.2.2.1 p.2.2.2.2.2.2.2.2.1 p.2.2.2.2.2.2.2.2.2.1 p.2.2.2.2.2.2.2.2.2.2.1 p.2.2.2.2.2.2.2.2.2.2.2.1 p.2.2.2.2.2.2.2.2.2.2.2.2.1 p.2.2.2.2.2.2.2.2.2.2.2.2.2.1 p.2.2.2.2.2.2.2.2.2.2.2.2.2.2.1 p.2.2.2.2.2.2.2.2.2.2.2.2.2.2.2 | none=>none
theorem bO16_inv {A1 A2 A3 A4 A5 A6 A7 A8 A9 A10 A11 A12 A13 A14 A15 A16:Type}{x:Option (A1×A2×A3×A4×A5×A6×A7×A8×A9×A10×A11×A12×A13×A14×A15×A16)}{k:A1→A2→A3→A4→A5→A6→A7→A8→A9→A10→A11→A12→A13→A14→A15→A16→Option γ}{r:γ}(h:bO16 x k=some r):∃a1 a2 a3 a4 a5 a6 a7 a8 a9 a10 a11 a12 a13 a14 a15 a16,x=some (a1,a2,a3,a4,a5,a6,a7,a8,a9,a10,a11,a12,a13,a14,a15,a16)∧k a1 a2 a3 a4 a5 a6 a7 a8 a9 a10 a11 a12 a13 a14 a15 a16=some r:=by
 cases x with
 | none=>cases h
 | some p=>exact⟨_,_,_,_,_,_,_,_,_,_,_,_,_,_,_,_,rfl,h⟩
def bO18 {A1 A2 A3 A4 A5 A6 A7 A8 A9 A10 A11 A12 A13 A14 A15 A16 A17 A18:Type}(x:Option (A1×A2×A3×A4×A5×A6×A7×A8×A9×A10×A11×A12×A13×A14×A15×A16×A17×A18)) (k:A1→A2→A3→A4→A5→A6→A7→A8→A9→A10→A11→A12→A13→A14→A15→A16→A17→A18→Option γ):Option γ:=match x with | some p=>k p.1 p.2.1 p.2.2.1 p.2.2.2.1 p.2.2.2.2.1 p.2.2.2.2.2.1 p.2.2.2.2.2.2.1 p.2.2.2.2.2.2.2.1 p.2.2.2.2.2.2.2.2.1 p.2.2.2.2.2.2.2.2.2.1 p.2.2.2.2.2.2.2.2.2.2.1 p.2.2.2.2.2.2.2.2.2.2.2.1 p.2.2.2.2.2.2.2.2.2.2.2.2.1 p.2.2.2.2.2.2.2.2.2.2.2.2.2.1 p.2.2.2.2.2.2.2.2.2.2.2.2.2.2.1 p.2.2.2.2.2.2.2.2.2.2.2.2.2.2.2.1 p.2.2.2.2.2.2.2.2.2.2.2.2.2.2.2.2.1 p.2.2.2.2.2.2.2.2.2.2.2.2.2.2.2.2.2 | none=>none
theorem bO18_inv {A1 A2 A3 A4 A5 A6 A7 A8 A9 A10 A11 A12 A13 A14 A15 A16 A17 A18:Type}{x:Option (A1×A2×A3×A4×A5×A6×A7×A8×A9×A10×A11×A12×A13×A14×A15×A16×A17×A18)}{k:A1→A2→A3→A4→A5→A6→A7→A8→A9→A10→A11→A12→A13→A14→A15→A16→A17→A18→Option γ}{r:γ}(h:bO18 x k=some r):∃a1 a2 a3 a4 a5 a6 a7 a8 a9 a10 a11 a12 a13 a14 a15 a16 a17 a18,x=some (a1,a2,a3,a4,a5,a6,a7,a8,a9,a10,a11,a12,a13,a14,a15,a16,a17,a18)∧k a1 a2 a3 a4 a5 a6 a7 a8 a9 a10 a11 a12 a13 a14 a15 a16 a17 a18=some r:=by
 cases x with
 | none=>cases h
 | some p=>exact⟨_,_,_,_,_,_,_,_,_,_,_,_,_,_,_,_,_,_,rfl,h⟩
def bO20 {A1 A2 A3 A4 A5 A6 A7 A8 A9 A10 A11 A12 A13 A14 A15 A16 A17 A18 A19 A20:Type}(x:Option (A1×A2×A3×A4×A5×A6×A7×A8×A9×A10×A11×A12×A13×A14×A15×A16×A17×A18×A19×A20)) (k:A1→A2→A3→A4→A5→A6→A7→A8→A9→A10→A11→A12→A13→A14→A15→A16→A17→A18→A19→A20→Option γ):Option γ:=match x with | some p=>k p.1 p.2.1 p.2.2.1 p.2.2.2.1 p.2.2.2.2.1 p.2.2.2.2.2.1 p.2.2.2.2.2.2.1 p.2.2.2.2.2.2.2.1 p.2.2.2.2.2.2.2.2.1 p.2.2.2.2.2.2.2.2.2.1 p.2.2.2.2.2.2.2.2.2.2.1 p.2.2.2.2.2.2.2.2.2.2.2.1 p.2.2.2.2.2.2.2.2.2.2.2.2.1 p.2.2.2.2.2.2.2.2.2.2.2.2.2.1 p.2.2.2.2.2.2.2.2.2.2.2.2.2.2.1 p.2.2.2.2.2.2.2.2.2.2.2.2.2.2.2.1 p.2.2.2.2.2.2.2.2.2.2.2.2.2.2.2.2.1 p.2.2.2.2.2.2.2.2.2.2.2.2.2.2.2.2.2.1 p.2.2.2.2.2.2.2.2.2.2.2.2.2.2.2.2.2.2.1 p.2.2.2.2.2.2.2.2.2.2.2.2.2.2.2.2.2.2.2 | none=>none
theorem bO20_inv {A1 A2 A3 A4 A5 A6 A7 A8 A9 A10 A11 A12 A13 A14 A15 A16 A17 A18 A19 A20:Type}{x:Option (A1×A2×A3×A4×A5×A6×A7×A8×A9×A10×A11×A12×A13×A14×A15×A16×A17×A18×A19×A20)}{k:A1→A2→A3→A4→A5→A6→A7→A8→A9→A10→A11→A12→A13→A14→A15→A16→A17→A18→A19→A20→Option γ}{r:γ}(h:bO20 x k=some r):∃a1 a2 a3 a4 a5 a6 a7 a8 a9 a10 a11 a12 a13 a14 a15 a16 a17 a18 a19 a20,x=some (a1,a2,a3,a4,a5,a6,a7,a8,a9,a10,a11,a12,a13,a14,a15,a16,a17,a18,a19,a20)∧k a1 a2 a3 a4 a5 a6 a7 a8 a9 a10 a11 a12 a13 a14 a15 a16 a17 a18 a19 a20=some r:=by
 cases x with
 | none=>cases h
 | some p=>exact⟨_,_,_,_,_,_,_,_,_,_,_,_,_,_,_,_,_,_,_,_,rfl,h⟩
end
end Go.AM
namespace Go.AM
open Go
def sI (n:Nat) (z:Int):Nat×AV:=(n,.v (.d (.int .i64 z)))
def sU (n:Nat) (z:Int):Nat×AV:=(n,.v (.d (.int .u8 z)))
def sB (n:Nat) (b:Bool):Nat×AV:=(n,.v (.d (.bool b)))
def sT (n s:Nat) (l:List D):Nat×AV:=(n,.v (.d (.list true s l)))
def sF (n s:Nat) (l:List D):Nat×AV:=(n,.v (.d (.list false s l)))
def sL (n i:Nat):Nat×AV:=(n,.v (.c (.ptr (.loc i) 0)))
def sE (n i:Nat):Nat×AV:=(n,.v (.c (.ptr (.ext i) 0)))
def sS (n:Nat) (b:ByteArray):Nat×AV:=(n,.v (.d (.str b)))
abbrev LD:=List D
abbrev BA:=ByteArray
theorem itT {γ:Type}{x y r:Option γ}(h:(if true=true then x else y)=r):x=r:=h
theorem itF {γ:Type}{x y r:Option γ}(h:(if false=true then x else y)=r):y=r:=h
end Go.AM
namespace Go.AM
open Go
def Ev {α:Type}(A:Nat→Option α) (r:α):Prop:=∃N,∀n,N≤n→A n=some r
section
variable {α β γ:Type}
theorem Ev.ret {r:α}:Ev (fun _=>some r) r:=⟨0,fun _ _=>rfl⟩
theorem Ev.of {A:Nat→Option α}{r:α}(h:∀n,A n=some r):Ev A r:=⟨0,fun n _=>h n⟩
theorem Ev.succ {A:Nat→Option α}{r:α}(h:Ev (fun n=>A (n+1)) r):Ev A r:=by
 obtain⟨N,h⟩:=h
 refine⟨N+1,fun n hn=>?_⟩
 obtain⟨m,rfl⟩:∃m,n=m+1:=⟨n - 1,by omega⟩
 exact h m (by omega)
theorem Ev.congr {A B:Nat→Option α}{r:α}(h:Ev A r) (e:∀n,A n=B n):Ev B r:=by
 obtain⟨N,h⟩:=h
 exact⟨N,fun n hn=>(e n)▸h n hn⟩
theorem Ev.bO0 {A:Nat→Option Unit}{k:Nat→Option γ}{r:γ}(ha:Ev A ()) (hk:Ev k r):Ev (fun n=>bO0 (A n) (k n)) r:=by
 obtain⟨N,ha⟩:=ha
 obtain⟨M,hk⟩:=hk
 refine⟨N+M,fun n hn=>?_⟩
 show Go.AM.bO0 (A n) (k n)=some r
 rw[ha n (by omega)]
 exact hk n (by omega)
theorem Ev.bO1 {A:Nat→Option α}{a:α}{k:Nat→α→Option γ}{r:γ}(ha:Ev A a) (hk:Ev (fun n=>k n a) r):Ev (fun n=>bO1 (A n) (k n)) r:=by
 obtain⟨N,ha⟩:=ha
 obtain⟨M,hk⟩:=hk
 refine⟨N+M,fun n hn=>?_⟩
 show Go.AM.bO1 (A n) (k n)=some r
 rw[ha n (by omega)]
 exact hk n (by omega)
theorem Ev.bO2 {A:Nat→Option (α×β)}{a:α}{b:β}{k:Nat→α→β→Option γ}{r:γ}(ha:Ev A (a,b)) (hk:Ev (fun n=>k n a b) r):Ev (fun n=>bO2 (A n) (k n)) r:=by
 obtain⟨N,ha⟩:=ha
 obtain⟨M,hk⟩:=hk
 refine⟨N+M,fun n hn=>?_⟩
 show Go.AM.bO2 (A n) (k n)=some r
 rw[ha n (by omega)]
 exact hk n (by omega)
theorem Ev.run {A:Nat→Option α}{r:α}(h:Ev A r):∃n,A n=some r:=let ⟨N,h⟩:=h;⟨N,h N (Nat.le_refl _)⟩
theorem down {P:Nat→Prop}(N:Nat) (h0:P N) (h:∀i,i<N→P (i+1)→P i):∀i,i≤N→P i:=by
 intro i hi
 obtain⟨d,hd⟩:∃d,d=N - i:=⟨_,rfl⟩
 induction d generalizing i with
 | zero=>
      obtain rfl:i=N:=by omega
      exact h0
 | succ d ih=>exact h i (by omega) (ih (i+1) (by omega) (by omega))
end
section
variable {γ:Type}
theorem getF_nat {L:List D}{i:Nat}{x:D}{k:D→Option γ}(hx:L[i]?=some x):getF L (i:Int) k=k x:=getF_some (by omega) (by simpa using hx)
theorem wrap_i64' {x:Int}(h: -9223372036854775808≤x∧x≤9223372036854775807):IntKind.i64.wrap x=x:=IntWalk.i64_in x h
theorem wrap_succ {i N:Nat}(h:i<N) (hN:N≤maxLen):IntKind.i64.wrap ((i:Int)+1)=((i+1:Nat):Int):=by
 have:maxLen=9223372036854775807:=rfl
 rw[wrap_i64' (by omega)];omega
end
def RowS (ti:Types) (e:TypeId) (x:D):Prop:=Shape ti e x.cells∧∀y,ti e=some y→x.isAgg=rowD y.desc
def ListS (ti:Types) (e:TypeId) (L:List D):Prop:=L.length≤maxLen∧∀x∈L,RowS ti e x
theorem ListS.get {ti:Types}{e:TypeId}{L:List D}{i:Nat}(h:ListS ti e L) (hi:i<L.length):∃x,L[i]?=some x∧x∈L∧RowS ti e x:=
 ⟨L[i],List.getElem?_eq_getElem hi,List.getElem_mem hi,h.2 _ (List.getElem_mem hi)⟩
def flatFs (ti:Types) (rec:TypeId→Option (List TypeId)):Nat→List Field→Option (List TypeId)
 | _,[]=>some []
 | off,f::r=>match Nat.beq f.offset off with
  | false=>none
  | true=>match ti f.type with
   | none=>none
   | some y=>match rec f.type with
    | none=>none
    | some l=>match Nat.beq l.length y.size with
     | false=>none
     | true=>match flatFs ti rec (off+y.size) r with
      | none=>none
      | some l'=>some (l++l')
def flatT (ti:Types):Nat→TypeId→Option (List TypeId)
 | 0,_=>none
 | n+1,t=>match ti t with
  | none=>none
  | some x=>match x.desc with
   | .struct fs=>match flatFs ti (flatT ti n) 0 fs.toList with
    | none=>none
    | some l=>match Nat.beq l.length x.size with
     | true=>some l
     | false=>none
   | .array ..=>none
   | _=>some [t]
theorem Shape.one {ti:Types}{t:TypeId}{x:TI}{ds:List D}(h:Shape ti t ds) (hx:ti t=some x) (hd:∀fs,x.desc≠ .struct fs):∃c,ds=[c]:=by
 cases h with
 | struct ds h1 h2=>rw[hx]at h1;obtain rfl:=Option.some.inj h1;exact absurd h2 (hd _)
 | _=>exact⟨_,rfl⟩
theorem flatFs_ok {ti:Types}{rec:TypeId→Option (List TypeId)}{ds:List D}
  (hrec:∀t ls cs,rec t=some ls→Shape ti t cs→cs.length=ls.length∧∀(j:Nat) c tl,cs[j]?=some c→ls[j]?=some tl→Shape ti tl [c]):
  ∀(fs:List Field) (off:Nat) (ls:List TypeId),flatFs ti rec off fs=some ls→(∀f∈fs,∀y,ti f.type=some y→Shape ti f.type ((ds.drop f.offset).take y.size))→
   ∀(j:Nat) c tl,ds[off+j]?=some c→ls[j]?=some tl→Shape ti tl [c]
 | [],off,ls,h,_,j,c,tl,_,hl=>by
  cases h;simp at hl
 | f::fs,off,ls,h,hs,j,c,tl,hc,hl=>by
  unfold flatFs at h
  split at h
  ·cases h
  ·rename_i ho
   have ho:=Nat.eq_of_beq_eq_true ho
   split at h
   ·cases h
   ·rename_i y hy
    split at h
    ·cases h
    ·rename_i l hr
     split at h
     ·cases h
     ·rename_i hb
      have hb:=Nat.eq_of_beq_eq_true hb
      split at h
      ·cases h
      ·rename_i l' hl'
       cases h
       obtain⟨h1,h2⟩:=hrec _ _ _ hr (hs f (by simp) y hy)
       by_cases hj:j<l.length
       ·rw[List.getElem?_append_left hj]at hl
        refine h2 j c tl ?_ hl
        rw[List.getElem?_take,if_pos (by omega),List.getElem?_drop,ho]
        exact hc
       ·rw[List.getElem?_append_right (by omega)]at hl
        refine flatFs_ok hrec fs _ l' hl' (fun f' hf'=>hs f' (List.mem_cons_of_mem _ hf')) (j - l.length) c tl ?_ hl
        rw[←hc];congr 1;omega
theorem Shape.flat {ti:Types}:
  ∀(n:Nat) (t:TypeId) (ls:List TypeId) (ds:List D),flatT ti n t=some ls→Shape ti t ds→ds.length=ls.length∧∀(j:Nat) c tl,ds[j]?=some c→ls[j]?=some tl→Shape ti tl [c]
 | 0,t,ls,ds,h,_=>by cases h
 | n+1,t,ls,ds,h,hs=>by
  unfold flatT at h
  split at h
  ·cases h
  ·rename_i x hx
   have single:(∀fs,x.desc≠ .struct fs)→ls=[t]→ds.length=ls.length∧∀(j:Nat) c tl,ds[j]?=some c→ls[j]?=some tl→Shape ti tl [c]:=by
    rintro hd rfl
    obtain⟨c,rfl⟩:=hs.one hx hd
    refine⟨rfl,fun j c' tl h1 h2=>?_⟩
    match j with
    | 0=>simp at h1 h2;subst h1;subst h2;exact hs
    | j+1=>simp at h1
   split at h
   ·rename_i fs hd
    obtain⟨h1,_,h3⟩:=hs.struct_inv hx hd
    split at h
    ·cases h
    ·rename_i l hl
     split at h
     ·rename_i hb
      cases h
      refine⟨h1.trans (Nat.eq_of_beq_eq_true hb).symm,fun j c tl h4 h5=>?_⟩
      exact flatFs_ok (fun t ls cs h6 h7=>Shape.flat n t ls cs h6 h7) fs.toList 0 ls hl h3 j c tl (by simpa using h4) h5
     ·cases h
   ·cases h
   ·rename_i h1 h2
    cases h
    exact single h1 rfl
theorem RowS.agg {ti:Types}{e:TypeId}{x:D}{y:TI}(h:RowS ti e x) (hy:ti e=some y) (hr:rowD y.desc=true):∃cs,x= .agg cs∧Shape ti e cs:=by
 have h1:=(h.2 y hy).trans hr
 cases x<;>simp[D.isAgg]at h1
 exact⟨_,rfl,h.1⟩
theorem RowS.flat1 {ti:Types}{e:TypeId}{x:D}{y:TI}(h:RowS ti e x) (hy:ti e=some y) (hr:rowD y.desc=false):Shape ti e [x]:=by
 have h1:=(h.2 y hy).trans hr
 have h0:=h.1
 cases x<;>simp_all [D.isAgg,D.cells]
theorem Shape.listS {ti:Types}{t e:TypeId}{x y:TI}{c:D}(h:Shape ti t [c]) (hx:ti t=some x) (hd:x.desc= .slice e) (hy:ti e=some y):
  ∃L,c= .list (rowD y.desc) y.size L∧ListS ti e L:=by
 obtain⟨L,e1,h1,h2,h3⟩:=h.slice_inv hx hd hy
 refine⟨L,(List.cons.inj e1).1,h1,fun r hr=>⟨h3 r hr,fun y' hy'=>?_⟩⟩
 rw[hy]at hy'
 obtain rfl:=Option.some.inj hy'
 exact (h2 r hr).1
theorem Shape.intS {ti:Types}{t:TypeId}{x:TI}{k:IntKind}{c:D}(h:Shape ti t [c]) (hx:ti t=some x) (hd:x.desc= .int k):∃n,c= .int k n∧(Lit.int k n).wf=true:=by
 obtain⟨n,e,hw⟩:=h.int_inv hx hd
 exact⟨n,(List.cons.inj e).1,hw⟩
theorem Shape.strS {ti:Types}{t:TypeId}{x:TI}{c:D}(h:Shape ti t [c]) (hx:ti t=some x) (hd:x.desc= .string):∃s,c= .str s∧s.size≤maxLen:=by
 obtain⟨n,e,hw⟩:=h.str_inv hx hd
 exact⟨n,(List.cons.inj e).1,hw⟩
theorem size_row {ag:Bool}{sz:Nat}{L M:List D}{cs:List D}(h:D.agg cs∈L) (h2:D.list ag sz M∈cs):SizeOf.sizeOf M<SizeOf.sizeOf L:=by
 have h1:=List.sizeOf_lt_of_mem h
 have h3:=List.sizeOf_lt_of_mem h2
 simp at h1 h3
 omega
theorem list_ind {P:List D→Prop}(H:∀L,(∀M,SizeOf.sizeOf M<SizeOf.sizeOf L→P M)→P L) (L:List D):P L:=by
 obtain⟨m,hm⟩:∃m,SizeOf.sizeOf L<m:=⟨_,Nat.lt_succ_self _⟩
 induction m generalizing L with
 | zero=>omega
 | succ m ih=>exact H L (fun M hM=>ih M (by omega))
end Go.AM
namespace Go.AM
open Go
theorem Shape.row {ti:Types}{t:TypeId}{cs:List D}{y:TI}(h:Shape ti t cs) (hy:ti t=some y) (h1:rowD y.desc=true):cs.length=y.size∧∀c∈cs,c.isAgg=false:=by
 cases h with
 | struct ds h hd hl hg hr=>rw[hy]at h;cases h;exact⟨hl,hg⟩
 | bool b h hd=>rw[hy]at h;cases h;rw[hd]at h1;cases h1
 | int n h hd=>rw[hy]at h;cases h;rw[hd]at h1;cases h1
 | str s h hd=>rw[hy]at h;cases h;rw[hd]at h1;cases h1
 | slice rows h hd=>rw[hy]at h;cases h;rw[hd]at h1;cases h1
theorem Shape.cell {ti:Types}{t:TypeId}{cs:List D}{y:TI}(h:Shape ti t cs) (hy:ti t=some y) (h1:rowD y.desc=false):∃c,cs=[c]∧c.isAgg=false:=by
 cases h with
 | struct ds h hd hl hg hr=>rw[hy]at h;cases h;rw[hd]at h1;cases h1
 | bool b h hd=>exact⟨_,rfl,rfl⟩
 | int n h hd=>exact⟨_,rfl,rfl⟩
 | str s h hd=>exact⟨_,rfl,rfl⟩
 | slice rows h hd=>exact⟨_,rfl,rfl⟩
theorem RowS.fits {ti:Types}{e:TypeId}{r:D}{y:TI}(h1:TIone ti) (h:RowS ti e r) (hy:ti e=some y):r.fits (rowD y.desc) y.size:=by
 have ha:=h.2 y hy
 cases hr:rowD y.desc with
 | true=>
  obtain⟨q1,q2⟩:=h.1.row hy hr
  exact⟨by rw[ha,hr],q1,q2⟩
 | false=>
  obtain⟨c,q1,q2⟩:=h.1.cell hy hr
  exact⟨by rw[ha,hr],by rw[q1,h1 e y hy hr];rfl,by rw[q1];simpa using q2⟩
theorem ListS.shape {ti:Types}{t e:TypeId}{x y:TI}{L:List D}(h1:TIone ti) (h:ListS ti e L) (hx:ti t=some x) (hd:x.desc= .slice e) (hy:ti e=some y):Shape ti t [.list (rowD y.desc) y.size L]:=
 .slice L hx hd hy h.1 (fun r hr=>(h.2 r hr).fits h1 hy) (fun r hr=>(h.2 r hr).1)
theorem ListS.nil {ti:Types}{e:TypeId}:ListS ti e []:=⟨Nat.zero_le _,by simp⟩
theorem ListS.cons {ti:Types}{e:TypeId}{x:D}{L:List D}(hx:RowS ti e x) (h:ListS ti e L) (hl:L.length+1≤maxLen):ListS ti e (x::L):=⟨by simpa using hl,fun y hy=>by
 rcases List.mem_cons.1 hy with rfl | hy
 ·exact hx
 ·exact h.2 y hy⟩
theorem ListS.app {ti:Types}{e:TypeId}{L M:List D}(h:ListS ti e L) (h':ListS ti e M) (hl:L.length+M.length≤maxLen):ListS ti e (L++M):=⟨by simpa using hl,fun y hy=>by
 rcases List.mem_append.1 hy with hy | hy
 ·exact h.2 y hy
 ·exact h'.2 y hy⟩
theorem ListS.one {ti:Types}{e:TypeId}{x:D}(hx:RowS ti e x):ListS ti e [x]:=.cons hx .nil (by simp[maxLen])
theorem ListS.set {ti:Types}{e:TypeId}{L:List D}(h:ListS ti e L) (i:Nat) {x:D}(hx:RowS ti e x):ListS ti e (L.set i x):=⟨by simpa using h.1,fun y hy=>by
 rcases List.mem_or_eq_of_mem_set hy with hy | rfl
 ·exact h.2 y hy
 ·exact hx⟩
theorem ListS.take {ti:Types}{e:TypeId}{L:List D}(h:ListS ti e L) (i:Nat):ListS ti e (L.take i):=⟨by have:=h.1;simp;omega,fun x hx=>h.2 x (List.mem_of_mem_take hx)⟩
theorem ListS.drop {ti:Types}{e:TypeId}{L:List D}(h:ListS ti e L) (i:Nat):ListS ti e (L.drop i):=⟨by have:=h.1;simp;omega,fun x hx=>h.2 x (List.mem_of_mem_drop hx)⟩
theorem Ev.bO3 {A1 A2 A3 γ:Type}{A:Nat→Option (A1×A2×A3)}{a1:A1}{a2:A2}{a3:A3}{k:Nat→A1→A2→A3→Option γ}{r:γ}(ha:Ev A (a1,a2,a3)) (hk:Ev (fun n=>k n a1 a2 a3) r):Ev (fun n=>bO3 (A n) (k n)) r:=by
 obtain⟨N,ha⟩:=ha
 obtain⟨M,hk⟩:=hk
 refine⟨N+M,fun n hn=>?_⟩
 show Go.AM.bO3 (A n) (k n)=some r
 rw[ha n (by omega)]
 exact hk n (by omega)
theorem Ev.bO4 {A1 A2 A3 A4 γ:Type}{A:Nat→Option (A1×A2×A3×A4)}{a1:A1}{a2:A2}{a3:A3}{a4:A4}{k:Nat→A1→A2→A3→A4→Option γ}{r:γ}(ha:Ev A (a1,a2,a3,a4)) (hk:Ev (fun n=>k n a1 a2 a3 a4) r):Ev (fun n=>bO4 (A n) (k n)) r:=by
 obtain⟨N,ha⟩:=ha
 obtain⟨M,hk⟩:=hk
 refine⟨N+M,fun n hn=>?_⟩
 show Go.AM.bO4 (A n) (k n)=some r
 rw[ha n (by omega)]
 exact hk n (by omega)
theorem Ev.bO5 {A1 A2 A3 A4 A5 γ:Type}{A:Nat→Option (A1×A2×A3×A4×A5)}{a1:A1}{a2:A2}{a3:A3}{a4:A4}{a5:A5}{k:Nat→A1→A2→A3→A4→A5→Option γ}{r:γ}(ha:Ev A (a1,a2,a3,a4,a5)) (hk:Ev (fun n=>k n a1 a2 a3 a4 a5) r):Ev (fun n=>bO5 (A n) (k n)) r:=by
 obtain⟨N,ha⟩:=ha
 obtain⟨M,hk⟩:=hk
 refine⟨N+M,fun n hn=>?_⟩
 show Go.AM.bO5 (A n) (k n)=some r
 rw[ha n (by omega)]
 exact hk n (by omega)
theorem Ev.bO6 {A1 A2 A3 A4 A5 A6 γ:Type}{A:Nat→Option (A1×A2×A3×A4×A5×A6)}{a1:A1}{a2:A2}{a3:A3}{a4:A4}{a5:A5}{a6:A6}{k:Nat→A1→A2→A3→A4→A5→A6→Option γ}{r:γ}(ha:Ev A (a1,a2,a3,a4,a5,a6)) (hk:Ev (fun n=>k n a1 a2 a3 a4 a5 a6) r):Ev (fun n=>bO6 (A n) (k n)) r:=by
 obtain⟨N,ha⟩:=ha
 obtain⟨M,hk⟩:=hk
 refine⟨N+M,fun n hn=>?_⟩
 show Go.AM.bO6 (A n) (k n)=some r
 rw[ha n (by omega)]
 exact hk n (by omega)
theorem Ev.bO7 {A1 A2 A3 A4 A5 A6 A7 γ:Type}{A:Nat→Option (A1×A2×A3×A4×A5×A6×A7)}{a1:A1}{a2:A2}{a3:A3}{a4:A4}{a5:A5}{a6:A6}{a7:A7}{k:Nat→A1→A2→A3→A4→A5→A6→A7→Option γ}{r:γ}(ha:Ev A (a1,a2,a3,a4,a5,a6,a7)) (hk:Ev (fun n=>k n a1 a2 a3 a4 a5 a6 a7) r):Ev (fun n=>bO7 (A n) (k n)) r:=by
 obtain⟨N,ha⟩:=ha
 obtain⟨M,hk⟩:=hk
 refine⟨N+M,fun n hn=>?_⟩
 show Go.AM.bO7 (A n) (k n)=some r
 rw[ha n (by omega)]
 exact hk n (by omega)
theorem Ev.bO8 {A1 A2 A3 A4 A5 A6 A7 A8 γ:Type}{A:Nat→Option (A1×A2×A3×A4×A5×A6×A7×A8)}{a1:A1}{a2:A2}{a3:A3}{a4:A4}{a5:A5}{a6:A6}{a7:A7}{a8:A8}{k:Nat→A1→A2→A3→A4→A5→A6→A7→A8→Option γ}{r:γ}(ha:Ev A (a1,a2,a3,a4,a5,a6,a7,a8)) (hk:Ev (fun n=>k n a1 a2 a3 a4 a5 a6 a7 a8) r):Ev (fun n=>bO8 (A n) (k n)) r:=by
 obtain⟨N,ha⟩:=ha
 obtain⟨M,hk⟩:=hk
 refine⟨N+M,fun n hn=>?_⟩
 show Go.AM.bO8 (A n) (k n)=some r
 rw[ha n (by omega)]
 exact hk n (by omega)
theorem Ev.bO9 {A1 A2 A3 A4 A5 A6 A7 A8 A9 γ:Type}{A:Nat→Option (A1×A2×A3×A4×A5×A6×A7×A8×A9)}{a1:A1}{a2:A2}{a3:A3}{a4:A4}{a5:A5}{a6:A6}{a7:A7}{a8:A8}{a9:A9}{k:Nat→A1→A2→A3→A4→A5→A6→A7→A8→A9→Option γ}{r:γ}(ha:Ev A (a1,a2,a3,a4,a5,a6,a7,a8,a9)) (hk:Ev (fun n=>k n a1 a2 a3 a4 a5 a6 a7 a8 a9) r):Ev (fun n=>bO9 (A n) (k n)) r:=by
 obtain⟨N,ha⟩:=ha
 obtain⟨M,hk⟩:=hk
 refine⟨N+M,fun n hn=>?_⟩
 show Go.AM.bO9 (A n) (k n)=some r
 rw[ha n (by omega)]
 exact hk n (by omega)
theorem Ev.bO10 {A1 A2 A3 A4 A5 A6 A7 A8 A9 A10 γ:Type}{A:Nat→Option (A1×A2×A3×A4×A5×A6×A7×A8×A9×A10)}{a1:A1}{a2:A2}{a3:A3}{a4:A4}{a5:A5}{a6:A6}{a7:A7}{a8:A8}{a9:A9}{a10:A10}{k:Nat→A1→A2→A3→A4→A5→A6→A7→A8→A9→A10→Option γ}{r:γ}(ha:Ev A (a1,a2,a3,a4,a5,a6,a7,a8,a9,a10)) (hk:Ev (fun n=>k n a1 a2 a3 a4 a5 a6 a7 a8 a9 a10) r):Ev (fun n=>bO10 (A n) (k n)) r:=by
 obtain⟨N,ha⟩:=ha
 obtain⟨M,hk⟩:=hk
 refine⟨N+M,fun n hn=>?_⟩
 show Go.AM.bO10 (A n) (k n)=some r
 rw[ha n (by omega)]
 exact hk n (by omega)
theorem Ev.bO11 {A1 A2 A3 A4 A5 A6 A7 A8 A9 A10 A11 γ:Type}{A:Nat→Option (A1×A2×A3×A4×A5×A6×A7×A8×A9×A10×A11)}{a1:A1}{a2:A2}{a3:A3}{a4:A4}{a5:A5}{a6:A6}{a7:A7}{a8:A8}{a9:A9}{a10:A10}{a11:A11}{k:Nat→A1→A2→A3→A4→A5→A6→A7→A8→A9→A10→A11→Option γ}{r:γ}(ha:Ev A (a1,a2,a3,a4,a5,a6,a7,a8,a9,a10,a11)) (hk:Ev (fun n=>k n a1 a2 a3 a4 a5 a6 a7 a8 a9 a10 a11) r):Ev (fun n=>bO11 (A n) (k n)) r:=by
 obtain⟨N,ha⟩:=ha
 obtain⟨M,hk⟩:=hk
 refine⟨N+M,fun n hn=>?_⟩
 show Go.AM.bO11 (A n) (k n)=some r
 rw[ha n (by omega)]
 exact hk n (by omega)
theorem Ev.bO13 {A1 A2 A3 A4 A5 A6 A7 A8 A9 A10 A11 A12 A13 γ:Type}{A:Nat→Option (A1×A2×A3×A4×A5×A6×A7×A8×A9×A10×A11×A12×A13)}{a1:A1}{a2:A2}{a3:A3}{a4:A4}{a5:A5}{a6:A6}{a7:A7}{a8:A8}{a9:A9}{a10:A10}{a11:A11}{a12:A12}{a13:A13}{k:Nat→A1→A2→A3→A4→A5→A6→A7→A8→A9→A10→A11→A12→A13→Option γ}{r:γ}(ha:Ev A (a1,a2,a3,a4,a5,a6,a7,a8,a9,a10,a11,a12,a13)) (hk:Ev (fun n=>k n a1 a2 a3 a4 a5 a6 a7 a8 a9 a10 a11 a12 a13) r):Ev (fun n=>bO13 (A n) (k n)) r:=by
 obtain⟨N,ha⟩:=ha
 obtain⟨M,hk⟩:=hk
 refine⟨N+M,fun n hn=>?_⟩
 show Go.AM.bO13 (A n) (k n)=some r
 rw[ha n (by omega)]
 exact hk n (by omega)
theorem Ev.bO14 {A1 A2 A3 A4 A5 A6 A7 A8 A9 A10 A11 A12 A13 A14 γ:Type}{A:Nat→Option (A1×A2×A3×A4×A5×A6×A7×A8×A9×A10×A11×A12×A13×A14)}{a1:A1}{a2:A2}{a3:A3}{a4:A4}{a5:A5}{a6:A6}{a7:A7}{a8:A8}{a9:A9}{a10:A10}{a11:A11}{a12:A12}{a13:A13}{a14:A14}{k:Nat→A1→A2→A3→A4→A5→A6→A7→A8→A9→A10→A11→A12→A13→A14→Option γ}{r:γ}(ha:Ev A (a1,a2,a3,a4,a5,a6,a7,a8,a9,a10,a11,a12,a13,a14)) (hk:Ev (fun n=>k n a1 a2 a3 a4 a5 a6 a7 a8 a9 a10 a11 a12 a13 a14) r):Ev (fun n=>bO14 (A n) (k n)) r:=by
 obtain⟨N,ha⟩:=ha
 obtain⟨M,hk⟩:=hk
 refine⟨N+M,fun n hn=>?_⟩
 show Go.AM.bO14 (A n) (k n)=some r
 rw[ha n (by omega)]
 exact hk n (by omega)
theorem Ev.bO16 {A1 A2 A3 A4 A5 A6 A7 A8 A9 A10 A11 A12 A13 A14 A15 A16 γ:Type}{A:Nat→Option (A1×A2×A3×A4×A5×A6×A7×A8×A9×A10×A11×A12×A13×A14×A15×A16)}{a1:A1}{a2:A2}{a3:A3}{a4:A4}{a5:A5}{a6:A6}{a7:A7}{a8:A8}{a9:A9}{a10:A10}{a11:A11}{a12:A12}{a13:A13}{a14:A14}{a15:A15}{a16:A16}{k:Nat→A1→A2→A3→A4→A5→A6→A7→A8→A9→A10→A11→A12→A13→A14→A15→A16→Option γ}{r:γ}(ha:Ev A (a1,a2,a3,a4,a5,a6,a7,a8,a9,a10,a11,a12,a13,a14,a15,a16)) (hk:Ev (fun n=>k n a1 a2 a3 a4 a5 a6 a7 a8 a9 a10 a11 a12 a13 a14 a15 a16) r):Ev (fun n=>bO16 (A n) (k n)) r:=by
 obtain⟨N,ha⟩:=ha
 obtain⟨M,hk⟩:=hk
 refine⟨N+M,fun n hn=>?_⟩
 show Go.AM.bO16 (A n) (k n)=some r
 rw[ha n (by omega)]
 exact hk n (by omega)
theorem Ev.bO18 {A1 A2 A3 A4 A5 A6 A7 A8 A9 A10 A11 A12 A13 A14 A15 A16 A17 A18 γ:Type}{A:Nat→Option (A1×A2×A3×A4×A5×A6×A7×A8×A9×A10×A11×A12×A13×A14×A15×A16×A17×A18)}{a1:A1}{a2:A2}{a3:A3}{a4:A4}{a5:A5}{a6:A6}{a7:A7}{a8:A8}{a9:A9}{a10:A10}{a11:A11}{a12:A12}{a13:A13}{a14:A14}{a15:A15}{a16:A16}{a17:A17}{a18:A18}{k:Nat→A1→A2→A3→A4→A5→A6→A7→A8→A9→A10→A11→A12→A13→A14→A15→A16→A17→A18→Option γ}{r:γ}(ha:Ev A (a1,a2,a3,a4,a5,a6,a7,a8,a9,a10,a11,a12,a13,a14,a15,a16,a17,a18)) (hk:Ev (fun n=>k n a1 a2 a3 a4 a5 a6 a7 a8 a9 a10 a11 a12 a13 a14 a15 a16 a17 a18) r):Ev (fun n=>bO18 (A n) (k n)) r:=by
 obtain⟨N,ha⟩:=ha
 obtain⟨M,hk⟩:=hk
 refine⟨N+M,fun n hn=>?_⟩
 show Go.AM.bO18 (A n) (k n)=some r
 rw[ha n (by omega)]
 exact hk n (by omega)
theorem Ev.bO20 {A1 A2 A3 A4 A5 A6 A7 A8 A9 A10 A11 A12 A13 A14 A15 A16 A17 A18 A19 A20 γ:Type}{A:Nat→Option (A1×A2×A3×A4×A5×A6×A7×A8×A9×A10×A11×A12×A13×A14×A15×A16×A17×A18×A19×A20)}{a1:A1}{a2:A2}{a3:A3}{a4:A4}{a5:A5}{a6:A6}{a7:A7}{a8:A8}{a9:A9}{a10:A10}{a11:A11}{a12:A12}{a13:A13}{a14:A14}{a15:A15}{a16:A16}{a17:A17}{a18:A18}{a19:A19}{a20:A20}{k:Nat→A1→A2→A3→A4→A5→A6→A7→A8→A9→A10→A11→A12→A13→A14→A15→A16→A17→A18→A19→A20→Option γ}{r:γ}(ha:Ev A (a1,a2,a3,a4,a5,a6,a7,a8,a9,a10,a11,a12,a13,a14,a15,a16,a17,a18,a19,a20)) (hk:Ev (fun n=>k n a1 a2 a3 a4 a5 a6 a7 a8 a9 a10 a11 a12 a13 a14 a15 a16 a17 a18 a19 a20) r):Ev (fun n=>bO20 (A n) (k n)) r:=by
 obtain⟨N,ha⟩:=ha
 obtain⟨M,hk⟩:=hk
 refine⟨N+M,fun n hn=>?_⟩
 show Go.AM.bO20 (A n) (k n)=some r
 rw[ha n (by omega)]
 exact hk n (by omega)
end Go.AM
namespace Go.Proofs.Ytiiojajgajnhpaa
open Go Go.AM
def tabC0:List (Nat×TI):=[(1,⟨.func #[] #[] false,1,8,.nilFunc,[.nilf]⟩),
 (2,⟨.int .i64,1,8,.int .i64 0,[.d (.int .i64 0)]⟩),
 (3,⟨.int .i64,1,8,.int .i64 0,[.d (.int .i64 0)]⟩),
 (4,⟨.bool,1,1,.bool false,[.d (.bool false)]⟩),
 (5,⟨.int .u8,1,1,.int .u8 0,[.d (.int .u8 0)]⟩),
 (6,⟨.int .u8,1,1,.int .u8 0,[.d (.int .u8 0)]⟩),
 (7,⟨.struct #[⟨"x",2,0,false, "", "runtime",0⟩,⟨"y",3,1,false, "", "runtime",8⟩,⟨"signed",4,2,false, "", "runtime",16⟩,⟨"code",6,3,false, "", "runtime",17⟩],4,24,.agg #[.int .i64 0,.int .i64 0,.bool false,.int .u8 0],[.d (.int .i64 0),.d (.int .i64 0),.d (.bool false),.d (.int .u8 0)]⟩),
 (8,⟨.struct #[⟨"x",2,0,false, "", "runtime",0⟩,⟨"y",3,1,false, "", "runtime",8⟩,⟨"signed",4,2,false, "", "runtime",16⟩,⟨"code",6,3,false, "", "runtime",17⟩],4,24,.agg #[.int .i64 0,.int .i64 0,.bool false,.int .u8 0],[.d (.int .i64 0),.d (.int .i64 0),.d (.bool false),.d (.int .u8 0)]⟩),
 (9,⟨.string,1,16,.string ByteArray.empty,[.d (.str ByteArray.empty)]⟩),
 (10,⟨.string,1,16,.string ByteArray.empty,[.d (.str ByteArray.empty)]⟩),
 (11,⟨.string,1,16,.string ByteArray.empty,[.d (.str ByteArray.empty)]⟩),
 (12,⟨.int .u64,1,8,.int .u64 0,[.d (.int .u64 0)]⟩),
 (13,⟨.struct #[⟨"msg",9,0,false, "", "runtime",0⟩,⟨"addr",12,1,false, "", "runtime",16⟩],2,24,.agg #[.string ByteArray.empty,.int .u64 0],[.d (.str ByteArray.empty),.d (.int .u64 0)]⟩),
 (14,⟨.struct #[⟨"msg",9,0,false, "", "runtime",0⟩,⟨"addr",12,1,false, "", "runtime",16⟩],2,24,.agg #[.string ByteArray.empty,.int .u64 0],[.d (.str ByteArray.empty),.d (.int .u64 0)]⟩),
 (15,⟨.pointer 209,1,8,.pointer none,[.nilp]⟩)]
def tabC1:List (Nat×TI):=[(16,⟨.pointer 212,1,8,.pointer none,[.nilp]⟩),
 (17,⟨.pointer 221,1,8,.pointer none,[.nilp]⟩),
 (18,⟨.struct #[⟨"typ",17,0,false, "", "internal/runtime/maps",0⟩],1,8,.agg #[.pointer none],[.nilp]⟩),
 (19,⟨.struct #[⟨"typ",17,0,false, "", "internal/runtime/maps",0⟩],1,8,.agg #[.pointer none],[.nilp]⟩),
 (21,⟨.int .i32,1,4,.int .i32 0,[.d (.int .i32 0)]⟩),
 (22,⟨.slice 126,1,24,.slice none 0 0,[.nils true 16]⟩),
 (23,⟨.struct #[⟨"Items",22,0,false, "", "",0⟩],1,24,.agg #[.slice none 0 0],[.nils true 16]⟩),
 (24,⟨.struct #[⟨"Items",22,0,false, "", "",0⟩],1,24,.agg #[.slice none 0 0],[.nils true 16]⟩),
 (25,⟨.slice 27,1,24,.slice none 0 0,[.nils true 3]⟩),
 (26,⟨.struct #[⟨"Kind",5,0,false, "", "",0⟩,⟨"Name",9,1,false, "", "",8⟩,⟨"Args",25,2,false, "", "",24⟩],3,48,.agg #[.int .u8 0,.string ByteArray.empty,.slice none 0 0],[.d (.int .u8 0),.d (.str ByteArray.empty),.nils true 3]⟩),
 (27,⟨.struct #[⟨"Kind",5,0,false, "", "",0⟩,⟨"Name",9,1,false, "", "",8⟩,⟨"Args",25,2,false, "", "",24⟩],3,48,.agg #[.int .u8 0,.string ByteArray.empty,.slice none 0 0],[.d (.int .u8 0),.d (.str ByteArray.empty),.nils true 3]⟩),
 (28,⟨.slice 9,1,24,.slice none 0 0,[.nils false 1]⟩),
 (29,⟨.struct #[⟨"Name",9,0,false, "", "",0⟩,⟨"Path",28,1,false, "", "",16⟩],2,40,.agg #[.string ByteArray.empty,.slice none 0 0],[.d (.str ByteArray.empty),.nils false 1]⟩),
 (30,⟨.struct #[⟨"Name",9,0,false, "", "",0⟩,⟨"Path",28,1,false, "", "",16⟩],2,40,.agg #[.string ByteArray.empty,.slice none 0 0],[.d (.str ByteArray.empty),.nils false 1]⟩),
 (31,⟨.slice 33,1,24,.slice none 0 0,[.nils true 8]⟩)]
def tabC2:List (Nat×TI):=[(32,⟨.struct #[⟨"Op",5,0,false, "", "",0⟩,⟨"Int",2,1,false, "", "",8⟩,⟨"Name",9,2,false, "", "",16⟩,⟨"Second",9,3,false, "", "",32⟩,⟨"Place",30,4,false, "", "",48⟩,⟨"Args",31,6,false, "", "",88⟩,⟨"At",3,7,false, "", "",112⟩],8,120,.agg #[.int .u8 0,.int .i64 0,.string ByteArray.empty,.string ByteArray.empty,.string ByteArray.empty,.slice none 0 0,.slice none 0 0,.int .i64 0],[.d (.int .u8 0),.d (.int .i64 0),.d (.str ByteArray.empty),.d (.str ByteArray.empty),.d (.str ByteArray.empty),.nils false 1,.nils true 8,.d (.int .i64 0)]⟩),
 (33,⟨.struct #[⟨"Op",5,0,false, "", "",0⟩,⟨"Int",2,1,false, "", "",8⟩,⟨"Name",9,2,false, "", "",16⟩,⟨"Second",9,3,false, "", "",32⟩,⟨"Place",30,4,false, "", "",48⟩,⟨"Args",31,6,false, "", "",88⟩,⟨"At",3,7,false, "", "",112⟩],8,120,.agg #[.int .u8 0,.int .i64 0,.string ByteArray.empty,.string ByteArray.empty,.string ByteArray.empty,.slice none 0 0,.slice none 0 0,.int .i64 0],[.d (.int .u8 0),.d (.int .i64 0),.d (.str ByteArray.empty),.d (.str ByteArray.empty),.d (.str ByteArray.empty),.nils false 1,.nils true 8,.d (.int .i64 0)]⟩),
 (34,⟨.func #[24] #[4] false,1,8,.nilFunc,[.nilf]⟩),
 (35,⟨.func #[27] #[4] false,1,8,.nilFunc,[.nilf]⟩),
 (36,⟨.func #[33] #[4] false,1,8,.nilFunc,[.nilf]⟩),
 (37,⟨.func #[24,24] #[4] false,1,8,.nilFunc,[.nilf]⟩),
 (38,⟨.func #[24,24,4] #[4] false,1,8,.nilFunc,[.nilf]⟩),
 (39,⟨.func #[27,27] #[4] false,1,8,.nilFunc,[.nilf]⟩),
 (40,⟨.func #[33,33] #[4] false,1,8,.nilFunc,[.nilf]⟩),
 (41,⟨.func #[33,33,4] #[4] false,1,8,.nilFunc,[.nilf]⟩),
 (42,⟨.func #[24,24,27,27,33,33] #[4] false,1,8,.nilFunc,[.nilf]⟩),
 (43,⟨.func #[24,4] #[24] false,1,8,.nilFunc,[.nilf]⟩),
 (44,⟨.func #[24] #[24] false,1,8,.nilFunc,[.nilf]⟩),
 (45,⟨.func #[24] #[] false,1,8,.nilFunc,[.nilf]⟩),
 (46,⟨.slice 49,1,24,.slice none 0 0,[.nils true 6]⟩),
 (47,⟨.slice 3,1,24,.slice none 0 0,[.nils false 1]⟩)]
def tabC3:List (Nat×TI):=[(48,⟨.struct #[⟨"Kind",5,0,false, "", "",0⟩,⟨"Int",2,1,false, "", "",8⟩,⟨"Name",9,2,false, "", "",16⟩,⟨"Fields",46,3,false, "", "",32⟩,⟨"ID",3,4,false, "", "",56⟩,⟨"Path",47,5,false, "", "",64⟩],6,88,.agg #[.int .u8 0,.int .i64 0,.string ByteArray.empty,.slice none 0 0,.int .i64 0,.slice none 0 0],[.d (.int .u8 0),.d (.int .i64 0),.d (.str ByteArray.empty),.nils true 6,.d (.int .i64 0),.nils false 1]⟩),
 (49,⟨.struct #[⟨"Kind",5,0,false, "", "",0⟩,⟨"Int",2,1,false, "", "",8⟩,⟨"Name",9,2,false, "", "",16⟩,⟨"Fields",46,3,false, "", "",32⟩,⟨"ID",3,4,false, "", "",56⟩,⟨"Path",47,5,false, "", "",64⟩],6,88,.agg #[.int .u8 0,.int .i64 0,.string ByteArray.empty,.slice none 0 0,.int .i64 0,.slice none 0 0],[.d (.int .u8 0),.d (.int .i64 0),.d (.str ByteArray.empty),.nils true 6,.d (.int .i64 0),.nils false 1]⟩),
 (50,⟨.func #[49,49,47] #[4] false,1,8,.nilFunc,[.nilf]⟩),
 (51,⟨.func #[49] #[49] false,1,8,.nilFunc,[.nilf]⟩),
 (53,⟨.func #[49,47] #[49,5] false,1,8,.nilFunc,[.nilf]⟩),
 (55,⟨.func #[49,47] #[49,3] false,1,8,.nilFunc,[.nilf]⟩),
 (56,⟨.func #[49,47,49] #[49,5] false,1,8,.nilFunc,[.nilf]⟩),
 (57,⟨.func #[49,47,49] #[49,3] false,1,8,.nilFunc,[.nilf]⟩),
 (58,⟨.func #[49,49] #[4] false,1,8,.nilFunc,[.nilf]⟩),
 (59,⟨.func #[49] #[] false,1,8,.nilFunc,[.nilf]⟩),
 (60,⟨.struct #[⟨"Kind",3,0,false, "", "",0⟩,⟨"ID",3,1,false, "", "",8⟩,⟨"Room",3,2,false, "", "",16⟩,⟨"V",49,3,false, "", "",24⟩],9,112,.agg #[.int .i64 0,.int .i64 0,.int .i64 0,.int .u8 0,.int .i64 0,.string ByteArray.empty,.slice none 0 0,.int .i64 0,.slice none 0 0],[.d (.int .i64 0),.d (.int .i64 0),.d (.int .i64 0),.d (.int .u8 0),.d (.int .i64 0),.d (.str ByteArray.empty),.nils true 6,.d (.int .i64 0),.nils false 1]⟩),
 (61,⟨.struct #[⟨"Kind",3,0,false, "", "",0⟩,⟨"ID",3,1,false, "", "",8⟩,⟨"Room",3,2,false, "", "",16⟩,⟨"V",49,3,false, "", "",24⟩],9,112,.agg #[.int .i64 0,.int .i64 0,.int .i64 0,.int .u8 0,.int .i64 0,.string ByteArray.empty,.slice none 0 0,.int .i64 0,.slice none 0 0],[.d (.int .i64 0),.d (.int .i64 0),.d (.int .i64 0),.d (.int .u8 0),.d (.int .i64 0),.d (.str ByteArray.empty),.nils true 6,.d (.int .i64 0),.nils false 1]⟩),
 (62,⟨.func #[63] #[4] false,1,8,.nilFunc,[.nilf]⟩),
 (63,⟨.slice 61,1,24,.slice none 0 0,[.nils true 9]⟩)]
def tabC4:List (Nat×TI):=[(64,⟨.pointer 67,1,8,.pointer none,[.nilp]⟩),
 (65,⟨.map 3 161,1,8,.map none,[.nilm]⟩),
 (66,⟨.struct #[⟨"m",65,0,false, "", "weftway/queues",0⟩],1,8,.agg #[.map none],[.nilm]⟩),
 (67,⟨.struct #[⟨"m",65,0,false, "", "weftway/queues",0⟩],1,8,.agg #[.map none],[.nilm]⟩),
 (68,⟨.slice 64,1,24,.slice none 0 0,[.nils false 1]⟩),
 (69,⟨.func #[3,3] #[] false,1,8,.nilFunc,[.nilf]⟩),
 (71,⟨.func #[3] #[49,4] false,1,8,.nilFunc,[.nilf]⟩),
 (72,⟨.func #[3,49] #[4] false,1,8,.nilFunc,[.nilf]⟩),
 (73,⟨.func #[3] #[4] false,1,8,.nilFunc,[.nilf]⟩),
 (74,⟨.func #[3] #[46] false,1,8,.nilFunc,[.nilf]⟩),
 (75,⟨.func #[61] #[4] false,1,8,.nilFunc,[.nilf]⟩),
 (76,⟨.func #[] #[64] false,1,8,.nilFunc,[.nilf]⟩),
 (77,⟨.pointer 80,1,8,.pointer none,[.nilp]⟩),
 (78,⟨.slice 171,1,24,.slice none 0 0,[.nils true 3]⟩),
 (79,⟨.struct #[⟨"L",78,0,false, "", "",0⟩],1,24,.agg #[.slice none 0 0],[.nils true 3]⟩)]
def tabC5:List (Nat×TI):=[(80,⟨.struct #[⟨"L",78,0,false, "", "",0⟩],1,24,.agg #[.slice none 0 0],[.nils true 3]⟩),
 (81,⟨.func #[64,77,61] #[4] false,1,8,.nilFunc,[.nilf]⟩),
 (82,⟨.func #[] #[4] false,1,8,.nilFunc,[.nilf]⟩),
 (83,⟨.func #[46,46] #[4] false,1,8,.nilFunc,[.nilf]⟩),
 (84,⟨.func #[3,63] #[4] false,1,8,.nilFunc,[.nilf]⟩),
 (85,⟨.func #[63,3] #[4] false,1,8,.nilFunc,[.nilf]⟩),
 (86,⟨.func #[2] #[49] false,1,8,.nilFunc,[.nilf]⟩),
 (87,⟨.func #[3,3] #[4] false,1,8,.nilFunc,[.nilf]⟩),
 (88,⟨.func #[3,3,3] #[4] false,1,8,.nilFunc,[.nilf]⟩),
 (89,⟨.struct #[⟨"Kind",3,0,false, "", "",0⟩,⟨"ID",3,1,false, "", "",8⟩,⟨"Path",47,2,false, "", "",16⟩,⟨"V",49,3,false, "", "",40⟩],9,128,.agg #[.int .i64 0,.int .i64 0,.slice none 0 0,.int .u8 0,.int .i64 0,.string ByteArray.empty,.slice none 0 0,.int .i64 0,.slice none 0 0],[.d (.int .i64 0),.d (.int .i64 0),.nils false 1,.d (.int .u8 0),.d (.int .i64 0),.d (.str ByteArray.empty),.nils true 6,.d (.int .i64 0),.nils false 1]⟩),
 (90,⟨.struct #[⟨"Kind",3,0,false, "", "",0⟩,⟨"ID",3,1,false, "", "",8⟩,⟨"Path",47,2,false, "", "",16⟩,⟨"V",49,3,false, "", "",40⟩],9,128,.agg #[.int .i64 0,.int .i64 0,.slice none 0 0,.int .u8 0,.int .i64 0,.string ByteArray.empty,.slice none 0 0,.int .i64 0,.slice none 0 0],[.d (.int .i64 0),.d (.int .i64 0),.nils false 1,.d (.int .u8 0),.d (.int .i64 0),.d (.str ByteArray.empty),.nils true 6,.d (.int .i64 0),.nils false 1]⟩),
 (91,⟨.func #[92] #[4] false,1,8,.nilFunc,[.nilf]⟩),
 (92,⟨.slice 90,1,24,.slice none 0 0,[.nils true 9]⟩),
 (93,⟨.pointer 96,1,8,.pointer none,[.nilp]⟩),
 (94,⟨.map 3 173,1,8,.map none,[.nilm]⟩),
 (95,⟨.struct #[⟨"cells",94,0,false, "", "weftway/heap",0⟩,⟨"left",3,1,false, "", "weftway/heap",8⟩],2,16,.agg #[.map none,.int .i64 0],[.nilm,.d (.int .i64 0)]⟩)]
def tabC6:List (Nat×TI):=[(96,⟨.struct #[⟨"cells",94,0,false, "", "weftway/heap",0⟩,⟨"left",3,1,false, "", "weftway/heap",8⟩],2,16,.agg #[.map none,.int .i64 0],[.nilm,.d (.int .i64 0)]⟩),
 (97,⟨.slice 93,1,24,.slice none 0 0,[.nils false 1]⟩),
 (98,⟨.int .i64,1,8,.int .i64 0,[.d (.int .i64 0)]⟩),
 (100,⟨.func #[49] #[3,98] false,1,8,.nilFunc,[.nilf]⟩),
 (101,⟨.func #[3,47] #[49,5] false,1,8,.nilFunc,[.nilf]⟩),
 (102,⟨.func #[3,47,49] #[49,5] false,1,8,.nilFunc,[.nilf]⟩),
 (103,⟨.func #[3] #[49,5] false,1,8,.nilFunc,[.nilf]⟩),
 (104,⟨.func #[3,47,49] #[5] false,1,8,.nilFunc,[.nilf]⟩),
 (105,⟨.func #[] #[3] false,1,8,.nilFunc,[.nilf]⟩),
 (106,⟨.func #[90] #[4] false,1,8,.nilFunc,[.nilf]⟩),
 (107,⟨.func #[] #[93] false,1,8,.nilFunc,[.nilf]⟩),
 (108,⟨.pointer 113,1,8,.pointer none,[.nilp]⟩),
 (109,⟨.func #[] #[108] false,1,8,.nilFunc,[.nilf]⟩),
 (110,⟨.func #[93,108,90] #[4] false,1,8,.nilFunc,[.nilf]⟩),
 (111,⟨.slice 183,1,24,.slice none 0 0,[.nils true 7]⟩)]
def tabC7:List (Nat×TI):=[(112,⟨.struct #[⟨"Cells",111,0,false, "", "",0⟩],1,24,.agg #[.slice none 0 0],[.nils true 7]⟩),
 (113,⟨.struct #[⟨"Cells",111,0,false, "", "",0⟩],1,24,.agg #[.slice none 0 0],[.nils true 7]⟩),
 (114,⟨.func #[3] #[3] false,1,8,.nilFunc,[.nilf]⟩),
 (115,⟨.func #[3,92] #[4] false,1,8,.nilFunc,[.nilf]⟩),
 (116,⟨.slice 4,1,24,.slice none 0 0,[.nils false 1]⟩),
 (118,⟨.func #[93] #[46,116] false,1,8,.nilFunc,[.nilf]⟩),
 (119,⟨.func #[93,90] #[4] false,1,8,.nilFunc,[.nilf]⟩),
 (120,⟨.pointer 122,1,8,.pointer none,[.nilp]⟩),
 (121,⟨.struct #[⟨"Left",3,0,false, "", "",0⟩],1,8,.agg #[.int .i64 0],[.d (.int .i64 0)]⟩),
 (122,⟨.struct #[⟨"Left",3,0,false, "", "",0⟩],1,8,.agg #[.int .i64 0],[.d (.int .i64 0)]⟩),
 (123,⟨.slice 136,1,24,.slice none 0 0,[.nils true 4]⟩),
 (124,⟨.slice 152,1,24,.slice none 0 0,[.nils true 15]⟩),
 (125,⟨.struct #[⟨"Kind",5,0,false, "", "",0⟩,⟨"Name",9,1,false, "", "",8⟩,⟨"Fields",123,2,false, "", "",24⟩,⟨"Result",27,3,false, "", "",48⟩,⟨"Body",124,6,false, "", "",96⟩,⟨"Return",33,7,false, "", "",120⟩,⟨"At",3,15,false, "", "",240⟩],16,248,.agg #[.int .u8 0,.string ByteArray.empty,.slice none 0 0,.int .u8 0,.string ByteArray.empty,.slice none 0 0,.slice none 0 0,.int .u8 0,.int .i64 0,.string ByteArray.empty,.string ByteArray.empty,.string ByteArray.empty,.slice none 0 0,.slice none 0 0,.int .i64 0,.int .i64 0],[.d (.int .u8 0),.d (.str ByteArray.empty),.nils true 4,.d (.int .u8 0),.d (.str ByteArray.empty),.nils true 3,.nils true 15,.d (.int .u8 0),.d (.int .i64 0),.d (.str ByteArray.empty),.d (.str ByteArray.empty),.d (.str ByteArray.empty),.nils false 1,.nils true 8,.d (.int .i64 0),.d (.int .i64 0)]⟩),
 (126,⟨.struct #[⟨"Kind",5,0,false, "", "",0⟩,⟨"Name",9,1,false, "", "",8⟩,⟨"Fields",123,2,false, "", "",24⟩,⟨"Result",27,3,false, "", "",48⟩,⟨"Body",124,6,false, "", "",96⟩,⟨"Return",33,7,false, "", "",120⟩,⟨"At",3,15,false, "", "",240⟩],16,248,.agg #[.int .u8 0,.string ByteArray.empty,.slice none 0 0,.int .u8 0,.string ByteArray.empty,.slice none 0 0,.slice none 0 0,.int .u8 0,.int .i64 0,.string ByteArray.empty,.string ByteArray.empty,.string ByteArray.empty,.slice none 0 0,.slice none 0 0,.int .i64 0,.int .i64 0],[.d (.int .u8 0),.d (.str ByteArray.empty),.nils true 4,.d (.int .u8 0),.d (.str ByteArray.empty),.nils true 3,.nils true 15,.d (.int .u8 0),.d (.int .i64 0),.d (.str ByteArray.empty),.d (.str ByteArray.empty),.d (.str ByteArray.empty),.nils false 1,.nils true 8,.d (.int .i64 0),.d (.int .i64 0)]⟩),
 (127,⟨.func #[9] #[] false,1,8,.nilFunc,[.nilf]⟩)]
def tabC8:List (Nat×TI):=[(128,⟨.func #[123] #[] false,1,8,.nilFunc,[.nilf]⟩),
 (129,⟨.func #[27] #[] false,1,8,.nilFunc,[.nilf]⟩),
 (130,⟨.func #[124] #[] false,1,8,.nilFunc,[.nilf]⟩),
 (131,⟨.func #[33] #[] false,1,8,.nilFunc,[.nilf]⟩),
 (132,⟨.func #[22,22,138] #[4] false,1,8,.nilFunc,[.nilf]⟩),
 (133,⟨.func #[124,124] #[4] false,1,8,.nilFunc,[.nilf]⟩),
 (134,⟨.func #[123,123,137] #[4] false,1,8,.nilFunc,[.nilf]⟩),
 (135,⟨.struct #[⟨"Name",9,0,false, "", "",0⟩,⟨"Type",27,1,false, "", "",16⟩],4,64,.agg #[.string ByteArray.empty,.int .u8 0,.string ByteArray.empty,.slice none 0 0],[.d (.str ByteArray.empty),.d (.int .u8 0),.d (.str ByteArray.empty),.nils true 3]⟩),
 (136,⟨.struct #[⟨"Name",9,0,false, "", "",0⟩,⟨"Type",27,1,false, "", "",16⟩],4,64,.agg #[.string ByteArray.empty,.int .u8 0,.string ByteArray.empty,.slice none 0 0],[.d (.str ByteArray.empty),.d (.int .u8 0),.d (.str ByteArray.empty),.nils true 3]⟩),
 (137,⟨.func #[136,136] #[4] false,1,8,.nilFunc,[.nilf]⟩),
 (138,⟨.func #[126,126] #[4] false,1,8,.nilFunc,[.nilf]⟩),
 (139,⟨.func #[123,123] #[4] false,1,8,.nilFunc,[.nilf]⟩),
 (140,⟨.func #[124,124,4] #[4] false,1,8,.nilFunc,[.nilf]⟩),
 (141,⟨.func #[25,25,39] #[4] false,1,8,.nilFunc,[.nilf]⟩),
 (142,⟨.func #[30,30] #[4] false,1,8,.nilFunc,[.nilf]⟩),
 (143,⟨.func #[31,31,40] #[4] false,1,8,.nilFunc,[.nilf]⟩)]
def tabC9:List (Nat×TI):=[(144,⟨.func #[31,31,4] #[4] false,1,8,.nilFunc,[.nilf]⟩),
 (145,⟨.func #[123] #[123] false,1,8,.nilFunc,[.nilf]⟩),
 (146,⟨.func #[27] #[27] false,1,8,.nilFunc,[.nilf]⟩),
 (147,⟨.func #[124,4] #[124] false,1,8,.nilFunc,[.nilf]⟩),
 (148,⟨.func #[33,4] #[33] false,1,8,.nilFunc,[.nilf]⟩),
 (149,⟨.func #[24,114] #[24] false,1,8,.nilFunc,[.nilf]⟩),
 (150,⟨.slice 154,1,24,.slice none 0 0,[.nils true 3]⟩),
 (151,⟨.struct #[⟨"Op",5,0,false, "", "",0⟩,⟨"Name",9,1,false, "", "",8⟩,⟨"Second",9,2,false, "", "",24⟩,⟨"Names",28,3,false, "", "",40⟩,⟨"Type",27,4,false, "", "",64⟩,⟨"Int",2,7,false, "", "",112⟩,⟨"Place",30,8,false, "", "",120⟩,⟨"Exprs",31,10,false, "", "",160⟩,⟨"Body",124,11,false, "", "",184⟩,⟨"Else",124,12,false, "", "",208⟩,⟨"Arms",150,13,false, "", "",232⟩,⟨"At",3,14,false, "", "",256⟩],15,264,.agg #[.int .u8 0,.string ByteArray.empty,.string ByteArray.empty,.slice none 0 0,.int .u8 0,.string ByteArray.empty,.slice none 0 0,.int .i64 0,.string ByteArray.empty,.slice none 0 0,.slice none 0 0,.slice none 0 0,.slice none 0 0,.slice none 0 0,.int .i64 0],[.d (.int .u8 0),.d (.str ByteArray.empty),.d (.str ByteArray.empty),.nils false 1,.d (.int .u8 0),.d (.str ByteArray.empty),.nils true 3,.d (.int .i64 0),.d (.str ByteArray.empty),.nils false 1,.nils true 8,.nils true 15,.nils true 15,.nils true 3,.d (.int .i64 0)]⟩),
 (152,⟨.struct #[⟨"Op",5,0,false, "", "",0⟩,⟨"Name",9,1,false, "", "",8⟩,⟨"Second",9,2,false, "", "",24⟩,⟨"Names",28,3,false, "", "",40⟩,⟨"Type",27,4,false, "", "",64⟩,⟨"Int",2,7,false, "", "",112⟩,⟨"Place",30,8,false, "", "",120⟩,⟨"Exprs",31,10,false, "", "",160⟩,⟨"Body",124,11,false, "", "",184⟩,⟨"Else",124,12,false, "", "",208⟩,⟨"Arms",150,13,false, "", "",232⟩,⟨"At",3,14,false, "", "",256⟩],15,264,.agg #[.int .u8 0,.string ByteArray.empty,.string ByteArray.empty,.slice none 0 0,.int .u8 0,.string ByteArray.empty,.slice none 0 0,.int .i64 0,.string ByteArray.empty,.slice none 0 0,.slice none 0 0,.slice none 0 0,.slice none 0 0,.slice none 0 0,.int .i64 0],[.d (.int .u8 0),.d (.str ByteArray.empty),.d (.str ByteArray.empty),.nils false 1,.d (.int .u8 0),.d (.str ByteArray.empty),.nils true 3,.d (.int .i64 0),.d (.str ByteArray.empty),.nils false 1,.nils true 8,.nils true 15,.nils true 15,.nils true 3,.d (.int .i64 0)]⟩),
 (153,⟨.struct #[⟨"Variant",9,0,false, "", "",0⟩,⟨"Name",9,1,false, "", "",16⟩,⟨"Body",124,2,false, "", "",32⟩],3,56,.agg #[.string ByteArray.empty,.string ByteArray.empty,.slice none 0 0],[.d (.str ByteArray.empty),.d (.str ByteArray.empty),.nils true 15]⟩),
 (154,⟨.struct #[⟨"Variant",9,0,false, "", "",0⟩,⟨"Name",9,1,false, "", "",16⟩,⟨"Body",124,2,false, "", "",32⟩],3,56,.agg #[.string ByteArray.empty,.string ByteArray.empty,.slice none 0 0],[.d (.str ByteArray.empty),.d (.str ByteArray.empty),.nils true 15]⟩),
 (155,⟨.func #[46,3] #[3] false,1,8,.nilFunc,[.nilf]⟩),
 (156,⟨.func #[46] #[46] false,1,8,.nilFunc,[.nilf]⟩),
 (157,⟨.func #[49,3] #[5] false,1,8,.nilFunc,[.nilf]⟩),
 (158,⟨.func #[49,3] #[3] false,1,8,.nilFunc,[.nilf]⟩),
 (159,⟨.func #[49,47] #[49] false,1,8,.nilFunc,[.nilf]⟩)]
def tabC10:List (Nat×TI):=[(160,⟨.func #[47,47] #[4] false,1,8,.nilFunc,[.nilf]⟩),
 (161,⟨.pointer 165,1,8,.pointer none,[.nilp]⟩),
 (162,⟨.func #[3] #[161] false,1,8,.nilFunc,[.nilf]⟩),
 (163,⟨.array 8 49,48,704,.agg #[.int .u8 0,.int .i64 0,.string ByteArray.empty,.slice none 0 0,.int .i64 0,.slice none 0 0,.int .u8 0,.int .i64 0,.string ByteArray.empty,.slice none 0 0,.int .i64 0,.slice none 0 0,.int .u8 0,.int .i64 0,.string ByteArray.empty,.slice none 0 0,.int .i64 0,.slice none 0 0,.int .u8 0,.int .i64 0,.string ByteArray.empty,.slice none 0 0,.int .i64 0,.slice none 0 0,.int .u8 0,.int .i64 0,.string ByteArray.empty,.slice none 0 0,.int .i64 0,.slice none 0 0,.int .u8 0,.int .i64 0,.string ByteArray.empty,.slice none 0 0,.int .i64 0,.slice none 0 0,.int .u8 0,.int .i64 0,.string ByteArray.empty,.slice none 0 0,.int .i64 0,.slice none 0 0,.int .u8 0,.int .i64 0,.string ByteArray.empty,.slice none 0 0,.int .i64 0,.slice none 0 0],[.d (.int .u8 0),.d (.int .i64 0),.d (.str ByteArray.empty),.nils true 6,.d (.int .i64 0),.nils false 1,.d (.int .u8 0),.d (.int .i64 0),.d (.str ByteArray.empty),.nils true 6,.d (.int .i64 0),.nils false 1,.d (.int .u8 0),.d (.int .i64 0),.d (.str ByteArray.empty),.nils true 6,.d (.int .i64 0),.nils false 1,.d (.int .u8 0),.d (.int .i64 0),.d (.str ByteArray.empty),.nils true 6,.d (.int .i64 0),.nils false 1,.d (.int .u8 0),.d (.int .i64 0),.d (.str ByteArray.empty),.nils true 6,.d (.int .i64 0),.nils false 1,.d (.int .u8 0),.d (.int .i64 0),.d (.str ByteArray.empty),.nils true 6,.d (.int .i64 0),.nils false 1,.d (.int .u8 0),.d (.int .i64 0),.d (.str ByteArray.empty),.nils true 6,.d (.int .i64 0),.nils false 1,.d (.int .u8 0),.d (.int .i64 0),.d (.str ByteArray.empty),.nils true 6,.d (.int .i64 0),.nils false 1]⟩),
 (164,⟨.struct #[⟨"room",3,0,false, "", "weftway/queues",0⟩,⟨"first",3,1,false, "", "weftway/queues",8⟩,⟨"n",3,2,false, "", "weftway/queues",16⟩,⟨"l",163,3,false, "", "weftway/queues",24⟩],51,728,.agg #[.int .i64 0,.int .i64 0,.int .i64 0,.int .u8 0,.int .i64 0,.string ByteArray.empty,.slice none 0 0,.int .i64 0,.slice none 0 0,.int .u8 0,.int .i64 0,.string ByteArray.empty,.slice none 0 0,.int .i64 0,.slice none 0 0,.int .u8 0,.int .i64 0,.string ByteArray.empty,.slice none 0 0,.int .i64 0,.slice none 0 0,.int .u8 0,.int .i64 0,.string ByteArray.empty,.slice none 0 0,.int .i64 0,.slice none 0 0,.int .u8 0,.int .i64 0,.string ByteArray.empty,.slice none 0 0,.int .i64 0,.slice none 0 0,.int .u8 0,.int .i64 0,.string ByteArray.empty,.slice none 0 0,.int .i64 0,.slice none 0 0,.int .u8 0,.int .i64 0,.string ByteArray.empty,.slice none 0 0,.int .i64 0,.slice none 0 0,.int .u8 0,.int .i64 0,.string ByteArray.empty,.slice none 0 0,.int .i64 0,.slice none 0 0],[.d (.int .i64 0),.d (.int .i64 0),.d (.int .i64 0),.d (.int .u8 0),.d (.int .i64 0),.d (.str ByteArray.empty),.nils true 6,.d (.int .i64 0),.nils false 1,.d (.int .u8 0),.d (.int .i64 0),.d (.str ByteArray.empty),.nils true 6,.d (.int .i64 0),.nils false 1,.d (.int .u8 0),.d (.int .i64 0),.d (.str ByteArray.empty),.nils true 6,.d (.int .i64 0),.nils false 1,.d (.int .u8 0),.d (.int .i64 0),.d (.str ByteArray.empty),.nils true 6,.d (.int .i64 0),.nils false 1,.d (.int .u8 0),.d (.int .i64 0),.d (.str ByteArray.empty),.nils true 6,.d (.int .i64 0),.nils false 1,.d (.int .u8 0),.d (.int .i64 0),.d (.str ByteArray.empty),.nils true 6,.d (.int .i64 0),.nils false 1,.d (.int .u8 0),.d (.int .i64 0),.d (.str ByteArray.empty),.nils true 6,.d (.int .i64 0),.nils false 1,.d (.int .u8 0),.d (.int .i64 0),.d (.str ByteArray.empty),.nils true 6,.d (.int .i64 0),.nils false 1]⟩),
 (165,⟨.struct #[⟨"room",3,0,false, "", "weftway/queues",0⟩,⟨"first",3,1,false, "", "weftway/queues",8⟩,⟨"n",3,2,false, "", "weftway/queues",16⟩,⟨"l",163,3,false, "", "weftway/queues",24⟩],51,728,.agg #[.int .i64 0,.int .i64 0,.int .i64 0,.int .u8 0,.int .i64 0,.string ByteArray.empty,.slice none 0 0,.int .i64 0,.slice none 0 0,.int .u8 0,.int .i64 0,.string ByteArray.empty,.slice none 0 0,.int .i64 0,.slice none 0 0,.int .u8 0,.int .i64 0,.string ByteArray.empty,.slice none 0 0,.int .i64 0,.slice none 0 0,.int .u8 0,.int .i64 0,.string ByteArray.empty,.slice none 0 0,.int .i64 0,.slice none 0 0,.int .u8 0,.int .i64 0,.string ByteArray.empty,.slice none 0 0,.int .i64 0,.slice none 0 0,.int .u8 0,.int .i64 0,.string ByteArray.empty,.slice none 0 0,.int .i64 0,.slice none 0 0,.int .u8 0,.int .i64 0,.string ByteArray.empty,.slice none 0 0,.int .i64 0,.slice none 0 0,.int .u8 0,.int .i64 0,.string ByteArray.empty,.slice none 0 0,.int .i64 0,.slice none 0 0],[.d (.int .i64 0),.d (.int .i64 0),.d (.int .i64 0),.d (.int .u8 0),.d (.int .i64 0),.d (.str ByteArray.empty),.nils true 6,.d (.int .i64 0),.nils false 1,.d (.int .u8 0),.d (.int .i64 0),.d (.str ByteArray.empty),.nils true 6,.d (.int .i64 0),.nils false 1,.d (.int .u8 0),.d (.int .i64 0),.d (.str ByteArray.empty),.nils true 6,.d (.int .i64 0),.nils false 1,.d (.int .u8 0),.d (.int .i64 0),.d (.str ByteArray.empty),.nils true 6,.d (.int .i64 0),.nils false 1,.d (.int .u8 0),.d (.int .i64 0),.d (.str ByteArray.empty),.nils true 6,.d (.int .i64 0),.nils false 1,.d (.int .u8 0),.d (.int .i64 0),.d (.str ByteArray.empty),.nils true 6,.d (.int .i64 0),.nils false 1,.d (.int .u8 0),.d (.int .i64 0),.d (.str ByteArray.empty),.nils true 6,.d (.int .i64 0),.nils false 1,.d (.int .u8 0),.d (.int .i64 0),.d (.str ByteArray.empty),.nils true 6,.d (.int .i64 0),.nils false 1]⟩),
 (166,⟨.func #[] #[49] false,1,8,.nilFunc,[.nilf]⟩),
 (167,⟨.func #[203] #[] false,1,8,.nilFunc,[.nilf]⟩),
 (168,⟨.func #[203] #[] false,1,8,.nilFunc,[.nilf]⟩),
 (169,⟨.func #[] #[168] false,1,8,.nilFunc,[.nilf]⟩),
 (170,⟨.struct #[⟨"ID",3,0,false, "", "",0⟩,⟨"Room",3,1,false, "", "",8⟩,⟨"L",46,2,false, "", "",16⟩],3,40,.agg #[.int .i64 0,.int .i64 0,.slice none 0 0],[.d (.int .i64 0),.d (.int .i64 0),.nils true 6]⟩),
 (171,⟨.struct #[⟨"ID",3,0,false, "", "",0⟩,⟨"Room",3,1,false, "", "",8⟩,⟨"L",46,2,false, "", "",16⟩],3,40,.agg #[.int .i64 0,.int .i64 0,.slice none 0 0],[.d (.int .i64 0),.d (.int .i64 0),.nils true 6]⟩),
 (172,⟨.struct #[⟨"v",49,0,false, "", "weftway/heap",0⟩,⟨"freed",4,6,false, "", "weftway/heap",88⟩],7,96,.agg #[.int .u8 0,.int .i64 0,.string ByteArray.empty,.slice none 0 0,.int .i64 0,.slice none 0 0,.bool false],[.d (.int .u8 0),.d (.int .i64 0),.d (.str ByteArray.empty),.nils true 6,.d (.int .i64 0),.nils false 1,.d (.bool false)]⟩),
 (173,⟨.struct #[⟨"v",49,0,false, "", "weftway/heap",0⟩,⟨"freed",4,6,false, "", "weftway/heap",88⟩],7,96,.agg #[.int .u8 0,.int .i64 0,.string ByteArray.empty,.slice none 0 0,.int .i64 0,.slice none 0 0,.bool false],[.d (.int .u8 0),.d (.int .i64 0),.d (.str ByteArray.empty),.nils true 6,.d (.int .i64 0),.nils false 1,.d (.bool false)]⟩),
 (174,⟨.func #[3,175] #[5] false,1,8,.nilFunc,[.nilf]⟩),
 (175,⟨.func #[49] #[49,5] false,1,8,.nilFunc,[.nilf]⟩)]
def tabC11:List (Nat×TI):=[(177,⟨.func #[49] #[3,3] false,1,8,.nilFunc,[.nilf]⟩),
 (178,⟨.func #[3,47] #[49,3] false,1,8,.nilFunc,[.nilf]⟩),
 (179,⟨.func #[3,47,49] #[3] false,1,8,.nilFunc,[.nilf]⟩),
 (180,⟨.func #[3,47,49] #[49,3] false,1,8,.nilFunc,[.nilf]⟩),
 (181,⟨.func #[3] #[49,3] false,1,8,.nilFunc,[.nilf]⟩),
 (182,⟨.struct #[⟨"V",49,0,false, "", "",0⟩,⟨"Freed",4,6,false, "", "",88⟩],7,96,.agg #[.int .u8 0,.int .i64 0,.string ByteArray.empty,.slice none 0 0,.int .i64 0,.slice none 0 0,.bool false],[.d (.int .u8 0),.d (.int .i64 0),.d (.str ByteArray.empty),.nils true 6,.d (.int .i64 0),.nils false 1,.d (.bool false)]⟩),
 (183,⟨.struct #[⟨"V",49,0,false, "", "",0⟩,⟨"Freed",4,6,false, "", "",88⟩],7,96,.agg #[.int .u8 0,.int .i64 0,.string ByteArray.empty,.slice none 0 0,.int .i64 0,.slice none 0 0,.bool false],[.d (.int .u8 0),.d (.int .i64 0),.d (.str ByteArray.empty),.nils true 6,.d (.int .i64 0),.nils false 1,.d (.bool false)]⟩),
 (184,⟨.func #[28] #[] false,1,8,.nilFunc,[.nilf]⟩),
 (185,⟨.func #[30] #[] false,1,8,.nilFunc,[.nilf]⟩),
 (186,⟨.func #[124,124,187] #[4] false,1,8,.nilFunc,[.nilf]⟩),
 (187,⟨.func #[152,152] #[4] false,1,8,.nilFunc,[.nilf]⟩),
 (188,⟨.func #[28,28] #[4] false,1,8,.nilFunc,[.nilf]⟩),
 (189,⟨.func #[30] #[30] false,1,8,.nilFunc,[.nilf]⟩),
 (190,⟨.func #[33] #[33] false,1,8,.nilFunc,[.nilf]⟩),
 (191,⟨.func #[152] #[152] false,1,8,.nilFunc,[.nilf]⟩)]
def tabC12:List (Nat×TI):=[(192,⟨.func #[25,146] #[25] false,1,8,.nilFunc,[.nilf]⟩),
 (193,⟨.func #[28] #[28] false,1,8,.nilFunc,[.nilf]⟩),
 (194,⟨.func #[31,190] #[31] false,1,8,.nilFunc,[.nilf]⟩),
 (195,⟨.func #[124,191] #[124] false,1,8,.nilFunc,[.nilf]⟩),
 (196,⟨.func #[154] #[154] false,1,8,.nilFunc,[.nilf]⟩),
 (197,⟨.func #[150,196] #[150] false,1,8,.nilFunc,[.nilf]⟩),
 (198,⟨.func #[136] #[136] false,1,8,.nilFunc,[.nilf]⟩),
 (199,⟨.func #[22,201] #[22] false,1,8,.nilFunc,[.nilf]⟩),
 (200,⟨.func #[123,198] #[123] false,1,8,.nilFunc,[.nilf]⟩),
 (201,⟨.func #[126] #[126] false,1,8,.nilFunc,[.nilf]⟩),
 (202,⟨.func #[47] #[47] false,1,8,.nilFunc,[.nilf]⟩),
 (203,⟨.func #[49] #[4] false,1,8,.nilFunc,[.nilf]⟩),
 (205,⟨.func #[150,150,206] #[4] false,1,8,.nilFunc,[.nilf]⟩),
 (206,⟨.func #[154,154] #[4] false,1,8,.nilFunc,[.nilf]⟩),
 (207,⟨.func #[] #[9] false,1,8,.nilFunc,[.nilf]⟩)]
def tabC13:List (Nat×TI):=[(208,⟨.struct #[⟨"_interface",17,0,false, "", "runtime",0⟩,⟨"concrete",17,1,false, "", "runtime",8⟩,⟨"asserted",17,2,false, "", "runtime",16⟩,⟨"missingMethod",9,3,false, "", "runtime",24⟩],4,40,.agg #[.pointer none,.pointer none,.pointer none,.string ByteArray.empty],[.nilp,.nilp,.nilp,.d (.str ByteArray.empty)]⟩),
 (209,⟨.struct #[⟨"_interface",17,0,false, "", "runtime",0⟩,⟨"concrete",17,1,false, "", "runtime",8⟩,⟨"asserted",17,2,false, "", "runtime",16⟩,⟨"missingMethod",9,3,false, "", "runtime",24⟩],4,40,.agg #[.pointer none,.pointer none,.pointer none,.string ByteArray.empty],[.nilp,.nilp,.nilp,.d (.str ByteArray.empty)]⟩),
 (213,⟨.int .u32,1,4,.int .u32 0,[.d (.int .u32 0)]⟩),
 (214,⟨.int .u8,1,1,.int .u8 0,[.d (.int .u8 0)]⟩),
 (215,⟨.int .u8,1,1,.int .u8 0,[.d (.int .u8 0)]⟩),
 (216,⟨.func #[222,222] #[4] false,1,8,.nilFunc,[.nilf]⟩),
 (217,⟨.pointer 5,1,8,.pointer none,[.nilp]⟩),
 (218,⟨.int .i32,1,4,.int .i32 0,[.d (.int .i32 0)]⟩),
 (219,⟨.int .i32,1,4,.int .i32 0,[.d (.int .i32 0)]⟩),
 (220,⟨.struct #[⟨"Size_",12,0,false, "", "",0⟩,⟨"PtrBytes",12,1,false, "", "",8⟩,⟨"Hash",213,2,false, "", "",16⟩,⟨"TFlag",214,3,false, "", "",20⟩,⟨"Align_",5,4,false, "", "",21⟩,⟨"FieldAlign_",5,5,false, "", "",22⟩,⟨"Kind_",215,6,false, "", "",23⟩,⟨"Equal",216,7,false, "", "",24⟩,⟨"GCData",217,8,false, "", "",32⟩,⟨"Str",218,9,false, "", "",40⟩,⟨"PtrToThis",219,10,false, "", "",44⟩],11,48,.agg #[.int .u64 0,.int .u64 0,.int .u32 0,.int .u8 0,.int .u8 0,.int .u8 0,.int .u8 0,.nilFunc,.pointer none,.int .i32 0,.int .i32 0],[.d (.int .u64 0),.d (.int .u64 0),.d (.int .u32 0),.d (.int .u8 0),.d (.int .u8 0),.d (.int .u8 0),.d (.int .u8 0),.nilf,.nilp,.d (.int .i32 0),.d (.int .i32 0)]⟩),
 (221,⟨.struct #[⟨"Size_",12,0,false, "", "",0⟩,⟨"PtrBytes",12,1,false, "", "",8⟩,⟨"Hash",213,2,false, "", "",16⟩,⟨"TFlag",214,3,false, "", "",20⟩,⟨"Align_",5,4,false, "", "",21⟩,⟨"FieldAlign_",5,5,false, "", "",22⟩,⟨"Kind_",215,6,false, "", "",23⟩,⟨"Equal",216,7,false, "", "",24⟩,⟨"GCData",217,8,false, "", "",32⟩,⟨"Str",218,9,false, "", "",40⟩,⟨"PtrToThis",219,10,false, "", "",44⟩],11,48,.agg #[.int .u64 0,.int .u64 0,.int .u32 0,.int .u8 0,.int .u8 0,.int .u8 0,.int .u8 0,.nilFunc,.pointer none,.int .i32 0,.int .i32 0],[.d (.int .u64 0),.d (.int .u64 0),.d (.int .u32 0),.d (.int .u8 0),.d (.int .u8 0),.d (.int .u8 0),.d (.int .u8 0),.nilf,.nilp,.d (.int .i32 0),.d (.int .i32 0)]⟩)]
def tabAll:List (List (Nat×TI)):=[tabC0,tabC1,tabC2,tabC3,tabC4,tabC5,tabC6,tabC7,tabC8,tabC9,tabC10,tabC11,tabC12,tabC13]
def tab:Types:=tabOf tabAll
theorem tabG0:allGood Try.prog tabC0:=⟨⟨by kernel_rfl,by kernel_rfl,by kernel_rfl⟩,⟨by kernel_rfl,by kernel_rfl,by kernel_rfl⟩,⟨by kernel_rfl,by kernel_rfl,by kernel_rfl⟩,⟨by kernel_rfl,by kernel_rfl,by kernel_rfl⟩,⟨by kernel_rfl,by kernel_rfl,by kernel_rfl⟩,⟨by kernel_rfl,by kernel_rfl,by kernel_rfl⟩,⟨by kernel_rfl,by kernel_rfl,by kernel_rfl⟩,⟨by kernel_rfl,by kernel_rfl,by kernel_rfl⟩,⟨by kernel_rfl,by kernel_rfl,by kernel_rfl⟩,⟨by kernel_rfl,by kernel_rfl,by kernel_rfl⟩,⟨by kernel_rfl,by kernel_rfl,by kernel_rfl⟩,⟨by kernel_rfl,by kernel_rfl,by kernel_rfl⟩,⟨by kernel_rfl,by kernel_rfl,by kernel_rfl⟩,⟨by kernel_rfl,by kernel_rfl,by kernel_rfl⟩,⟨by kernel_rfl,by kernel_rfl,by kernel_rfl⟩,trivial⟩
theorem tabG1:allGood Try.prog tabC1:=⟨⟨by kernel_rfl,by kernel_rfl,by kernel_rfl⟩,⟨by kernel_rfl,by kernel_rfl,by kernel_rfl⟩,⟨by kernel_rfl,by kernel_rfl,by kernel_rfl⟩,⟨by kernel_rfl,by kernel_rfl,by kernel_rfl⟩,⟨by kernel_rfl,by kernel_rfl,by kernel_rfl⟩,⟨by kernel_rfl,by kernel_rfl,by kernel_rfl⟩,⟨by kernel_rfl,by kernel_rfl,by kernel_rfl⟩,⟨by kernel_rfl,by kernel_rfl,by kernel_rfl⟩,⟨by kernel_rfl,by kernel_rfl,by kernel_rfl⟩,⟨by kernel_rfl,by kernel_rfl,by kernel_rfl⟩,⟨by kernel_rfl,by kernel_rfl,by kernel_rfl⟩,⟨by kernel_rfl,by kernel_rfl,by kernel_rfl⟩,⟨by kernel_rfl,by kernel_rfl,by kernel_rfl⟩,⟨by kernel_rfl,by kernel_rfl,by kernel_rfl⟩,⟨by kernel_rfl,by kernel_rfl,by kernel_rfl⟩,trivial⟩
theorem tabG2:allGood Try.prog tabC2:=⟨⟨by kernel_rfl,by kernel_rfl,by kernel_rfl⟩,⟨by kernel_rfl,by kernel_rfl,by kernel_rfl⟩,⟨by kernel_rfl,by kernel_rfl,by kernel_rfl⟩,⟨by kernel_rfl,by kernel_rfl,by kernel_rfl⟩,⟨by kernel_rfl,by kernel_rfl,by kernel_rfl⟩,⟨by kernel_rfl,by kernel_rfl,by kernel_rfl⟩,⟨by kernel_rfl,by kernel_rfl,by kernel_rfl⟩,⟨by kernel_rfl,by kernel_rfl,by kernel_rfl⟩,⟨by kernel_rfl,by kernel_rfl,by kernel_rfl⟩,⟨by kernel_rfl,by kernel_rfl,by kernel_rfl⟩,⟨by kernel_rfl,by kernel_rfl,by kernel_rfl⟩,⟨by kernel_rfl,by kernel_rfl,by kernel_rfl⟩,⟨by kernel_rfl,by kernel_rfl,by kernel_rfl⟩,⟨by kernel_rfl,by kernel_rfl,by kernel_rfl⟩,⟨by kernel_rfl,by kernel_rfl,by kernel_rfl⟩,⟨by kernel_rfl,by kernel_rfl,by kernel_rfl⟩,trivial⟩
theorem tabG3:allGood Try.prog tabC3:=⟨⟨by kernel_rfl,by kernel_rfl,by kernel_rfl⟩,⟨by kernel_rfl,by kernel_rfl,by kernel_rfl⟩,⟨by kernel_rfl,by kernel_rfl,by kernel_rfl⟩,⟨by kernel_rfl,by kernel_rfl,by kernel_rfl⟩,⟨by kernel_rfl,by kernel_rfl,by kernel_rfl⟩,⟨by kernel_rfl,by kernel_rfl,by kernel_rfl⟩,⟨by kernel_rfl,by kernel_rfl,by kernel_rfl⟩,⟨by kernel_rfl,by kernel_rfl,by kernel_rfl⟩,⟨by kernel_rfl,by kernel_rfl,by kernel_rfl⟩,⟨by kernel_rfl,by kernel_rfl,by kernel_rfl⟩,⟨by kernel_rfl,by kernel_rfl,by kernel_rfl⟩,⟨by kernel_rfl,by kernel_rfl,by kernel_rfl⟩,⟨by kernel_rfl,by kernel_rfl,by kernel_rfl⟩,⟨by kernel_rfl,by kernel_rfl,by kernel_rfl⟩,trivial⟩
theorem tabG4:allGood Try.prog tabC4:=⟨⟨by kernel_rfl,by kernel_rfl,by kernel_rfl⟩,⟨by kernel_rfl,by kernel_rfl,by kernel_rfl⟩,⟨by kernel_rfl,by kernel_rfl,by kernel_rfl⟩,⟨by kernel_rfl,by kernel_rfl,by kernel_rfl⟩,⟨by kernel_rfl,by kernel_rfl,by kernel_rfl⟩,⟨by kernel_rfl,by kernel_rfl,by kernel_rfl⟩,⟨by kernel_rfl,by kernel_rfl,by kernel_rfl⟩,⟨by kernel_rfl,by kernel_rfl,by kernel_rfl⟩,⟨by kernel_rfl,by kernel_rfl,by kernel_rfl⟩,⟨by kernel_rfl,by kernel_rfl,by kernel_rfl⟩,⟨by kernel_rfl,by kernel_rfl,by kernel_rfl⟩,⟨by kernel_rfl,by kernel_rfl,by kernel_rfl⟩,⟨by kernel_rfl,by kernel_rfl,by kernel_rfl⟩,⟨by kernel_rfl,by kernel_rfl,by kernel_rfl⟩,⟨by kernel_rfl,by kernel_rfl,by kernel_rfl⟩,trivial⟩
theorem tabG5:allGood Try.prog tabC5:=⟨⟨by kernel_rfl,by kernel_rfl,by kernel_rfl⟩,⟨by kernel_rfl,by kernel_rfl,by kernel_rfl⟩,⟨by kernel_rfl,by kernel_rfl,by kernel_rfl⟩,⟨by kernel_rfl,by kernel_rfl,by kernel_rfl⟩,⟨by kernel_rfl,by kernel_rfl,by kernel_rfl⟩,⟨by kernel_rfl,by kernel_rfl,by kernel_rfl⟩,⟨by kernel_rfl,by kernel_rfl,by kernel_rfl⟩,⟨by kernel_rfl,by kernel_rfl,by kernel_rfl⟩,⟨by kernel_rfl,by kernel_rfl,by kernel_rfl⟩,⟨by kernel_rfl,by kernel_rfl,by kernel_rfl⟩,⟨by kernel_rfl,by kernel_rfl,by kernel_rfl⟩,⟨by kernel_rfl,by kernel_rfl,by kernel_rfl⟩,⟨by kernel_rfl,by kernel_rfl,by kernel_rfl⟩,⟨by kernel_rfl,by kernel_rfl,by kernel_rfl⟩,⟨by kernel_rfl,by kernel_rfl,by kernel_rfl⟩,⟨by kernel_rfl,by kernel_rfl,by kernel_rfl⟩,trivial⟩
theorem tabG6:allGood Try.prog tabC6:=⟨⟨by kernel_rfl,by kernel_rfl,by kernel_rfl⟩,⟨by kernel_rfl,by kernel_rfl,by kernel_rfl⟩,⟨by kernel_rfl,by kernel_rfl,by kernel_rfl⟩,⟨by kernel_rfl,by kernel_rfl,by kernel_rfl⟩,⟨by kernel_rfl,by kernel_rfl,by kernel_rfl⟩,⟨by kernel_rfl,by kernel_rfl,by kernel_rfl⟩,⟨by kernel_rfl,by kernel_rfl,by kernel_rfl⟩,⟨by kernel_rfl,by kernel_rfl,by kernel_rfl⟩,⟨by kernel_rfl,by kernel_rfl,by kernel_rfl⟩,⟨by kernel_rfl,by kernel_rfl,by kernel_rfl⟩,⟨by kernel_rfl,by kernel_rfl,by kernel_rfl⟩,⟨by kernel_rfl,by kernel_rfl,by kernel_rfl⟩,⟨by kernel_rfl,by kernel_rfl,by kernel_rfl⟩,⟨by kernel_rfl,by kernel_rfl,by kernel_rfl⟩,⟨by kernel_rfl,by kernel_rfl,by kernel_rfl⟩,trivial⟩
theorem tabG7:allGood Try.prog tabC7:=⟨⟨by kernel_rfl,by kernel_rfl,by kernel_rfl⟩,⟨by kernel_rfl,by kernel_rfl,by kernel_rfl⟩,⟨by kernel_rfl,by kernel_rfl,by kernel_rfl⟩,⟨by kernel_rfl,by kernel_rfl,by kernel_rfl⟩,⟨by kernel_rfl,by kernel_rfl,by kernel_rfl⟩,⟨by kernel_rfl,by kernel_rfl,by kernel_rfl⟩,⟨by kernel_rfl,by kernel_rfl,by kernel_rfl⟩,⟨by kernel_rfl,by kernel_rfl,by kernel_rfl⟩,⟨by kernel_rfl,by kernel_rfl,by kernel_rfl⟩,⟨by kernel_rfl,by kernel_rfl,by kernel_rfl⟩,⟨by kernel_rfl,by kernel_rfl,by kernel_rfl⟩,⟨by kernel_rfl,by kernel_rfl,by kernel_rfl⟩,⟨by kernel_rfl,by kernel_rfl,by kernel_rfl⟩,⟨by kernel_rfl,by kernel_rfl,by kernel_rfl⟩,⟨by kernel_rfl,by kernel_rfl,by kernel_rfl⟩,trivial⟩
theorem tabG8:allGood Try.prog tabC8:=⟨⟨by kernel_rfl,by kernel_rfl,by kernel_rfl⟩,⟨by kernel_rfl,by kernel_rfl,by kernel_rfl⟩,⟨by kernel_rfl,by kernel_rfl,by kernel_rfl⟩,⟨by kernel_rfl,by kernel_rfl,by kernel_rfl⟩,⟨by kernel_rfl,by kernel_rfl,by kernel_rfl⟩,⟨by kernel_rfl,by kernel_rfl,by kernel_rfl⟩,⟨by kernel_rfl,by kernel_rfl,by kernel_rfl⟩,⟨by kernel_rfl,by kernel_rfl,by kernel_rfl⟩,⟨by kernel_rfl,by kernel_rfl,by kernel_rfl⟩,⟨by kernel_rfl,by kernel_rfl,by kernel_rfl⟩,⟨by kernel_rfl,by kernel_rfl,by kernel_rfl⟩,⟨by kernel_rfl,by kernel_rfl,by kernel_rfl⟩,⟨by kernel_rfl,by kernel_rfl,by kernel_rfl⟩,⟨by kernel_rfl,by kernel_rfl,by kernel_rfl⟩,⟨by kernel_rfl,by kernel_rfl,by kernel_rfl⟩,⟨by kernel_rfl,by kernel_rfl,by kernel_rfl⟩,trivial⟩
theorem tabG9:allGood Try.prog tabC9:=⟨⟨by kernel_rfl,by kernel_rfl,by kernel_rfl⟩,⟨by kernel_rfl,by kernel_rfl,by kernel_rfl⟩,⟨by kernel_rfl,by kernel_rfl,by kernel_rfl⟩,⟨by kernel_rfl,by kernel_rfl,by kernel_rfl⟩,⟨by kernel_rfl,by kernel_rfl,by kernel_rfl⟩,⟨by kernel_rfl,by kernel_rfl,by kernel_rfl⟩,⟨by kernel_rfl,by kernel_rfl,by kernel_rfl⟩,⟨by kernel_rfl,by kernel_rfl,by kernel_rfl⟩,⟨by kernel_rfl,by kernel_rfl,by kernel_rfl⟩,⟨by kernel_rfl,by kernel_rfl,by kernel_rfl⟩,⟨by kernel_rfl,by kernel_rfl,by kernel_rfl⟩,⟨by kernel_rfl,by kernel_rfl,by kernel_rfl⟩,⟨by kernel_rfl,by kernel_rfl,by kernel_rfl⟩,⟨by kernel_rfl,by kernel_rfl,by kernel_rfl⟩,⟨by kernel_rfl,by kernel_rfl,by kernel_rfl⟩,⟨by kernel_rfl,by kernel_rfl,by kernel_rfl⟩,trivial⟩
theorem tabG10:allGood Try.prog tabC10:=⟨⟨by kernel_rfl,by kernel_rfl,by kernel_rfl⟩,⟨by kernel_rfl,by kernel_rfl,by kernel_rfl⟩,⟨by kernel_rfl,by kernel_rfl,by kernel_rfl⟩,⟨by kernel_rfl,by kernel_rfl,by kernel_rfl⟩,⟨by kernel_rfl,by kernel_rfl,by kernel_rfl⟩,⟨by kernel_rfl,by kernel_rfl,by kernel_rfl⟩,⟨by kernel_rfl,by kernel_rfl,by kernel_rfl⟩,⟨by kernel_rfl,by kernel_rfl,by kernel_rfl⟩,⟨by kernel_rfl,by kernel_rfl,by kernel_rfl⟩,⟨by kernel_rfl,by kernel_rfl,by kernel_rfl⟩,⟨by kernel_rfl,by kernel_rfl,by kernel_rfl⟩,⟨by kernel_rfl,by kernel_rfl,by kernel_rfl⟩,⟨by kernel_rfl,by kernel_rfl,by kernel_rfl⟩,⟨by kernel_rfl,by kernel_rfl,by kernel_rfl⟩,⟨by kernel_rfl,by kernel_rfl,by kernel_rfl⟩,⟨by kernel_rfl,by kernel_rfl,by kernel_rfl⟩,trivial⟩
theorem tabG11:allGood Try.prog tabC11:=⟨⟨by kernel_rfl,by kernel_rfl,by kernel_rfl⟩,⟨by kernel_rfl,by kernel_rfl,by kernel_rfl⟩,⟨by kernel_rfl,by kernel_rfl,by kernel_rfl⟩,⟨by kernel_rfl,by kernel_rfl,by kernel_rfl⟩,⟨by kernel_rfl,by kernel_rfl,by kernel_rfl⟩,⟨by kernel_rfl,by kernel_rfl,by kernel_rfl⟩,⟨by kernel_rfl,by kernel_rfl,by kernel_rfl⟩,⟨by kernel_rfl,by kernel_rfl,by kernel_rfl⟩,⟨by kernel_rfl,by kernel_rfl,by kernel_rfl⟩,⟨by kernel_rfl,by kernel_rfl,by kernel_rfl⟩,⟨by kernel_rfl,by kernel_rfl,by kernel_rfl⟩,⟨by kernel_rfl,by kernel_rfl,by kernel_rfl⟩,⟨by kernel_rfl,by kernel_rfl,by kernel_rfl⟩,⟨by kernel_rfl,by kernel_rfl,by kernel_rfl⟩,⟨by kernel_rfl,by kernel_rfl,by kernel_rfl⟩,trivial⟩
theorem tabG12:allGood Try.prog tabC12:=⟨⟨by kernel_rfl,by kernel_rfl,by kernel_rfl⟩,⟨by kernel_rfl,by kernel_rfl,by kernel_rfl⟩,⟨by kernel_rfl,by kernel_rfl,by kernel_rfl⟩,⟨by kernel_rfl,by kernel_rfl,by kernel_rfl⟩,⟨by kernel_rfl,by kernel_rfl,by kernel_rfl⟩,⟨by kernel_rfl,by kernel_rfl,by kernel_rfl⟩,⟨by kernel_rfl,by kernel_rfl,by kernel_rfl⟩,⟨by kernel_rfl,by kernel_rfl,by kernel_rfl⟩,⟨by kernel_rfl,by kernel_rfl,by kernel_rfl⟩,⟨by kernel_rfl,by kernel_rfl,by kernel_rfl⟩,⟨by kernel_rfl,by kernel_rfl,by kernel_rfl⟩,⟨by kernel_rfl,by kernel_rfl,by kernel_rfl⟩,⟨by kernel_rfl,by kernel_rfl,by kernel_rfl⟩,⟨by kernel_rfl,by kernel_rfl,by kernel_rfl⟩,⟨by kernel_rfl,by kernel_rfl,by kernel_rfl⟩,trivial⟩
theorem tabG13:allGood Try.prog tabC13:=⟨⟨by kernel_rfl,by kernel_rfl,by kernel_rfl⟩,⟨by kernel_rfl,by kernel_rfl,by kernel_rfl⟩,⟨by kernel_rfl,by kernel_rfl,by kernel_rfl⟩,⟨by kernel_rfl,by kernel_rfl,by kernel_rfl⟩,⟨by kernel_rfl,by kernel_rfl,by kernel_rfl⟩,⟨by kernel_rfl,by kernel_rfl,by kernel_rfl⟩,⟨by kernel_rfl,by kernel_rfl,by kernel_rfl⟩,⟨by kernel_rfl,by kernel_rfl,by kernel_rfl⟩,⟨by kernel_rfl,by kernel_rfl,by kernel_rfl⟩,⟨by kernel_rfl,by kernel_rfl,by kernel_rfl⟩,⟨by kernel_rfl,by kernel_rfl,by kernel_rfl⟩,trivial⟩
theorem tab_all:allGoods Try.prog tabAll:=⟨tabG0,tabG1,tabG2,tabG3,tabG4,tabG5,tabG6,tabG7,tabG8,tabG9,tabG10,tabG11,tabG12,tabG13,trivial⟩
theorem tab_ok:TIok Try.prog tab:=tabOf_ok tab_all
theorem tab_one:TIone tab:=tabOf_one tab_all
end Go.Proofs.Ytiiojajgajnhpaa
set_option linter.unusedVariables false
noncomputable section
namespace Go.Proofs.Ytiiojajgajnhpaa
open Go Go.AM
theorem llen6 {l:List D}(h:l.length=6):∃x0 x1 x2 x3 x4 x5,l=[x0,x1,x2,x3,x4,x5]:=by
 match l,h with
 | [x0,x1,x2,x3,x4,x5],_=>exact⟨x0,x1,x2,x3,x4,x5,rfl⟩
theorem llen9 {l:List D}(h:l.length=9):∃x0 x1 x2 x3 x4 x5 x6 x7 x8,l=[x0,x1,x2,x3,x4,x5,x6,x7,x8]:=by
 match l,h with
 | [x0,x1,x2,x3,x4,x5,x6,x7,x8],_=>exact⟨x0,x1,x2,x3,x4,x5,x6,x7,x8,rfl⟩
theorem rs3 {x:D}(h:RowS tab 3 x):∃a0,x= .int .i64 a0∧(Lit.int .i64 a0).wf=true:=by
 have hs:=h.flat1 (y:=tyD tab 3) (by kernel_rfl) rfl
 have hl:=hs.flat 9 3 [3] [x] (by kernel_rfl)
 obtain⟨a0,rfl,w0⟩:=(hl.2 0 x 3 rfl rfl).intS (x:=tyD tab 3) (by kernel_rfl) rfl
 exact⟨_,rfl,w0⟩
theorem rs49 {x:D}(h:RowS tab 49 x):∃a0 a1 a2 a3 a4 a5,x= .agg [.int .u8 a0,.int .i64 a1,.str a2,.list true 6 a3,.int .i64 a4,.list false 1 a5]∧(Lit.int .u8 a0).wf=true∧(Lit.int .i64 a1).wf=true∧a2.size≤maxLen∧ListS tab 49 a3∧(Lit.int .i64 a4).wf=true∧ListS tab 3 a5:=by
 obtain⟨cs,rfl,hs⟩:=h.agg (y:=tyD tab 49) (by kernel_rfl) rfl
 have hl:=hs.flat 9 49 [5,2,9,46,3,47] cs (by kernel_rfl)
 obtain⟨b0,b1,b2,b3,b4,b5,rfl⟩:=llen6 hl.1
 obtain⟨a0,rfl,w0⟩:=(hl.2 0 b0 5 rfl rfl).intS (x:=tyD tab 5) (by kernel_rfl) rfl
 obtain⟨a1,rfl,w1⟩:=(hl.2 1 b1 2 rfl rfl).intS (x:=tyD tab 2) (by kernel_rfl) rfl
 obtain⟨a2,rfl,w2⟩:=(hl.2 2 b2 9 rfl rfl).strS (x:=tyD tab 9) (by kernel_rfl) rfl
 obtain⟨a3,e3,w3⟩:=(hl.2 3 b3 46 rfl rfl).listS (x:=tyD tab 46) (y:=tyD tab 49) (by kernel_rfl) rfl (by kernel_rfl)
 obtain rfl:b3= .list true 6 a3:=e3
 obtain⟨a4,rfl,w4⟩:=(hl.2 4 b4 3 rfl rfl).intS (x:=tyD tab 3) (by kernel_rfl) rfl
 obtain⟨a5,e5,w5⟩:=(hl.2 5 b5 47 rfl rfl).listS (x:=tyD tab 47) (y:=tyD tab 3) (by kernel_rfl) rfl (by kernel_rfl)
 obtain rfl:b5= .list false 1 a5:=e5
 exact⟨_,_,_,_,_,_,rfl,w0,w1,w2,w3,w4,w5⟩
theorem rs90 {x:D}(h:RowS tab 90 x):∃a0 a1 a2 a3 a4 a5 a6 a7 a8,x= .agg [.int .i64 a0,.int .i64 a1,.list false 1 a2,.int .u8 a3,.int .i64 a4,.str a5,.list true 6 a6,.int .i64 a7,.list false 1 a8]∧(Lit.int .i64 a0).wf=true∧(Lit.int .i64 a1).wf=true∧ListS tab 3 a2∧(Lit.int .u8 a3).wf=true∧(Lit.int .i64 a4).wf=true∧a5.size≤maxLen∧ListS tab 49 a6∧(Lit.int .i64 a7).wf=true∧ListS tab 3 a8:=by
 obtain⟨cs,rfl,hs⟩:=h.agg (y:=tyD tab 90) (by kernel_rfl) rfl
 have hl:=hs.flat 9 90 [3,3,47,5,2,9,46,3,47] cs (by kernel_rfl)
 obtain⟨b0,b1,b2,b3,b4,b5,b6,b7,b8,rfl⟩:=llen9 hl.1
 obtain⟨a0,rfl,w0⟩:=(hl.2 0 b0 3 rfl rfl).intS (x:=tyD tab 3) (by kernel_rfl) rfl
 obtain⟨a1,rfl,w1⟩:=(hl.2 1 b1 3 rfl rfl).intS (x:=tyD tab 3) (by kernel_rfl) rfl
 obtain⟨a2,e2,w2⟩:=(hl.2 2 b2 47 rfl rfl).listS (x:=tyD tab 47) (y:=tyD tab 3) (by kernel_rfl) rfl (by kernel_rfl)
 obtain rfl:b2= .list false 1 a2:=e2
 obtain⟨a3,rfl,w3⟩:=(hl.2 3 b3 5 rfl rfl).intS (x:=tyD tab 5) (by kernel_rfl) rfl
 obtain⟨a4,rfl,w4⟩:=(hl.2 4 b4 2 rfl rfl).intS (x:=tyD tab 2) (by kernel_rfl) rfl
 obtain⟨a5,rfl,w5⟩:=(hl.2 5 b5 9 rfl rfl).strS (x:=tyD tab 9) (by kernel_rfl) rfl
 obtain⟨a6,e6,w6⟩:=(hl.2 6 b6 46 rfl rfl).listS (x:=tyD tab 46) (y:=tyD tab 49) (by kernel_rfl) rfl (by kernel_rfl)
 obtain rfl:b6= .list true 6 a6:=e6
 obtain⟨a7,rfl,w7⟩:=(hl.2 7 b7 3 rfl rfl).intS (x:=tyD tab 3) (by kernel_rfl) rfl
 obtain⟨a8,e8,w8⟩:=(hl.2 8 b8 47 rfl rfl).listS (x:=tyD tab 47) (y:=tyD tab 3) (by kernel_rfl) rfl (by kernel_rfl)
 obtain rfl:b8= .list false 1 a8:=e8
 exact⟨_,_,_,_,_,_,_,_,_,rfl,w0,w1,w2,w3,w4,w5,w6,w7,w8⟩
theorem rs92 {x:D}(h:RowS tab 92 x):∃a0,x= .list true 9 a0∧ListS tab 90 a0:=by
 have hs:=h.flat1 (y:=tyD tab 92) (by kernel_rfl) rfl
 have hl:=hs.flat 9 92 [92] [x] (by kernel_rfl)
 obtain⟨a0,e0,w0⟩:=(hl.2 0 x 92 rfl rfl).listS (x:=tyD tab 92) (y:=tyD tab 90) (by kernel_rfl) rfl (by kernel_rfl)
 obtain rfl:x= .list true 9 a0:=e0
 exact⟨_,rfl,w0⟩
end Go.Proofs.Ytiiojajgajnhpaa
end
set_option linter.unusedVariables false
noncomputable section
namespace Go.Proofs.Ytiiojajgajnhpaa
open Go Go.AM
theorem sm9 {a0:ByteArray}(w0:a0.size≤maxLen):Shape tab 9 [.str a0]:=.str (x:=tyD tab 9) a0 (by kernel_rfl) (by kernel_rfl) w0
theorem sm3 {a0:Int}(w0:(Lit.int .i64 a0).wf=true):Shape tab 3 [.int .i64 a0]:=.int (x:=tyD tab 3) a0 (by kernel_rfl) (by kernel_rfl) w0
theorem mk3 {a0:Int}(w0:(Lit.int .i64 a0).wf=true):RowS tab 3 (.int .i64 a0):=⟨sm3 w0,fun y hy=>by rw[show tab 3=some (tyD tab 3)by kernel_rfl]at hy;cases hy;kernel_rfl⟩
theorem sm5 {a0:Int}(w0:(Lit.int .u8 a0).wf=true):Shape tab 5 [.int .u8 a0]:=.int (x:=tyD tab 5) a0 (by kernel_rfl) (by kernel_rfl) w0
theorem sm2 {a0:Int}(w0:(Lit.int .i64 a0).wf=true):Shape tab 2 [.int .i64 a0]:=.int (x:=tyD tab 2) a0 (by kernel_rfl) (by kernel_rfl) w0
theorem sm46 {a0:List D}(w0:ListS tab 49 a0):Shape tab 46 [.list true 6 a0]:=by
 have e:D.list (rowD (tyD tab 49).desc) (tyD tab 49).size a0= .list true 6 a0:=by kernel_rfl
 rw[←e]
 exact w0.shape tab_one (x:=tyD tab 46) (y:=tyD tab 49) (by kernel_rfl) (by kernel_rfl) (by kernel_rfl)
theorem sm47 {a0:List D}(w0:ListS tab 3 a0):Shape tab 47 [.list false 1 a0]:=by
 have e:D.list (rowD (tyD tab 3).desc) (tyD tab 3).size a0= .list false 1 a0:=by kernel_rfl
 rw[←e]
 exact w0.shape tab_one (x:=tyD tab 47) (y:=tyD tab 3) (by kernel_rfl) (by kernel_rfl) (by kernel_rfl)
theorem sm49 {a0:Int}{a1:Int}{a2:ByteArray}{a3:List D}{a4:Int}{a5:List D}(w0:(Lit.int .u8 a0).wf=true) (w1:(Lit.int .i64 a1).wf=true) (w2:a2.size≤maxLen) (w3:ListS tab 49 a3) (w4:(Lit.int .i64 a4).wf=true) (w5:ListS tab 3 a5):Shape tab 49 [.int .u8 a0,.int .i64 a1,.str a2,.list true 6 a3,.int .i64 a4,.list false 1 a5]:=by
 have tt:tab 49=some (tyD tab 49):=by kernel_rfl
 obtain⟨fs,hfs,hall⟩:∃fs,(tyD tab 49).desc= .struct fs∧(fs.toList.all fun f=>[(5,0),(2,1),(9,2),(46,3),(3,4),(47,5)].contains (f.type,f.offset))=true:=⟨(match (tyD tab 49).desc with | .struct fs=>fs | _=>#[]),by kernel_rfl,by kernel_rfl⟩
 refine .struct (x:=tyD tab 49) (fs:=fs) _ tt hfs (by kernel_rfl) (by simp[D.isAgg]) (fun f hf y hy=>?_)
 have hq:=List.all_eq_true.1 hall f hf
 simp only[List.contains_cons,List.contains_nil,Bool.or_false,Bool.or_eq_true,beq_iff_eq,Prod.mk.injEq]at hq
 rcases hq with⟨e1,e2⟩ | ⟨e1,e2⟩ | ⟨e1,e2⟩ | ⟨e1,e2⟩ | ⟨e1,e2⟩ | ⟨e1,e2⟩
 ·rw[e1,show tab 5=some (tyD tab 5)by kernel_rfl]at hy;cases hy;rw[e1,e2,show (tyD tab 5).size=1 by kernel_rfl];exact sm5 w0
 ·rw[e1,show tab 2=some (tyD tab 2)by kernel_rfl]at hy;cases hy;rw[e1,e2,show (tyD tab 2).size=1 by kernel_rfl];exact sm2 w1
 ·rw[e1,show tab 9=some (tyD tab 9)by kernel_rfl]at hy;cases hy;rw[e1,e2,show (tyD tab 9).size=1 by kernel_rfl];exact sm9 w2
 ·rw[e1,show tab 46=some (tyD tab 46)by kernel_rfl]at hy;cases hy;rw[e1,e2,show (tyD tab 46).size=1 by kernel_rfl];exact sm46 w3
 ·rw[e1,show tab 3=some (tyD tab 3)by kernel_rfl]at hy;cases hy;rw[e1,e2,show (tyD tab 3).size=1 by kernel_rfl];exact sm3 w4
 ·rw[e1,show tab 47=some (tyD tab 47)by kernel_rfl]at hy;cases hy;rw[e1,e2,show (tyD tab 47).size=1 by kernel_rfl];exact sm47 w5
theorem mk49 {a0:Int}{a1:Int}{a2:ByteArray}{a3:List D}{a4:Int}{a5:List D}(w0:(Lit.int .u8 a0).wf=true) (w1:(Lit.int .i64 a1).wf=true) (w2:a2.size≤maxLen) (w3:ListS tab 49 a3) (w4:(Lit.int .i64 a4).wf=true) (w5:ListS tab 3 a5):RowS tab 49 (.agg [.int .u8 a0,.int .i64 a1,.str a2,.list true 6 a3,.int .i64 a4,.list false 1 a5]):=⟨sm49 w0 w1 w2 w3 w4 w5,fun y hy=>by rw[show tab 49=some (tyD tab 49)by kernel_rfl]at hy;cases hy;kernel_rfl⟩
theorem sm90 {a0:Int}{a1:Int}{a2:List D}{a3:Int}{a4:Int}{a5:ByteArray}{a6:List D}{a7:Int}{a8:List D}(w0:(Lit.int .i64 a0).wf=true) (w1:(Lit.int .i64 a1).wf=true) (w2:ListS tab 3 a2) (w3:(Lit.int .u8 a3).wf=true) (w4:(Lit.int .i64 a4).wf=true) (w5:a5.size≤maxLen) (w6:ListS tab 49 a6) (w7:(Lit.int .i64 a7).wf=true) (w8:ListS tab 3 a8):Shape tab 90 [.int .i64 a0,.int .i64 a1,.list false 1 a2,.int .u8 a3,.int .i64 a4,.str a5,.list true 6 a6,.int .i64 a7,.list false 1 a8]:=by
 have tt:tab 90=some (tyD tab 90):=by kernel_rfl
 obtain⟨fs,hfs,hall⟩:∃fs,(tyD tab 90).desc= .struct fs∧(fs.toList.all fun f=>[(3,0),(3,1),(47,2),(49,3)].contains (f.type,f.offset))=true:=⟨(match (tyD tab 90).desc with | .struct fs=>fs | _=>#[]),by kernel_rfl,by kernel_rfl⟩
 refine .struct (x:=tyD tab 90) (fs:=fs) _ tt hfs (by kernel_rfl) (by simp[D.isAgg]) (fun f hf y hy=>?_)
 have hq:=List.all_eq_true.1 hall f hf
 simp only[List.contains_cons,List.contains_nil,Bool.or_false,Bool.or_eq_true,beq_iff_eq,Prod.mk.injEq]at hq
 rcases hq with⟨e1,e2⟩ | ⟨e1,e2⟩ | ⟨e1,e2⟩ | ⟨e1,e2⟩
 ·rw[e1,show tab 3=some (tyD tab 3)by kernel_rfl]at hy;cases hy;rw[e1,e2,show (tyD tab 3).size=1 by kernel_rfl];exact sm3 w0
 ·rw[e1,show tab 3=some (tyD tab 3)by kernel_rfl]at hy;cases hy;rw[e1,e2,show (tyD tab 3).size=1 by kernel_rfl];exact sm3 w1
 ·rw[e1,show tab 47=some (tyD tab 47)by kernel_rfl]at hy;cases hy;rw[e1,e2,show (tyD tab 47).size=1 by kernel_rfl];exact sm47 w2
 ·rw[e1,show tab 49=some (tyD tab 49)by kernel_rfl]at hy;cases hy;rw[e1,e2,show (tyD tab 49).size=6 by kernel_rfl];exact sm49 w3 w4 w5 w6 w7 w8
theorem mk90 {a0:Int}{a1:Int}{a2:List D}{a3:Int}{a4:Int}{a5:ByteArray}{a6:List D}{a7:Int}{a8:List D}(w0:(Lit.int .i64 a0).wf=true) (w1:(Lit.int .i64 a1).wf=true) (w2:ListS tab 3 a2) (w3:(Lit.int .u8 a3).wf=true) (w4:(Lit.int .i64 a4).wf=true) (w5:a5.size≤maxLen) (w6:ListS tab 49 a6) (w7:(Lit.int .i64 a7).wf=true) (w8:ListS tab 3 a8):RowS tab 90 (.agg [.int .i64 a0,.int .i64 a1,.list false 1 a2,.int .u8 a3,.int .i64 a4,.str a5,.list true 6 a6,.int .i64 a7,.list false 1 a8]):=⟨sm90 w0 w1 w2 w3 w4 w5 w6 w7 w8,fun y hy=>by rw[show tab 90=some (tyD tab 90)by kernel_rfl]at hy;cases hy;kernel_rfl⟩
end Go.Proofs.Ytiiojajgajnhpaa
end
namespace Go.AM
open Go Go.RowKit
def cvP (p:Id→Bool):CV→Bool
 | .ptr i _=>p i
 | .fn _ cap=>allB p cap
 | .lst i _ _ _=>p i
 | .sl i _=>p i
 | .map i=>p i
 | .ap i _ _ _ _=>p i
 | .ow i=>p i
 | .op i _ _ _=>p i
 | .yl i=>p i
 | _=>true
def v1P (p:Id→Bool):V1→Bool
 | .d _=>true
 | .c x=>cvP p x
 | .agg cs=>allB (cvP p) cs
def avP (p:Id→Bool):AV→Bool
 | .u=>true
 | .v x=>v1P p x
 | .t xs=>allB (v1P p) xs
def objP (p:Id→Bool):AObj→Bool
 | .cells cs=>allB (cvP p) cs
 | .tok ..=>true
 | .map _ _ es=>allB (fun e=>v1P p e.2) es
 | .arr cs1 _ _ _ cs2=>match allB (cvP p) cs1 with
  | true=>allB (cvP p) cs2
  | false=>false
 | .tree _ _ _ _ foc=>match foc with
  | some x=>allB (cvP p) x.2
  | none=>true
 | .pmap _ _ _ _ foc=>match foc with
  | some x=>p x.2
  | none=>true
 | .gone=>true
 | .rnd _ sl=>allB (fun x=>avP p x.2) sl
 | .rndX _=>true
section
variable {p:Id→Bool}{f e:Id→Id}(hp:∀i,p i=true→f (e i)=i)
include hp
theorem ren_cv {c:CV}(h:cvP p c=true):(c.ren e).ren f=c:=by
 cases c<;>simp only[CV.ren,cvP]at h ⊢
 ·rw[hp _ h]
 ·rw[List.map_map]
  congr 1
  rw[allB_iff]at h
  exact map_same fun i hi=>hp _ (h i hi)
 ·rw[hp _ h]
 ·rw[hp _ h]
 ·rw[hp _ h]
 ·rw[hp _ h]
 ·rw[hp _ h]
 ·rw[hp _ h]
 ·rw[hp _ h]
theorem ren_cvs {cs:List CV}(h:allB (cvP p) cs=true):(cs.map (CV.ren e)).map (CV.ren f)=cs:=by
 rw[List.map_map]
 rw[allB_iff]at h
 exact map_same fun i hi=>ren_cv hp (h i hi)
theorem ren_v1 {c:V1}(h:v1P p c=true):(c.ren e).ren f=c:=by
 cases c<;>simp only[V1.ren,v1P]at h ⊢
 ·rw[ren_cv hp h]
 ·rw[ren_cvs hp h]
theorem ren_av {c:AV}(h:avP p c=true):(c.ren e).ren f=c:=by
 cases c<;>simp only[AV.ren,avP]at h ⊢
 ·rw[ren_v1 hp h]
 ·rw[List.map_map]
  congr 1
  rw[allB_iff]at h
  exact map_same fun i hi=>ren_v1 hp (h i hi)
theorem ren_obj {c:AObj}(h:objP p c=true):(c.ren e).ren f=c:=by
 cases c<;>simp only[AObj.ren,objP]at h ⊢
 ·rw[ren_cvs hp h]
 ·rw[List.map_map]
  congr 1
  rw[allB_iff]at h
  refine map_same fun i hi=>?_
  show (i.1,(i.2.ren e).ren f)=i
  rw[ren_v1 hp (h i hi)]
 ·split at h
  ·rename_i h1
   rw[ren_cvs hp h,ren_cvs hp h1]
  ·cases h
 ·congr 1
  split at h
  ·show some (_,List.map (CV.ren f) (List.map (CV.ren e) _))=_
   rw[ren_cvs hp h]
  ·rfl
 ·congr 1
  split at h
  ·show some (_,f (e _))=_
   rw[hp _ h]
  ·rfl
 ·rw[List.map_map]
  congr 1
  rw[allB_iff]at h
  refine map_same fun i hi=>?_
  show (i.1,(i.2.ren e).ren f)=i
  rw[ren_av hp (h i hi)]
end
theorem weak_ren {σ σ':St}(r:Id→Id) (hext:∀j,r (.ext j)= .ext j) (hbig:∀n,σ'.next≤n→∃N,σ.next≤N∧r (.loc n)= .loc N)
  (hs:∀t,getS σ'.slots t= .u∨getS σ.slots t=(getS σ'.slots t).ren r) (hh:∀i o,getH σ'.heap i=some o→getH σ.heap (r i)=some (o.ren r))
  (hinj:∀i j o o',getH σ'.heap i=some o→getH σ'.heap j=some o'→r i=r j→i=j) (hlow:∀n,σ'.next≤n→getH σ'.heap (.loc n)=none):Weak σ σ':=by
 rintro C a w ⟨g,R⟩
 let g':Ghost:=fun i=>g (r i)
 have hz:∀b o,zone g' (getH σ'.heap) b o→zone g (getH σ.heap) b o:=by
  rintro b o ⟨i,ob,hi,h1⟩
  exact⟨r i,_,hh i ob hi,zone1_ren.2 h1⟩
 have hzz:∀b o,zor (zone g' (getH σ'.heap)) C.X b o→zor (zone g (getH σ.heap)) C.X b o:=fun b o hx=>hx.imp (hz b o) id
 have ht:∀i n sz e,getH σ'.heap i=some (.tok n sz e)→getH σ.heap (r i)=some (.tok n sz e):=fun i n sz e hi=>hh i _ hi
 have hw:∀i,isLive (getH σ'.heap i)=true→isLive (getH σ.heap (r i))=true:=by
  intro i hi
  cases hc:getH σ'.heap i with
  | none=>rw[hc]at hi;cases hi
  | some o=>
   rw[hh i o hc]
   rw[hc]at hi
   exact isLive_ren.trans hi
 refine⟨g',R.size,R.defers,fun t=>?_,⟨fun i o hi=>RelObj.pull (r:=r) (g':=g') hzz (fun _=>rfl) ht hw (R.heap.objs _ _ (hh i o hi)),fun i j oi oj b hi hj bi bj=>?_,fun i oi b o hi bi=>R.heap.apart _ _ b o (hh i oi hi) (Obk_ren.2 bi)⟩,R.frame,fun j=>?_,
  fun j ob b o hj hz'=>R.within _ _ b o (hh j ob hj) (zone1_ren.2 hz'),R.xs,fun n hn=>⟨?_,hlow n hn⟩⟩
 ·rcases hs t with e | e
  ·rw[e];trivial
  ·have:=R.slots t
   rw[e]at this
   exact RelAV.pull (r:=r) hzz (fun _=>rfl) ht hw this
 ·exact hinj i j oi oj hi hj (R.heap.sep _ _ _ _ b (hh i oi hi) (hh j oj hj) (Obk_ren.2 bi) (Obk_ren.2 bj))
 ·show gsame (C.g0 (.ext j)) (g (r (.ext j)))
  rw[hext]
  exact R.ext j
 ·obtain⟨N,hN,e⟩:=hbig n hn
  show g (r (.loc n))=undef
  rw[e]
  exact (R.free N hN).1
def fstOf:List (Nat×Nat)→Nat→Option Nat
 | [],_=>none
 | (a,b)::l,k=>match Nat.beq a k with
  | true=>some b
  | false=>fstOf l k
def sndOf:List (Nat×Nat)→Nat→Option Nat
 | [],_=>none
 | (a,b)::l,k=>match Nat.beq b k with
  | true=>some a
  | false=>sndOf l k
def invF (l:List (Nat×Nat)):Id→Id
 | .ext j=>.ext j
 | .loc k=>match fstOf l k with
  | some m=>.loc m
  | none=>.loc k
def backF (l:List (Nat×Nat)):Id→Id
 | .ext j=>.ext j
 | .loc k=>match sndOf l k with
  | some m=>.loc m
  | none=>.loc k
def okId (l:List (Nat×Nat)) (n:Nat) (i:Id):Bool:=
 match Id.beq (backF l (invF l i)) i with
 | true=>idB n (invF l i)
 | false=>false
def renS (l:List (Nat×Nat)):List (Nat×AV)→List (Nat×AV)
 | []=>[]
 | (t,x)::r=>(t,x.ren (invF l))::renS l r
def renH (l:List (Nat×Nat)):List (Id×AObj)→List (Id×AObj)
 | []=>[]
 | (i,x)::r=>(invF l i,x.ren (invF l))::renH l r
def keepR (ks:List Nat) (is:List Id) (n:Nat) (l:List (Nat×Nat)) (σ:St) (K:St→Prop):Prop:=
 match keepH σ.heap is with
 | none=>False
 | some hp=>req (allB (fun x:Nat×AV=>avP (okId l n) x.2) (keepS σ.slots ks))<| req (allB (fun x:Id×AObj=>match okId l n x.1 with | true=>objP (okId l n) x.2 | false=>false) hp)<|
   K ⟨renS l (keepS σ.slots ks),renH l hp,n⟩
theorem renS_get {l:List (Nat×Nat)}{s:List (Nat×AV)}(t:Nat):getS (renS l s) t=(getS s t).ren (invF l):=by
 induction s with
 | nil=>rfl
 | cons x s ih=>
  obtain⟨k,v⟩:=x
  show getS ((k,v.ren (invF l))::renS l s) t=_
  rw[getS_cons,getS_cons]
  simp only[]
  split
  ·rfl
  ·exact ih
theorem renH_get {l:List (Nat×Nat)}{p:Id→Bool}{f:Id→Id}(hp:∀i,p i=true→f (invF l i)=i):∀{s:List (Id×AObj)},(∀x∈s,p x.1=true)→∀{i:Id}{o:AObj},getH (renH l s) i=some o→p (f i)=true∧invF l (f i)=i∧∃o',getH s (f i)=some o'∧o=o'.ren (invF l)
 | [],_,i,o,h=>by simp[renH,getH]at h
 | (k,v)::s,hs,i,o,h=>by
  have hk:=hs (k,v) (by simp)
  rw[show renH l ((k,v)::s)=(invF l k,v.ren (invF l))::renH l s from rfl,getH_cons]at h
  simp only[updO]at h
  by_cases e:i=invF l k
  ·rw[if_pos e]at h
   simp at h
   have hf:f i=k:=by rw[e];exact hp k hk
   rw[hf]
   exact⟨hk,e.symm,v,by rw[getH_cons];simp[updO],h.symm⟩
  ·rw[if_neg e]at h
   obtain⟨h1,h2,o',h3,h4⟩:=renH_get hp (fun x hx=>hs x (List.mem_cons_of_mem _ hx)) h
   refine⟨h1,h2,o',?_,h4⟩
   rw[getH_cons]
   simp only[updO]
   rw[if_neg]
   ·exact h3
   ·rintro rfl
    exact e h2.symm
theorem getH_all {q:Id×AObj→Bool}{l:List (Id×AObj)}(h:allB q l=true) {i:Id}{o:AObj}(hi:getH l i=some o):q (i,o)=true:=by
 induction l with
 | nil=>simp[getH]at hi
 | cons x l ih=>
  obtain⟨k,v⟩:=x
  rw[allB_iff]at h
  rw[getH_cons]at hi
  simp only[updO]at hi
  split at hi
  ·rename_i e
   cases hi
   rw[e]
   exact h _ (List.mem_cons_self ..)
  ·exact ih (allB_iff.2 fun x hx=>h x (by simp[hx])) hi
theorem keepR_weak {ks:List Nat}{is:List Id}{n:Nat}{l:List (Nat×Nat)}{σ:St}{K:St→Prop}(h:keepR ks is n l σ K):∃σ',Weak σ σ'∧K σ':=by
 unfold keepR at h
 split at h
 ·exact h.elim
 ·rename_i hp hhp
  obtain⟨h1,h⟩:=req_iff.1 h
  obtain⟨h2,h⟩:=req_iff.1 h
  let N:=max σ.next n
  let f:Id→Id:=fun i=>if idB n i=true then backF l i else .loc N
  have hpf:∀i,okId l n i=true→f (invF l i)=i:=by
   intro i hi
   unfold okId at hi
   split at hi
   ·rename_i hb
    show (if idB n (invF l i)=true then _ else _)=i
    rw[if_pos hi]
    exact Id.beq_iff.1 hb
   ·cases hi
  have hk2:∀x∈hp,okId l n x.1=true∧objP (okId l n) x.2=true:=by
   intro x hx
   have:=allB_iff.1 h2 x hx
   split at this
   ·rename_i hb;exact⟨hb,this⟩
   ·cases this
  have hnew:∀i o,getH (renH l hp) i=some o→okId l n (f i)=true∧invF l (f i)=i∧∃o',getH hp (f i)=some o'∧o=o'.ren (invF l):=fun i o hi=>renH_get hpf (fun x hx=>(hk2 x hx).1) hi
  refine⟨_,weak_ren f (fun j=>by show (if idB n (.ext j)=true then _ else _)=_;simp[idB,backF]) (fun m hm=>⟨N,Nat.le_max_left _ _,?_⟩) (fun t=>?_) (fun i o hi=>?_) (fun i j o o' hi hj e=>?_) (fun m hm=>?_),h⟩
  ·have hm:n≤m:=hm
   have:idB n (.loc m)=false:=by
    cases hb:idB n (.loc m)with
    | false=>rfl
    | true=>simp[idB]at hb;omega
   show (if idB n (.loc m)=true then _ else _)=_
   rw[this];rfl
  ·rw[renS_get]
   rcases keepS_get (l:=σ.slots) (ks:=ks) t with e | e
   ·rw[e];exact .inl rfl
   ·right
    rw[←e]
    exact (ren_av hpf (getS_all (p:=avP (okId l n)) rfl h1 t)).symm
  ·obtain⟨p1,p2,o',p3,rfl⟩:=hnew i o hi
   have hq:=getH_all (q:=fun x=>objP (okId l n) x.2) (allB_iff.2 fun x hx=>(hk2 x hx).2) p3
   rw[ren_obj hpf hq]
   exact (keepH_get hhp _ _ p3).1
  ·obtain⟨_,p2,_⟩:=hnew i o hi
   obtain⟨_,q2,_⟩:=hnew j o' hj
   rw[←p2,←q2,e]
  ·cases hc:getH (renH l hp) (.loc m)with
   | none=>rfl
   | some o=>
    obtain⟨p1,p2,_⟩:=hnew _ o hc
    have hm:n≤m:=hm
    unfold okId at p1
    split at p1
    ·rw[p2]at p1
     simp[idB]at p1
     omega
    ·cases p1
end Go.AM
namespace Go.AM
open Go Go.RowKit
theorem loop_invG {M:Mach}{ex:St→(AExit→St→Prop)→Prop}{σ:St}{K:AExit→St→Prop}(gs:List Gh) (l:List (Nat×Nat)) (ks:List Nat) (is:List Id) (nx:Nat) {T:Type}(S:T→St) (I:T→Prop) (m:T→Nat) (t0:T)
  (hI:I t0) (h0:gh gs σ fun σ=>keepR ks is nx l σ (·=S t0))
  (hr:∀t,I t→ex (S t) fun e σ2=>match e with
   | .normal=>∃n' σ3,n'<m t∧Weak σ2 σ3∧∃t',I t'∧n'=m t'∧σ3=S t'
   | .exit id=>K (.exit id) σ2
   | .ret=>K .ret σ2):M.lock fun _=>loopP ex σ K∨∃n,unrollP ex K n σ:=by
 refine (M.lock_iff _).2<| .inl ⟨fun n σ=>∃t,I t∧n=m t∧σ=S t,m t0,?_,?_⟩
 ·obtain⟨σ1,hw1,h1⟩:=gh_weak h0
  obtain⟨σ',hw,e⟩:=keepR_weak h1
  exact⟨σ',Weak.trans hw1 hw,t0,hI,rfl,e⟩
 ·rintro n σ1 ⟨t,h1,rfl,rfl⟩
  exact hr t h1
theorem loop_nextG {T:Type}{m:T→Nat}{I:T→Prop}{S:T→St}{σ2:St}{k:Nat}(t':T) (gs:List Gh) (l:List (Nat×Nat)) (ks:List Nat) (is:List Id) (nx:Nat) (hI:I t') (hm:m t'<k)
  (hk:gh gs σ2 fun σ=>keepR ks is nx l σ (·=S t')):∃n' σ3,n'<k∧Weak σ2 σ3∧∃t',I t'∧n'=m t'∧σ3=S t':=by
 obtain⟨σ1,hw1,h1⟩:=gh_weak hk
 obtain⟨σ',hw,e⟩:=keepR_weak h1
 exact⟨m t',σ',hm,Weak.trans hw1 hw,t',hI,rfl,e⟩
def lentD:AObj→Option D
 | .tree k ag sz rows foc=>match foc with
  | none=>conD k ag sz rows
  | some _=>none
 | _=>none
def lentB (o:AObj):Bool:=
 match lentD o with
 | some _=>true
 | none=>false
def lendC (n:Nat) (L:List AObj):CV→CV
 | .ow i=>match i with
  | .ext j=>match Nat.blt j n with
   | true=>.ow (.ext j)
   | false=>match L[j - n]? with
    | some o=>match lentD o with
     | some x=>.d x
     | none=>.un
    | none=>.un
  | .loc k=>.ow (.loc k)
 | c=>c
def lendV (n:Nat) (L:List AObj):V1→V1
 | .d x=>.d x
 | .c c=>V1.ofC (lendC n L c)
 | .agg cs=>V1.norm (.agg (cs.map (lendC n L)))
def plC:D→Bool
 | .list _ _ _=>false
 | _=>true
def plD:D→Bool
 | .agg cs=>allB plC cs
 | x=>plC x
def extB (n:Nat):Id→Bool
 | .ext j=>Nat.blt j n
 | .loc _=>true
def plCV (n:Nat):CV→Bool
 | .un=>true
 | .d x=>plD x
 | .ptr i _=>extB n i
 | .nilp=>true
 | .fn _ cap=>allB (extB n) cap
 | .nilf=>true
 | .nils _ _=>true
 | .sl i _=>extB n i
 | .map i=>extB n i
 | .nilm=>true
 | .ap i _ _ _ _=>extB n i
 | .ow i=>extB n i
 | .op i _ _ _=>extB n i
 | .yl i=>extB n i
 | _=>false
def plV (n:Nat):V1→Bool
 | .d x=>plD x
 | .c c=>plCV n c
 | .agg cs=>allB (plCV n) cs
def plA (n:Nat):AV→Bool
 | .u=>true
 | .v x=>plV n x
 | .t xs=>allB (plV n) xs
def plO (n:Nat):AObj→Bool
 | .cells cs=>allB (plCV n) cs
 | .tok ..=>true
 | .tree kd _ _ _ foc=>notFlat kd&&match foc with
  | some x=>allB (plCV n) x.2
  | none=>true
 | .gone=>true
 | .rnd _ sl=>allB (fun x=>plA n x.2) sl
 | .rndX _=>true
 | _=>false
theorem CV.ren_id (c:CV):c.ren (fun i=>i)=c:=by cases c<;>simp[CV.ren]
theorem V1.ren_id (c:V1):c.ren (fun i=>i)=c:=by
 cases c with
 | d x=>rfl
 | c x=>simp[V1.ren,CV.ren_id]
 | agg cs=>simp only[V1.ren];congr 1;exact map_same fun x _=>CV.ren_id x
theorem AObj.ren_id (c:AObj):c.ren (fun i=>i)=c:=by
 have hc:∀cs:List CV,cs.map (CV.ren fun i=>i)=cs:=fun cs=>map_same fun x _=>CV.ren_id x
 cases c with
 | cells cs=>simp only[AObj.ren,hc]
 | tok=>rfl
 | map kt et es=>simp only[AObj.ren];congr 1;exact map_same fun x _=>by simp[V1.ren_id]
 | arr=>simp only[AObj.ren,hc]
 | tree kd ag sz rows foc=>cases foc<;>simp[AObj.ren,hc]
 | pmap n1 sz n rows foc=>cases foc<;>simp[AObj.ren]
 | gone=>rfl
 | rnd r sl=>
  simp only[AObj.ren];congr 1
  refine map_same fun x _=>?_
  show (x.1,x.2.ren fun i=>i)=x
  have:x.2.ren (fun i=>i)=x.2:=by
   cases hx:x.2 with
   | u=>rfl
   | v y=>simp[AV.ren,V1.ren_id]
   | t ys=>simp only[AV.ren];congr 1;exact map_same fun y _=>V1.ren_id y
  rw[this]
 | rndX j=>rfl
section
variable {w:World}{Z Z' X:Zone}{g g':Ghost}{h h':Heap}
theorem plC_any {x:D}{v:Value}(r:RelD w Z x v) (hx:plC x=true) (ha:x.isAgg=false):RelD w Z' x v:=by
 cases r with
 | int k n=>exact .int k n
 | bool b=>exact .bool b
 | str s=>exact .str s
 | nil=>exact .nil
 | box cs v hv=>exact .box cs v hv
 | map sz rows v hv=>exact .map sz rows v hv
 | agg=>cases ha
 | list=>cases hx
theorem plD_any {x:D}{v:Value}(r:RelD w Z x v) (hx:plD x=true):RelD w Z' x v:=by
 cases ha:x.isAgg with
 | true=>
  cases r with
  | agg cs vs hs h1 hr=>exact .agg cs vs hs h1 fun j c u hc hu=>plC_any (hr j c u hc hu) (allB_iff.1 hx c (List.mem_of_getElem? hc)) (h1 c (List.mem_of_getElem? hc))
  | _=>cases ha
 | false=>
  refine plC_any r ?_ ha
  cases x<;>first | exact hx | cases ha
theorem plCV_any {n:Nat}(hg:∀i,extB n i=true→g' i=g i) (hh:∀i,extB n i=true→h' i=h i) {c:CV}{v:Value}(r:RelC w Z g h c v) (hc:plCV n c=true):RelC w Z' g' h' c v:=by
 cases c with
 | un=>exact r
 | d x=>exact⟨plD_any r.1 hc,r.2⟩
 | ptr i o=>simp only[RelC,hg i hc]at r ⊢;exact r
 | nilp=>exact r
 | fn f cap=>
  have hc:allB (extB n) cap=true:=hc
  rw[allB_iff]at hc
  obtain⟨r1,r2⟩:=r
  refine⟨?_,fun i hi=>by rw[hg i (hc i hi)];exact r2 i hi⟩
  rw[r1]
  congr 2
  exact List.map_congr_left fun i hi=>by rw[hg i (hc i hi)]
 | nilf=>exact r
 | nils=>exact r
 | sl i k=>simp only[RelC,hg i hc]at r ⊢;exact r
 | map i=>simp only[RelC,hg i hc]at r ⊢;exact r
 | nilm=>exact r
 | ap i b sz k o=>simp only[RelC,hg i hc]at r ⊢;exact r
 | ow i=>simp only[RelC,hg i hc,hh i hc]at r ⊢;exact r
 | op i sz k o=>simp only[RelC,hg i hc,hh i hc]at r ⊢;exact r
 | yl i=>simp only[RelC,hg i hc]at r ⊢;exact r
 | _=>cases hc
theorem plV_any {n:Nat}(hg:∀i,extB n i=true→g' i=g i) (hh:∀i,extB n i=true→h' i=h i) {c:V1}{v:Value}(r:RelV1 w Z g h c v) (hc:plV n c=true):RelV1 w Z' g' h' c v:=by
 cases c with
 | d x=>exact plD_any r hc
 | c x=>exact plCV_any hg hh r hc
 | agg cs=>
  obtain⟨vs,hv,hs,hr⟩:=r
  exact⟨vs,hv,hs,fun j c u h1 h2=>plCV_any hg hh (hr j c u h1 h2) (allB_iff.1 hc c (List.mem_of_getElem? h1))⟩
theorem plA_any {n:Nat}(hg:∀i,extB n i=true→g' i=g i) (hh:∀i,extB n i=true→h' i=h i) {c:AV}{v:Value}(r:RelAV w Z g h c v) (hc:plA n c=true):RelAV w Z' g' h' c v:=by
 cases c with
 | u=>trivial
 | v x=>exact plV_any hg hh r hc
 | t xs=>
  obtain⟨vs,hv,hs,hr⟩:=r
  exact⟨vs,hv,hs,fun j c u h1 h2=>plV_any hg hh (hr j c u h1 h2) (allB_iff.1 hc c (List.mem_of_getElem? h1))⟩
theorem plO_any {n:Nat}(hg:∀i,extB n i=true→g' i=g i) (hh:∀i,extB n i=true→h' i=h i) {o:AObj}{v:Value}(r:RelObj w Z g h o v) (hc:plO n o=true):RelObj w Z' g' h' o v:=by
 cases o with
 | cells cs=>
  obtain⟨b,c,e,hv,hb,hs,hr⟩:=r
  exact⟨b,c,e,hv,hb,hs,fun j x u h1 h2=>plCV_any hg hh (hr j x u h1 h2) (allB_iff.1 hc x (List.mem_of_getElem? h1))⟩
 | tok=>exact r
 | tree kd ag sz rows foc=>
  obtain⟨ht,h0,hf,xs,hx,hcc,U,T,q⟩:=r
  unfold plO at hc
  rw[Bool.and_eq_true]at hc
  obtain⟨hnf,hc⟩:=hc
  have hkf:=notFlat_iff.1 hnf
  refine⟨ht,h0,hf,xs,hx,fun k cs hk=>?_,U,T,fun i r j c h1 h2 h3=>⟨(q.1 i r j c h1 h2 h3).1,(RelK.own hkf).2 ((RelK.own hkf).1 (q.1 i r j c h1 h2 h3).2)⟩,q.2⟩
  subst hk
  obtain⟨p1,p2,p3⟩:=hcc k cs rfl
  exact⟨p1,p2,fun j c u h1 h2=>plCV_any hg hh (p3 j c u h1 h2) (allB_iff.1 hc c (List.mem_of_getElem? h1))⟩
 | gone=>trivial
 | rnd rf sl=>
  obtain⟨l,L,hv,hh',h1,h2,h3,h4,h5,h6,h7⟩:=r
  refine⟨l,L,hv,hh',h1,h2,h3,h4,h5,h6,fun t=>plA_any hg hh (h7 t) ?_⟩
  have hc:allB (fun x=>plA n x.2) sl=true:=hc
  rw[allB_iff]at hc
  exact getS_ind (p:=fun x=>plA n x=true) rfl hc t
 | rndX j=>exact r
 | _=>cases hc
end
theorem Trip.lend {P:Program}{I:Inv}{f:FuncId}{targs targs':List V1}{pre post new:List AObj}{res:AV}(ht:Trip P I f targs pre res post new) (L:List AObj) (hL:allB lentB L=true)
  (he:targs'.map (lendV pre.length L)=targs) (hlen:post.length=pre.length) (hres:plA pre.length res=true) (hpost:allB (plO pre.length) post=true) (hnew:allB (plO pre.length) new=true):
  Trip P I f targs' (pre++L) res (post++L) new:=by
 refine Trip.mk' ht.1 fun w X g vals hX hI RH hgl hsz hargs=>?_
 let n:=pre.length
 let hs:Heap:=heapOf pre
 let hb:Heap:=heapOf (pre++L)
 have sub:∀i o,hs i=some o→hb i=some o∧extB n i=true:=by
  intro i o hi
  cases i with
  | loc k=>simp[hs,heapOf]at hi
  | ext j=>
   have hi:pre[j]?=some o:=hi
   have hlt:=(List.getElem?_eq_some_iff.1 hi).1
   refine⟨?_,by simp[extB,n,hlt]⟩
   show (pre++L)[j]?=some o
   rw[List.getElem?_append_left hlt];exact hi
 have lent:∀i o,hb i=some o→hs i=some o∨∃j,i= .ext j∧n≤j∧L[j - n]?=some o:=by
  intro i o hi
  cases i with
  | loc k=>simp[hb,heapOf]at hi
  | ext j=>
   have hi:(pre++L)[j]?=some o:=hi
   by_cases hj:j<n
   ·rw[List.getElem?_append_left hj]at hi;exact .inl hi
   ·rw[List.getElem?_append_right (by omega)]at hi
    exact .inr ⟨j,rfl,by omega,hi⟩
 have lentO:∀(k:Nat) o,L[k]?=some o→∃kd ag sz rows x,o= .tree kd ag sz rows none∧conD kd ag sz rows=some x:=by
  intro k o hk
  have:=allB_iff.1 hL o (List.mem_of_getElem? hk)
  unfold lentB at this
  cases o with
  | tree kd ag sz rows foc=>
   cases foc with
   | none=>
    simp only[lentD]at this
    split at this
    ·rename_i x hx;exact⟨kd,ag,sz,rows,x,rfl,hx⟩
    ·cases this
   | some _=>simp[lentD]at this
  | _=>simp[lentD]at this
 have zsub:∀b o,zone g hs b o→zone g hb b o:=fun b o ⟨i,ob,hi,h1⟩=>⟨i,ob,(sub i ob hi).1,h1⟩
 have zz:∀b o,zor (zone g hs) X b o→zor (zone g hb) X b o:=fun b o hz=>hz.imp (zsub b o) id
 -- the lent blocks are nobody else's
 have apart:∀j o,n≤j→L[j - n]?=some o→∀b,Blk (g (.ext j)) b→∀q,¬zor (zone g hs) X b q:=by
  intro j o hj ho b hbb q hz
  obtain⟨kd,ag,sz,rows,x,rfl,hx⟩:=lentO _ _ ho
  have hbj:hb (.ext j)=some (.tree kd ag sz rows none):=by
   show (pre++L)[j]?=_
   rw[List.getElem?_append_right (by omega)];exact ho
  rcases hz with⟨i,ob,hi,h1⟩ | hx'
  ·have:=RH.sep i (.ext j) ob _ b (sub i ob hi).1 hbj h1.obk hbb
   subst this
   have:=(sub _ ob hi).2
   simp[extB]at this
   omega
  ·exact RH.apart (.ext j) _ b q hbj hbb hx'
 have RS:RelH w X g hs:=by
  refine⟨fun i o hi=>?_,fun i j oi oj b hi hj bi bj=>RH.sep i j oi oj b (sub i oi hi).1 (sub j oj hj).1 bi bj,fun i oi b o hi bi=>RH.apart i oi b o (sub i oi hi).1 bi⟩
  refine RelObj.pull (r:=fun i=>i) (g:=g) (h:=hb) zz (fun _=>rfl) (fun i n sz e hi=>(sub i _ hi).1) (fun i hi=>?_) (by rw[AObj.ren_id];exact RH.objs i o (sub i o hi).1)
  cases hc:hs i with
  | none=>rw[hc]at hi;cases hi
  | some o=>rw[(sub i o hc).1];rw[hc]at hi;exact hi
 have live:∀i,isLive (hs i)=true→isLive (hb i)=true:=fun i hi=>by
  cases hc:hs i with
  | none=>rw[hc]at hi;cases hi
  | some o=>rw[(sub i o hc).1];rw[hc]at hi;exact hi
 have cv:∀{c:CV} {v:Value},RelC w (zor (zone g hb) X) g hb c v→RelC w (zor (zone g hs) X) g hs (lendC n L c) v:=by
  intro c v hr
  have triv:RelC w (zor (zone g hs) X) g hs c v:=RelC.pull (r:=fun i=>i) (g:=g) (h:=hb) zz (fun _=>rfl) (fun i n sz e hi=>(sub i _ hi).1) live (by rw[CV.ren_id];exact hr)
  cases c with
  | ow i=>
   cases i with
   | loc k=>exact triv
   | ext j=>
    show RelC w _ g hs (match Nat.blt j n with
     | true=>.ow (.ext j)
     | false=>match L[j - n]? with
      | some o=>match lentD o with
       | some x=>.d x
       | none=>.un
      | none=>.un) v
    cases hj:Nat.blt j n with
    | true=>exact triv
    | false=>
     have hj:n≤j:=by
      have:¬j<n:=by
       intro hlt
       have:Nat.blt j n=true:=by simpa using hlt
       rw[this]at hj;cases hj
      omega
     simp only[]
     cases ho:L[j - n]? with
     | none=>exact hr.1
     | some o=>
      obtain⟨kd,ag,sz,rows,x,rfl,hx⟩:=lentO _ _ ho
      have hbj:hb (.ext j)=some (.tree kd ag sz rows none):=by
       show (pre++L)[j]?=_
       rw[List.getElem?_append_right (by omega)];exact ho
      simp only[lentD,hx]
      have hv:=hr.2.2 (by rw[hbj];rfl)
      have ho':=((tree_iff hx).1 (RH.objs _ _ hbj)).2
      rw[hv]
      exact⟨ho'.toD fun b q hb=>apart j _ hj ho b hb q,ho'.isAgg⟩
  | _=>exact triv
 have hargs':∀(j:Nat) x v,targs[j]?=some x→vals[j]?=some v→RelV1 w (zor (zone g hs) X) g hs x v:=by
  intro j x v hx hv
  rw[←he,List.getElem?_map,Option.map_eq_some_iff]at hx
  obtain⟨x',hx',rfl⟩:=hx
  have hr:=hargs j x' v hx' hv
  cases x' with
  | d x=>exact RelD.mono (fun b o u hu hn=>⟨hu,fun hz=>hn (zz b o hz)⟩) hr
  | c c=>exact RelV1.ofC (cv hr)
  | agg cs=>
   obtain⟨vs,hv',hs',hr⟩:=hr
   refine RelV1.norm (show RelV1 w (zor (zone g hs) X) g hs (.agg (cs.map (lendC n L))) v from⟨vs,hv',by simpa using hs',fun q c u hc hu=>?_⟩)
   rw[List.getElem?_map,Option.map_eq_some_iff]at hc
   obtain⟨c',hc',rfl⟩:=hc
   exact cv (hr q c' u hc' hu)
 refine (ht.calls (X:=X) (g:=g) (vals:=vals) hX (hI.mono zz) RS hgl (by rw[hsz,←he];simp) hargs').mono ?_
 rintro e w' ⟨v,g',rfl,CP⟩
 let g2:Ghost:=fun i=>match i with
  | .ext j=>if j<n then g' (.ext j)else g (.ext j)
  | .loc k=>g' (.loc k)
 let hs2:Heap:=heapOf2 post new
 let hb2:Heap:=heapOf2 (post++L) new
 have hg2:∀i,extB n i=true→g2 i=g' i:=by
  intro i hi
  cases i with
  | loc k=>rfl
  | ext j=>
   have:j<n:=by simpa [extB] using hi
   show (if j<n then _ else _)=_
   rw[if_pos this]
 have hh2:∀i,extB n i=true→hb2 i=hs2 i:=by
  intro i hi
  cases i with
  | loc k=>rfl
  | ext j=>
   have:j<n:=by simpa [extB] using hi
   show (post++L)[j]?=post[j]?
   rw[List.getElem?_append_left (by omega)]
 have case2:∀i o,hb2 i=some o→(extB n i=true∧hs2 i=some o)∨∃j,i= .ext j∧n≤j∧L[j - n]?=some o∧g2 i=g i∧hb i=some o:=by
  intro i o hi
  cases i with
  | loc k=>exact .inl ⟨rfl,hi⟩
  | ext j=>
   have hi':(post++L)[j]?=some o:=hi
   by_cases hj:j<n
   ·exact .inl ⟨by simp[extB,hj],by rw[←hh2 _ (by simp[extB,hj])];exact hi⟩
   ·rw[List.getElem?_append_right (by omega),hlen]at hi'
    refine .inr ⟨j,rfl,by omega,hi',?_,?_⟩
    ·show (if j<n then _ else _)=_
     rw[if_neg hj]
    ·show (pre++L)[j]?=_
     rw[List.getElem?_append_right (by omega)];exact hi'
 have small:∀i o,hs2 i=some o→plO n o=true∧extB n i=true:=by
  intro i o hi
  cases i with
  | loc k=>exact⟨allB_iff.1 hnew o (List.mem_of_getElem? (show new[k]?=some o from hi)),rfl⟩
  | ext j=>
   have hi:post[j]?=some o:=hi
   exact⟨allB_iff.1 hpost o (List.mem_of_getElem? hi),by simp[extB,n,←hlen,(List.getElem?_eq_some_iff.1 hi).1]⟩
 have old:∀j o,n≤j→L[j - n]?=some o→hb (.ext j)=some o→∀b,Obk (g (.ext j)) o b→b<w.heap.size∧Blk (g (.ext j)) b:=fun j o hj ho hbj b hb=>⟨(RH.objs _ _ hbj).lt hb,hb.blk⟩
 refine⟨v,g2,rfl,⟨⟨fun i o hi=>?_,fun i j oi oj b hi hj bi bj=>?_,fun i oi b o hi bi=>?_⟩,plA_any hg2 hh2 CP.res hres,CP.frame.weaken zsub,fun j=>?_,fun i ob b o hi hz=>?_,fun k hk=>CP.none k hk⟩⟩
 ·rcases case2 i o hi with⟨h1,h2⟩ | ⟨j,rfl,hj,ho,hg,hbj⟩
  ·rw[hg2 i h1]
   exact plO_any hg2 hh2 (CP.heap.objs i o h2) (small i o h2).1
  ·rw[hg]
   obtain⟨kd,ag,sz,rows,x,rfl,hx⟩:=lentO _ _ ho
   obtain⟨h1,h2⟩:=(tree_iff hx).1 (RH.objs _ _ hbj)
   exact (tree_iff hx).2 ⟨h1,h2.same fun b hb=>CP.frame.block b (h2.lt b hb) (fun q hz=>apart j _ hj ho b hb q (.inl hz))⟩
 ·have mixed:∀i j oi oj,extB n i=true→hs2 i=some oi→∀k,j= .ext k→n≤k→L[k - n]?=some oj→hb j=some oj→Obk (g' i) oi b→Obk (g j) oj b→False:=by
   rintro i j oi oj h1 h2 k rfl hk ho hbj bi bj
   obtain⟨q,hq⟩:=bi.zone
   obtain⟨p1,p2⟩:=old k oj hk ho hbj b bj
   rcases CP.within i oi b q h2 hq with hz | hz
   ·exact apart k oj hk ho b p2 q (.inl hz)
   ·omega
  rcases case2 i oi hi with⟨h1,h2⟩ | ⟨k,hk1,hk,ho,hg,hbj⟩
  ·rw[hg2 i h1]at bi
   rcases case2 j oj hj with⟨h3,h4⟩ | ⟨k',hk1',hk',ho',hg',hbj'⟩
   ·rw[hg2 j h3]at bj
    exact CP.heap.sep i j oi oj b h2 h4 bi bj
   ·rw[hg']at bj
    exact (mixed i j oi oj h1 h2 k' hk1' hk' ho' hbj' bi bj).elim
  ·rw[hg]at bi
   rcases case2 j oj hj with⟨h3,h4⟩ | ⟨k',hk1',hk',ho',hg',hbj'⟩
   ·rw[hg2 j h3]at bj
    exact (mixed j i oj oi h3 h4 k hk1 hk ho hbj bj bi).elim
   ·rw[hg']at bj
    exact RH.sep i j oi oj b hbj hbj' bi bj
 ·rcases case2 i oi hi with⟨h1,h2⟩ | ⟨k,hk1,hk,ho,hg,hbj⟩
  ·rw[hg2 i h1]at bi
   exact CP.heap.apart i oi b o h2 bi
  ·rw[hg]at bi
   exact RH.apart i oi b o hbj bi
 ·show gsame (g (.ext j)) (if j<n then g' (.ext j)else g (.ext j))
  split
  ·exact CP.ext j
  ·exact .refl _
 ·rcases case2 i ob hi with⟨h1,h2⟩ | ⟨k,hk1,hk,ho,hg,hbj⟩
  ·rw[hg2 i h1]at hz
   rcases CP.within i ob b o h2 hz with h3 | h3
   ·exact .inl (zsub b o h3)
   ·exact .inr h3
  ·rw[hg]at hz
   exact .inl ⟨i,ob,hbj,hz⟩
end Go.AM
namespace Go.AM
open Go Go.RowKit
section
variable {α β γ:Type}
def bS (x:Option (α ⊕ β)) (k1:α→Option γ) (k2:β→Option γ):Option γ:=
 match x with
 | some (.inl a)=>k1 a
 | some (.inr b)=>k2 b
 | none=>none
theorem bS_inv {x:Option (α ⊕ β)}{k1:α→Option γ}{k2:β→Option γ}{r:γ}(h:bS x k1 k2=some r):(∃a,x=some (.inl a)∧k1 a=some r)∨∃b,x=some (.inr b)∧k2 b=some r:=by
 unfold bS at h
 split at h
 ·exact .inl ⟨_,rfl,h⟩
 ·exact .inr ⟨_,rfl,h⟩
 ·cases h
end
section
variable {γ:Type}
def letB (b:Bool) (k:Bool→Option γ):Option γ:=k b
theorem letB_inv {b:Bool}{k:Bool→Option γ}{r:γ}(h:letB b k=some r):∃y,b=y∧k y=some r:=⟨b,rfl,h⟩
def findF (e:Bool) (key:D) (rows:List D) (k1:D→Option γ) (k0:Option γ):Option γ:=
 match findR e key rows with
 | some (some y)=>k1 y
 | some none=>k0
 | none=>none
theorem findF_inv {e:Bool}{key:D}{rows:List D}{k1:D→Option γ}{k0:Option γ}{r:γ}(h:findF e key rows k1 k0=some r):(∃y,findR e key rows=some (some y)∧k1 y=some r)∨(findR e key rows=some none∧k0=some r):=by
 unfold findF at h
 split at h
 ·rename_i y hy
  exact .inl ⟨y,hy,h⟩
 ·rename_i hy
  exact .inr ⟨hy,h⟩
 ·cases h
def putF (key:D) (ws rows:List D) (k:List D→Option γ):Option γ:=
 match putR key ws rows with
 | some r=>k r
 | none=>none
theorem putF_inv {key:D}{ws rows:List D}{k:List D→Option γ}{r:γ}(h:putF key ws rows k=some r):∃out,putR key ws rows=some out∧k out=some r:=by
 unfold putF at h
 split at h
 ·rename_i out ho
  exact⟨out,ho,h⟩
 ·cases h
end
theorem eqv_ne {a b q:Bool}(h:(!(a==b))=q):notB (eqvB a b)=q:=by rw[eqvB_eq,notB_eq];exact h
theorem not_eq' {a q:Bool}(h:(!a)=q):notB a=q:=by rw[notB_eq];exact h
theorem seq_go {M:Mach}{ea eb:St→(AExit→St→Prop)→Prop}{σ:St}{K:AExit→St→Prop}(h:ea σ fun e σ'=>match e with
  | .normal=>eb σ' K
  | .exit id=>K (.exit id) σ'
  | .ret=>K .ret σ'):M.lock fun _=>seqP ea eb σ K:=(M.lock_iff _).2 (.inl h)
theorem seq_join {M:Mach}{ea eb:St→(AExit→St→Prop)→Prop}{σ:St}{K:AExit→St→Prop}{T:Type}(S:T→St) (I:T→Prop)
  (ha:ea σ fun e σ'=>match e with
   | .normal=>∃σ'',Weak σ' σ''∧∃t,I t∧σ''=S t
   | .exit id=>K (.exit id) σ'
   | .ret=>K .ret σ') (hb:∀t,I t→eb (S t) K):M.lock fun _=>seqP ea eb σ K:=by
 refine (M.lock_iff _).2 (.inr ⟨fun σ=>∃t,I t∧σ=S t,ha,?_⟩)
 rintro σ2 ⟨t,hi,rfl⟩
 exact hb t hi
theorem join_nextG {T:Type}{I:T→Prop}{S:T→St}{σ2:St}(t':T) (gs:List Gh) (l:List (Nat×Nat)) (ks:List Nat) (is:List Id) (nx:Nat) (hI:I t') (hk:gh gs σ2 fun σ=>keepR ks is nx l σ (·=S t')):
  ∃σ'',Weak σ2 σ''∧∃t,I t∧σ''=S t:=by
 obtain⟨σ1,hw1,h1⟩:=gh_weak hk
 obtain⟨σ',hw,e⟩:=keepR_weak h1
 exact⟨σ',Weak.trans hw1 hw,t',hI,e⟩
theorem join_next {T:Type}{I:T→Prop}{S:T→St}{σ2:St}(t':T) (ks:List Nat) (is:List Id) (nx:Nat) (hI:I t') (hk:keep ks is nx σ2 (·=S t')):
  ∃σ'',Weak σ2 σ''∧∃t,I t∧σ''=S t:=by
 obtain⟨σ',hw,e⟩:=keep_weak hk
 exact⟨σ',hw,t',hI,e⟩
section
variable {M:Mach}{P:Program}{I:Inv}
theorem finQ_go {Q:AV→List AObj→List AObj→Prop}{ti:Types}{rs:List ResultVar}{σ:St}{res:AV}{post new:List AObj}(hQ:Q res post new)
  (h:withRes ti σ rs fun xs=>∃nm:List Id,nodupB nm=true∧mkRes xs=res.ren (renN nm σ.next)∧postOK (getH σ.heap) (renN nm σ.next) post 0∧newOK (getH σ.heap) (renN nm σ.next) new nm∧handOK post nm):
  ∃r p n,Q r p n∧Fin' ti rs σ r p n:=⟨_,_,_,hQ,[],h⟩
def callFV (M:Mach) (ti:Types) (o:Oper) (c:Call) (f:Operand) (fresh:Nat) (σ:St) (K:St→Prop):Prop:=
 match opd ti (getS σ.slots) 0 f with
 | .v (.c (.fn n cap))=>withArgs (opsArgs ti (getS σ.slots) c.args.toList c.argTypes.toList) fun xs=>callFn M o.dst fresh σ n (xs++cap.map fun i=>V1.c (.ptr i 0)) K
 | _=>False
theorem call_gs {A:Prop}{ti:Types}{o:Oper}{c:Call}{f:Operand}{fresh:Nat}{σ:St}{K:St→Prop}(gs:List Gh) (ho:o.op= .call c) (hc:c.callee= .value f)
  (hk:gh gs ⟨σ.slots,σ.heap,fresh⟩ fun σ'=>σ'.next=fresh∧M.lock fun _=>callFV M ti o c f fresh σ' K):M.lock fun _=>A∨callK M ti o fresh σ K:=by
 refine call_in ?_
 obtain⟨σ',hw,hn,hk⟩:=gh_weak hk
 have hk:=(M.lock_iff _).1 hk
 unfold callK
 rw[ho]
 simp only[]
 rw[hc]
 simp only[]
 refine⟨σ',hw,hn,?_⟩
 unfold callFV at hk
 split at hk
 ·rename_i n cap h
  rw[h]
  exact hk
 ·exact hk.elim
theorem callfv_with {ti:Types}{o:Oper}{c:Call}{f:Operand}{fresh:Nat}{σ:St}{K:St→Prop}{n:FuncId}{cap:List Id}{xs targs:List V1}{pre post new:List AObj}{res:AV}(hP:M.P=P) (hI:M.I=I) (m:List Id)
  (hf:opd ti (getS σ.slots) 0 f= .v (.c (.fn n cap))) (hxs:vals1 (opsArgs ti (getS σ.slots) c.args.toList c.argTypes.toList)=some xs) (ht:Trip P I n targs pre res post new)
  (he:(xs++cap.map fun i=>V1.c (.ptr i 0))=targs.map (V1.ren (renM m fresh))) (hm:m.Nodup) (hpre:preOK (getH σ.heap) (renM m fresh) m pre) (hkd:allKinds pre post) (hn:new.length≤31)
  (hk:K ⟨putS σ.slots o.dst (res.ren (renM m fresh)),setW σ.heap (wrM m (renM m fresh) post++wrNew fresh (renM m fresh) 0 new),σ.next⟩):M.lock fun _=>callFV M ti o c f fresh σ K:=by
 refine (M.lock_iff _).2 ?_
 unfold callFV
 rw[hf]
 simp only[]
 unfold withArgs
 rw[hxs]
 refine⟨m,targs,pre,_,hP▸hI▸ht,he,(preOK_get hpre).1,hm,(preOK_get hpre).2,?_⟩
 rintro res' post' new' ⟨rfl,rfl,rfl⟩
 exact⟨⟨hkd,hn⟩,hk⟩
theorem op_pl {ti:Types}{o:Oper}{fresh:Nat}{σ:St}{K:St→Prop}(hk:plOp M ti o fresh σ K):M.lock fun _=>plOp M ti o fresh σ K∨ghOp M ti o fresh σ K:=(M.lock_iff _).2 (.inl hk)
end
end Go.AM
namespace Go.AM
open Go
def slB (d:Nat) (b:Bool) (l:List (Nat×AV)):List Nat→List (Nat×AV)
 | []=>[]
 | k::r=>(match Nat.beq k d with
  | true=>(k,.v (.d (.bool b)))
  | false=>(k,getS l k))::slB d b l r
def hpB (h:List (Id×AObj)):List Id→List (Id×AObj)
 | []=>[]
 | i::r=>(match getH h i with
  | some o=>(i,o)::hpB h r
  | none=>hpB h r)
def stB (d:Nat) (ks:List Nat) (is:List Id) (nx:Nat) (σ:St) (b:Bool):St:=⟨slB d b σ.slots ks,hpB σ.heap is,nx⟩
theorem seq_joinB {M:Mach}{ea eb:St→(AExit→St→Prop)→Prop}{σ:St}{K:AExit→St→Prop}(d:Nat) (ks:List Nat) (is:List Id) (nx:Nat) (I:Nat→Bool→Prop)
  (ha:ea σ fun e σ'=>match e with
   | .normal=>∃σ'',Weak σ' σ''∧∃t:Nat×Bool,I t.1 t.2∧σ''=stB d ks is nx σ t.2
   | .exit id=>K (.exit id) σ'
   | .ret=>K .ret σ') (hb:∀t:Nat×Bool,I t.1 t.2→eb (stB d ks is nx σ t.2) K):M.lock fun _=>seqP ea eb σ K:=
 seq_join (fun t:Nat×Bool=>stB d ks is nx σ t.2) (fun t=>I t.1 t.2) ha hb
end Go.AM
namespace Go.Proofs.Ytiiojajgajnhpaa
open Go Go.AM
theorem fol:Try.prog.follows .mixedOrders=true:=by kernel_rfl
def inv:Inv:=Inv.none
end Go.Proofs.Ytiiojajgajnhpaa
set_option maxRecDepth 100000
set_option maxHeartbeats 40000000
set_option linter.unusedVariables false
noncomputable section
namespace Go.Proofs.Ytiiojajgajnhpaa
open Go Go.AM
def ds_t90 {γ:Type}(x:D) (k:Int→Int→List D→Int→Int→ByteArray→List D→Int→List D→Option γ):Option γ:=match x with | .agg [.int .i64 a0,.int .i64 a1,.list false 1 a2,.int .u8 a3,.int .i64 a4,.str a5,.list true 6 a6,.int .i64 a7,.list false 1 a8]=>k a0 a1 a2 a3 a4 a5 a6 a7 a8 | _=>none
theorem ds_t90_inv {γ:Type}{x:D}{k:Int→Int→List D→Int→Int→ByteArray→List D→Int→List D→Option γ}{r:γ}(h:ds_t90 x k=some r):∃a0 a1 a2 a3 a4 a5 a6 a7 a8,x= .agg [.int .i64 a0,.int .i64 a1,.list false 1 a2,.int .u8 a3,.int .i64 a4,.str a5,.list true 6 a6,.int .i64 a7,.list false 1 a8]∧k a0 a1 a2 a3 a4 a5 a6 a7 a8=some r:=by
 unfold ds_t90 at h
 split at h
 ·exact⟨_,_,_,_,_,_,_,_,_,rfl,h⟩
 ·cases h
def ds_t49 {γ:Type}(x:D) (k:Int→Int→ByteArray→List D→Int→List D→Option γ):Option γ:=match x with | .agg [.int .u8 a0,.int .i64 a1,.str a2,.list true 6 a3,.int .i64 a4,.list false 1 a5]=>k a0 a1 a2 a3 a4 a5 | _=>none
theorem ds_t49_inv {γ:Type}{x:D}{k:Int→Int→ByteArray→List D→Int→List D→Option γ}{r:γ}(h:ds_t49 x k=some r):∃a0 a1 a2 a3 a4 a5,x= .agg [.int .u8 a0,.int .i64 a1,.str a2,.list true 6 a3,.int .i64 a4,.list false 1 a5]∧k a0 a1 a2 a3 a4 a5=some r:=by
 unfold ds_t49 at h
 split at h
 ·exact⟨_,_,_,_,_,_,rfl,h⟩
 ·cases h
def ds_i64 {γ:Type}(x:D) (k:Int→Option γ):Option γ:=match x with | .int .i64 a0=>k a0 | _=>none
theorem ds_i64_inv {γ:Type}{x:D}{k:Int→Option γ}{r:γ}(h:ds_i64 x k=some r):∃a0,x= .int .i64 a0∧k a0=some r:=by
 unfold ds_i64 at h
 split at h
 ·exact⟨_,rfl,h⟩
 ·cases h
def ds_t173 {γ:Type}(x:D) (k:Int→Int→ByteArray→List D→Int→List D→Bool→Option γ):Option γ:=match x with | .agg [.int .u8 a0,.int .i64 a1,.str a2,.list true 6 a3,.int .i64 a4,.list false 1 a5,.bool a6]=>k a0 a1 a2 a3 a4 a5 a6 | _=>none
theorem ds_t173_inv {γ:Type}{x:D}{k:Int→Int→ByteArray→List D→Int→List D→Bool→Option γ}{r:γ}(h:ds_t173 x k=some r):∃a0 a1 a2 a3 a4 a5 a6,x= .agg [.int .u8 a0,.int .i64 a1,.str a2,.list true 6 a3,.int .i64 a4,.list false 1 a5,.bool a6]∧k a0 a1 a2 a3 a4 a5 a6=some r:=by
 unfold ds_t173 at h
 split at h
 ·exact⟨_,_,_,_,_,_,_,rfl,h⟩
 ·cases h
def ds_t183 {γ:Type}(x:D) (k:Int→Int→ByteArray→List D→Int→List D→Bool→Option γ):Option γ:=match x with | .agg [.int .u8 a0,.int .i64 a1,.str a2,.list true 6 a3,.int .i64 a4,.list false 1 a5,.bool a6]=>k a0 a1 a2 a3 a4 a5 a6 | _=>none
theorem ds_t183_inv {γ:Type}{x:D}{k:Int→Int→ByteArray→List D→Int→List D→Bool→Option γ}{r:γ}(h:ds_t183 x k=some r):∃a0 a1 a2 a3 a4 a5 a6,x= .agg [.int .u8 a0,.int .i64 a1,.str a2,.list true 6 a3,.int .i64 a4,.list false 1 a5,.bool a6]∧k a0 a1 a2 a3 a4 a5 a6=some r:=by
 unfold ds_t183 at h
 split at h
 ·exact⟨_,_,_,_,_,_,_,rfl,h⟩
 ·cases h
def L141_1:Nat→(List D)→Bool→Option (List D)
 | 0,_,_=>none
 | n+1,l1,b2=>
  (if b2=true then some ([]:List D)else needF (scalB l1=true) (appF 8 ([]:List D) l1 fun l3=>some l3))
def F141 (n:Nat) (l1:List D):Option (List D):=
 (nilF l1 (L141_1 n l1 true) (L141_1 n l1 false))
theorem T141 (n:Nat):∀⦃l1:List D⦄ ⦃r1:List D⦄,F141 n l1=some r1→
    Trip Try.prog inv 141 [.d (.list false 1 l1)] [] (.v (.c (.ow (.loc 0)))) [] [.tree .row false 1 r1 none]:=by
 intro l1 r1 h
 unfold F141 at h
 refine Trip.of tab_ok tab_one fol Try.func141 rfl (by kernel_rfl) rfl rfl rfl (fun M hM hI=>?_)
 try cbv
 refine seq_go ?_
 try cbv
 refine seq_go ?_
 try cbv
 refine seq_join (T:=Nat×Bool) (fun t=>⟨[(0,.v (.d (.list false 1 l1))),(2,.v (.c (.nils false 1))),(4,.v (.d (.bool t.2)))],[],96⟩) (fun t=>t.1≤n∧L141_1 t.1 l1 t.2=some r1) ?_ ?_
 ·try cbv
  replace h:=nilF_inv h
  obtain⟨h,hA⟩:=h
  refine nil_both ?_ (fun e=>?_)
  ·clear hA
   try cbv
   exact join_next (n,false) [0,2,4] [] 96 ⟨by omega,h⟩ (by cbv)
  replace h:=hA e
  clear hA
  try cbv
  exact join_next (n,true) [0,2,4] [] 96 ⟨by omega,h⟩ (by cbv)
 clear h
 rintro⟨m1,b2⟩ ⟨hm1,h⟩
 replace hm1:m1≤n:=hm1
 obtain _ | m1:=m1
 ·replace h:L141_1 0 l1 b2=some r1:=h
  rw[L141_1]at h
  cases h
 replace h:L141_1 (m1+1) l1 b2=some r1:=h
 rw[L141_1]at h
 try cbv
 cases b2
 rotate_left
 ·replace h:=ite_t rfl h
  try cbv
  refine seq_go ?_
  try cbv
  obtain rfl:=Option.some.inj h
  refine⟨_,_,_,⟨rfl,rfl,rfl⟩,[.treeS 2 false 1],?_⟩
  try cbv
  exact⟨[.loc 128],rfl,rfl,trivial,⟨rfl,trivial⟩,trivial⟩
 replace h:=ite_f Bool.false_ne_true h
 try cbv
 refine seq_go ?_
 try cbv
 refine⟨true,?_⟩
 try cbv
 refine⟨[],?_⟩
 try cbv
 refine⟨[],rfl,?_⟩
 try cbv
 refine op_pl ?_
 try cbv
 refine⟨true,?_⟩
 try cbv
 refine⟨true,?_⟩
 try cbv
 refine⟨[],?_⟩
 try cbv
 replace h:=needF_inv h
 obtain⟨hs,h⟩:=h
 replace h:=appF_inv h
 obtain⟨l3,hb,hz,h⟩:=h
 refine⟨scalB_iff.1 hs,(M.lock_iff _).2 hb,l3,hz,?_⟩
 clear hs hb hz
 try cbv
 obtain rfl:=Option.some.inj h
 refine fin_go ?_
 try cbv
 exact⟨[.loc 160],rfl,rfl,trivial,⟨rfl,trivial⟩,trivial⟩
mutual
def L95_1:Nat→Int→Int→ByteArray→(List D)→Int→(List D)→Int→Int→(List D)→Option (Int×Int×ByteArray×Int×List D×List D)
 | 0,_,_,_,_,_,_,_,_,_=>none
 | n+1,z1,z2,s3,l4,z5,l6,z7,z8,l9=>
  (if z8<z7 then L95_2 n z1 z2 s3 l4 z5 l6 z7 z8 l9 true else L95_2 n z1 z2 s3 l4 z5 l6 z7 z8 l9 false)
def L95_2:Nat→Int→Int→ByteArray→(List D)→Int→(List D)→Int→Int→(List D)→Bool→Option (Int×Int×ByteArray×Int×List D×List D)
 | 0,_,_,_,_,_,_,_,_,_,_=>none
 | n+1,z1,z2,s3,l4,z5,l6,z7,z8,l9,b10=>
  (if b10=true then getF l4 z8 fun x11=>ds_t49 x11 fun z12 z13 s14 l15 z16 l17=>bO6 (F95 n z12 z13 s14 l15 z16 l17) fun z18 z19 s20 z21 l22 l23=>appF 88 l9 ([.agg [.int .u8 z18,.int .i64 z19,.str s20,.list true 6 l22,.int .i64 z21,.list false 1 l23]]) fun l24=>letF (IntKind.wrap .i64 (z8+1)) fun z25=>L95_1 n z1 z2 s3 l4 z5 l6 z7 z25 l24 else bO1 (F141 n l6) fun l26=>some (z1,z2,s3,z5,l9,l26))
def F95:Nat→Int→Int→ByteArray→(List D)→Int→(List D)→Option (Int×Int×ByteArray×Int×List D×List D)
 | 0,_,_,_,_,_,_=>none
 | n+1,z1,z2,s3,l4,z5,l6=>
  lenF l4 fun z7=>L95_1 n z1 z2 s3 l4 z5 l6 z7 (0:Int) ([]:List D)
end
theorem T95 (n:Nat):∀⦃z1:Int⦄ ⦃z2:Int⦄ ⦃s3:ByteArray⦄ ⦃l4:List D⦄ ⦃z5:Int⦄ ⦃l6:List D⦄ ⦃r1:Int⦄ ⦃r2:Int⦄ ⦃r3:ByteArray⦄ ⦃r4:Int⦄ ⦃r5:List D⦄ ⦃r6:List D⦄,F95 n z1 z2 s3 l4 z5 l6=some (r1,r2,r3,r4,r5,r6)→
    Trip Try.prog inv 95 [.d (.agg [.int .u8 z1,.int .i64 z2,.str s3,.list true 6 l4,.int .i64 z5,.list false 1 l6])] [] (.v (.agg [.d (.int .u8 r1),.d (.int .i64 r2),.d (.str r3),.ow (.loc 0),.d (.int .i64 r4),.ow (.loc 1)])) [] [.tree .row true 6 r5 none,.tree .row false 1 r6 none]:=by
 induction n using Nat.strongRecOn with | _ n ih=>
 obtain _ | n:=n
 ·intro z1 z2 s3 l4 z5 l6 r1 r2 r3 r4 r5 r6 h
  cases (show (none:Option _)=some _ from h)
 intro z1 z2 s3 l4 z5 l6 r1 r2 r3 r4 r5 r6 h
 rw[F95]at h
 refine Trip.of tab_ok tab_one fol Try.func95 rfl (by kernel_rfl) rfl rfl rfl (fun M hM hI=>?_)
 try cbv
 refine seq_go ?_
 try cbv
 refine seq_go ?_
 try cbv
 refine seq_go ?_
 try cbv
 refine seq_go ?_
 try cbv
 replace h:=lenF_inv M h
 obtain⟨z7,hz,h⟩:=h
 refine⟨z7,hz,?_⟩
 clear hz
 try cbv
 refine loop_invG (T:=Nat×Int×List D) [.treeS 3 true 6] [] [1,2,3,7,8,9] [.loc 0,.loc 32,.loc 224] 256 (fun t=>⟨[(1,.v (.c (.ptr (.loc 0) 0))),(2,.v (.c (.ptr (.loc 32) 0))),(3,.v (.c (.ow (.loc 224)))),(7,.v (.d (.list true 6 l4))),(8,.v (.d (.int .i64 z7))),(9,.v (.d (.int .i64 t.2.1)))],[(.loc 0,.cells [.d (.int .u8 z1),.d (.int .i64 z2),.d (.str s3),.d (.list true 6 l4),.d (.int .i64 z5),.d (.list false 1 l6)]),(.loc 32,.cells [.d (.int .u8 0),.d (.int .i64 0),.d (.str ByteArray.empty),.nils true 6,.d (.int .i64 0),.nils false 1]),(.loc 224,.tree .row true 6 t.2.2 none)],256⟩)
   (fun t=>t.1≤n∧L95_1 t.1 z1 z2 s3 l4 z5 l6 z7 t.2.1 t.2.2=some (r1,r2,r3,r4,r5,r6)) (fun t=>t.1) (n,((0:Int),([]:List D))) ⟨Nat.le_refl _,h⟩ (by cbv) ?_
 clear h
 rintro⟨m1,z8,l9⟩ ⟨hm1,h⟩
 replace hm1:m1≤n:=hm1
 obtain _ | m1:=m1
 ·replace h:L95_1 0 z1 z2 s3 l4 z5 l6 z7 z8 l9=some (r1,r2,r3,r4,r5,r6):=h
  rw[L95_1]at h
  cases h
 replace h:L95_1 (m1+1) z1 z2 s3 l4 z5 l6 z7 z8 l9=some (r1,r2,r3,r4,r5,r6):=h
 rw[L95_1]at h
 try cbv
 refine seq_join (T:=Nat×Bool) (fun t=>⟨[(1,.v (.c (.ptr (.loc 0) 0))),(2,.v (.c (.ptr (.loc 32) 0))),(3,.v (.c (.ow (.loc 224)))),(7,.v (.d (.list true 6 l4))),(8,.v (.d (.int .i64 z7))),(9,.v (.d (.int .i64 z8))),(10,.v (.d (.bool t.2)))],[(.loc 0,.cells [.d (.int .u8 z1),.d (.int .i64 z2),.d (.str s3),.d (.list true 6 l4),.d (.int .i64 z5),.d (.list false 1 l6)]),(.loc 32,.cells [.d (.int .u8 0),.d (.int .i64 0),.d (.str ByteArray.empty),.nils true 6,.d (.int .i64 0),.nils false 1]),(.loc 224,.tree .row true 6 l9 none)],288⟩) (fun t=>t.1≤m1∧L95_2 t.1 z1 z2 s3 l4 z5 l6 z7 z8 l9 t.2=some (r1,r2,r3,r4,r5,r6)) ?_ ?_
 ·try cbv
  refine splitL (fun e=>?_) (fun e=>?_)
  ·replace h:=ite_t e h
   clear e
   try cbv
   exact join_next (m1,true) [1,2,3,7,8,9,10] [.loc 0,.loc 32,.loc 224] 288 ⟨by omega,h⟩ (by cbv)
  replace h:=ite_f (Int.not_lt.2 e) h
  clear e
  try cbv
  exact join_next (m1,false) [1,2,3,7,8,9,10] [.loc 0,.loc 32,.loc 224] 288 ⟨by omega,h⟩ (by cbv)
 clear h
 rintro⟨m2,b10⟩ ⟨hm2,h⟩
 replace hm2:m2≤m1:=hm2
 obtain _ | m2:=m2
 ·replace h:L95_2 0 z1 z2 s3 l4 z5 l6 z7 z8 l9 b10=some (r1,r2,r3,r4,r5,r6):=h
  rw[L95_2]at h
  cases h
 replace h:L95_2 (m2+1) z1 z2 s3 l4 z5 l6 z7 z8 l9 b10=some (r1,r2,r3,r4,r5,r6):=h
 rw[L95_2]at h
 try cbv
 refine seq_go ?_
 try cbv
 cases b10
 ·replace h:=ite_f Bool.false_ne_true h
  try cbv
  refine seq_go ?_
  try cbv
  replace h:=bO1_inv h
  obtain⟨l26,hr,h⟩:=h
  refine call_go rfl rfl ?_
  try cbv
  refine call_with hM hI [] (T141 _ hr) rfl (by simp) trivial trivial (by simp) ?_
  clear hr
  try cbv
  refine seq_go ?_
  try cbv
  obtain⟨rfl,rfl,rfl,rfl,rfl,rfl⟩:=inj6 h
  refine fin_go ?_
  try cbv
  exact⟨[.loc 224,.loc 384],rfl,rfl,trivial,⟨rfl,⟨rfl,trivial⟩⟩,trivial⟩
 replace h:=ite_t rfl h
 try cbv
 refine seq_go ?_
 try cbv
 refine seq_go ?_
 try cbv
 replace h:=getF_inv h
 obtain⟨x11,hx11,h⟩:=h
 replace h:=ds_t49_inv h
 obtain⟨z12,z13,s14,l15,z16,l17,rfl,h⟩:=h
 refine⟨_,hx11.1,hx11.2,?_⟩
 try cbv
 replace h:=bO6_inv h
 obtain⟨z18,z19,s20,z21,l22,l23,hr,h⟩:=h
 refine call_go rfl rfl ?_
 try cbv
 refine call_with hM hI [] ((ih _ (by omega)) hr) rfl (by simp) trivial trivial (by simp) ?_
 clear hr
 try cbv
 refine⟨false,?_⟩
 try cbv
 refine⟨false,?_⟩
 try cbv
 refine op_pl ?_
 try cbv
 refine⟨true,?_⟩
 try cbv
 refine⟨true,?_⟩
 try cbv
 refine⟨[],?_⟩
 try cbv
 replace h:=appF_inv h
 obtain⟨l24,hb,hz,h⟩:=h
 refine⟨[.agg [.int .u8 z18,.int .i64 z19,.str s20,.list true 6 l22,.int .i64 z21,.list false 1 l23]],rfl,?_⟩
 try cbv
 refine⟨(M.lock_iff _).2 hb,l24,hz,?_⟩
 clear hb hz
 try cbv
 replace h:=letF_inv h
 obtain⟨z25,hz,h⟩:=h
 refine⟨z25,hz,?_⟩
 clear hz
 try cbv
 refine loop_nextG (m2,(z25,l24)) [] [(544,224)] [1,2,3,7,8,9] [.loc 0,.loc 32,.loc 544] 256 ⟨by omega,h⟩ (Nat.lt_succ_of_le (by omega)) ?_
 try cbv
def L94x1_2:Nat→(List D)→(List D)→Bool→Option (Int×List D×List D)
 | 0,_,_,_=>none
 | n+1,l6,l7,b11=>
  (if b11=true then some ((6:Int),l6,l7)else some ((0:Int),l6,l7))
def L94x1_1:Nat→Int→Int→(List D)→(List D)→Bool→Option (Int×List D×List D)
 | 0,_,_,_,_,_=>none
 | n+1,z1,z5,l6,l7,b8=>
  (if b8=true then some ((3:Int),l6,l7)else (if z1=(4:Int)then (if z5<(0:Int)then L94x1_2 n l6 l7 true else lenF l6 fun z9=>(if z9≤z5 then L94x1_2 n l6 l7 true else L94x1_2 n l6 l7 false))else (if z1=(5:Int)then (if z5<(0:Int)then L94x1_2 n l6 l7 true else lenF l6 fun z10=>(if z10≤z5 then L94x1_2 n l6 l7 true else L94x1_2 n l6 l7 false))else L94x1_2 n l6 l7 true)))
def F94x1 (n:Nat) (z1:Int) (z2:Int) (s3:ByteArray) (z4:Int) (z5:Int) (l6:List D) (l7:List D):Option (Int×List D×List D):=
 (if z1=(0:Int)then L94x1_1 n z1 z5 l6 l7 true else L94x1_1 n z1 z5 l6 l7 false)
theorem T94x1 (n:Nat):∀⦃z1:Int⦄ ⦃z2:Int⦄ ⦃s3:ByteArray⦄ ⦃z4:Int⦄ ⦃z5:Int⦄ ⦃l6:List D⦄ ⦃l7:List D⦄ ⦃r1:Int⦄ ⦃r2:List D⦄ ⦃r3:List D⦄,F94x1 n z1 z2 s3 z4 z5 l6 l7=some (r1,r2,r3)→
    Trip Try.prog inv 94 [.agg [.d (.int .u8 z1),.d (.int .i64 z2),.d (.str s3),.ow (.ext 0),.d (.int .i64 z4),.ow (.ext 1)],.d (.int .i64 z5)] [.tree .row true 6 l6 none,.tree .row false 1 l7 none] (.v (.d (.int .u8 r1))) [.tree .row true 6 r2 none,.tree .row false 1 r3 none] []:=by
 intro z1 z2 s3 z4 z5 l6 l7 r1 r2 r3 h
 unfold F94x1 at h
 refine Trip.of tab_ok tab_one fol Try.func94 rfl (by kernel_rfl) rfl rfl rfl (fun M hM hI=>?_)
 try cbv
 refine seq_go ?_
 try cbv
 refine seq_go ?_
 try cbv
 refine seq_join (T:=Nat×Bool) (fun t=>⟨[(1,.v (.d (.int .i64 z5))),(2,.v (.c (.ptr (.loc 0) 0))),(4,.v (.d (.int .u8 0))),(5,.v (.d (.bool t.2)))],[(.ext 0,.tree .row true 6 l6 none),(.ext 1,.tree .row false 1 l7 none),(.loc 0,.cells [.d (.int .u8 z1),.d (.int .i64 z2),.d (.str s3),.ow (.ext 0),.d (.int .i64 z4),.ow (.ext 1)])],192⟩) (fun t=>t.1≤n∧L94x1_1 t.1 z1 z5 l6 l7 t.2=some (r1,r2,r3)) ?_ ?_
 ·try cbv
  refine splitI (fun e=>?_) (fun e=>?_)
  ·replace h:=ite_t e h
   clear e
   try cbv
   exact join_next (n,true) [1,2,4,5] [.ext 0,.ext 1,.loc 0] 192 ⟨by omega,h⟩ (by cbv)
  replace h:=ite_f e h
  clear e
  try cbv
  exact join_next (n,false) [1,2,4,5] [.ext 0,.ext 1,.loc 0] 192 ⟨by omega,h⟩ (by cbv)
 clear h
 rintro⟨m1,b8⟩ ⟨hm1,h⟩
 replace hm1:m1≤n:=hm1
 obtain _ | m1:=m1
 ·replace h:L94x1_1 0 z1 z5 l6 l7 b8=some (r1,r2,r3):=h
  rw[L94x1_1]at h
  cases h
 replace h:L94x1_1 (m1+1) z1 z5 l6 l7 b8=some (r1,r2,r3):=h
 rw[L94x1_1]at h
 try cbv
 cases b8
 rotate_left
 ·replace h:=ite_t rfl h
  try cbv
  refine seq_go ?_
  try cbv
  obtain⟨rfl,rfl,rfl⟩:=inj3 h
  refine fin_go ?_
  try cbv
  exact⟨[],rfl,rfl,⟨rfl,⟨rfl,trivial⟩⟩,trivial,trivial⟩
 replace h:=ite_f Bool.false_ne_true h
 try cbv
 refine seq_join (T:=Nat×Bool) (fun t=>⟨[(4,.v (.d (.int .u8 0))),(9,.v (.d (.bool t.2)))],[(.ext 0,.tree .row true 6 l6 none),(.ext 1,.tree .row false 1 l7 none)],832⟩) (fun t=>t.1≤m1∧L94x1_2 t.1 l6 l7 t.2=some (r1,r2,r3)) ?_ ?_
 rotate_left
 ·clear h
  rintro⟨m2,b11⟩ ⟨hm2,h⟩
  replace hm2:m2≤m1:=hm2
  obtain _ | m2:=m2
  ·replace h:L94x1_2 0 l6 l7 b11=some (r1,r2,r3):=h
   rw[L94x1_2]at h
   cases h
  replace h:L94x1_2 (m2+1) l6 l7 b11=some (r1,r2,r3):=h
  rw[L94x1_2]at h
  try cbv
  cases b11
  ·replace h:=ite_f Bool.false_ne_true h
   try cbv
   refine seq_go ?_
   try cbv
   obtain⟨rfl,rfl,rfl⟩:=inj3 h
   refine fin_go ?_
   try cbv
   exact⟨[],rfl,rfl,⟨rfl,⟨rfl,trivial⟩⟩,trivial,trivial⟩
  replace h:=ite_t rfl h
  try cbv
  refine seq_go ?_
  try cbv
  obtain⟨rfl,rfl,rfl⟩:=inj3 h
  refine fin_go ?_
  try cbv
  exact⟨[],rfl,rfl,⟨rfl,⟨rfl,trivial⟩⟩,trivial,trivial⟩
 try cbv
 refine splitI (fun e=>?_) (fun e=>?_)
 ·replace h:=ite_t e h
  clear e
  try cbv
  refine splitL (fun e=>?_) (fun e=>?_)
  ·replace h:=ite_t e h
   clear e
   try cbv
   exact join_next (m1,true) [4,9] [.ext 0,.ext 1] 832 ⟨by omega,h⟩ (by cbv)
  replace h:=ite_f (Int.not_lt.2 e) h
  clear e
  try cbv
  replace h:=lenF_inv M h
  obtain⟨z9,hz,h⟩:=h
  refine⟨false,?_⟩
  try cbv
  refine⟨z9,hz,?_⟩
  clear hz
  try cbv
  refine splitLe (fun e=>?_) (fun e=>?_)
  ·replace h:=ite_t e h
   clear e
   try cbv
   exact join_next (m1,true) [4,9] [.ext 0,.ext 1] 832 ⟨by omega,h⟩ (by cbv)
  replace h:=ite_f (Int.not_le.2 e) h
  clear e
  try cbv
  exact join_next (m1,false) [4,9] [.ext 0,.ext 1] 832 ⟨by omega,h⟩ (by cbv)
 replace h:=ite_f e h
 clear e
 try cbv
 refine splitI (fun e=>?_) (fun e=>?_)
 rotate_left
 ·replace h:=ite_f e h
  clear e
  try cbv
  exact join_next (m1,true) [4,9] [.ext 0,.ext 1] 832 ⟨by omega,h⟩ (by cbv)
 replace h:=ite_t e h
 clear e
 try cbv
 refine splitL (fun e=>?_) (fun e=>?_)
 ·replace h:=ite_t e h
  clear e
  try cbv
  exact join_next (m1,true) [4,9] [.ext 0,.ext 1] 832 ⟨by omega,h⟩ (by cbv)
 replace h:=ite_f (Int.not_lt.2 e) h
 clear e
 try cbv
 replace h:=lenF_inv M h
 obtain⟨z10,hz,h⟩:=h
 refine⟨false,?_⟩
 try cbv
 refine⟨z10,hz,?_⟩
 clear hz
 try cbv
 refine splitLe (fun e=>?_) (fun e=>?_)
 ·replace h:=ite_t e h
  clear e
  try cbv
  exact join_next (m1,true) [4,9] [.ext 0,.ext 1] 832 ⟨by omega,h⟩ (by cbv)
 replace h:=ite_f (Int.not_le.2 e) h
 clear e
 try cbv
 exact join_next (m1,false) [4,9] [.ext 0,.ext 1] 832 ⟨by omega,h⟩ (by cbv)
mutual
def L97_1:Nat→Int→Int→ByteArray→Int→(List D)→(List D)→(List D)→Int→Int→ByteArray→Int→(List D)→(List D)→Int→Bool→Option (Int×Int×ByteArray×Int×Int×Int×ByteArray×Int×List D×List D×Int×List D×List D)
 | 0,_,_,_,_,_,_,_,_,_,_,_,_,_,_,_=>none
 | n+1,z1,z2,s3,z4,l5,l6,l7,z8,z9,s10,z11,l12,l13,z14,b16=>
  (if b16=true then bO6 (F95 n z8 z9 s10 l12 z11 l13) fun z17 z18 s19 z20 l21 l22=>some (z17,z18,s19,z20,z8,z9,s10,z11,l12,l13,z14,l21,l22)else getF l5 0 fun x23=>ds_i64 x23 fun z24=>bO3 (F94x1 n z1 z2 s3 z4 z24 l6 l7) fun z25 l26 l27=>(if z25=(0:Int)then L97_2 n z1 z2 s3 z4 l5 z8 z9 s10 z11 l12 l13 z24 z25 l26 l27 true else L97_2 n z1 z2 s3 z4 l5 z8 z9 s10 z11 l12 l13 z24 z25 l26 l27 false))
def L97_2:Nat→Int→Int→ByteArray→Int→(List D)→Int→Int→ByteArray→Int→(List D)→(List D)→Int→Int→(List D)→(List D)→Bool→Option (Int×Int×ByteArray×Int×Int×Int×ByteArray×Int×List D×List D×Int×List D×List D)
 | 0,_,_,_,_,_,_,_,_,_,_,_,_,_,_,_,_=>none
 | n+1,z1,z2,s3,z4,l5,z8,z9,s10,z11,l12,l13,z24,z25,l26,l27,b28=>
  (if b28=true then needF (0≤z24∧z24.toNat<l26.length) (getN l26 (z24.toNat) fun x29=>ds_t49 x29 fun z30 z31 s32 l33 z34 l35=>fromF l5 (1:Int) fun l36=>bO13 (F97 n z30 z31 s32 z34 l36 l33 l35 z8 z9 s10 z11 l12 l13 z25) fun z37 z38 s39 z40 z41 z42 s43 z44 l45 l46 z47 l48 l49=>needF (0≤z24∧z24.toNat<l26.length) (setF l26 (z24.toNat) (.agg [.int .u8 z37,.int .i64 z38,.str s39,.list true 6 l48,.int .i64 z40,.list false 1 l49]) fun l50=>L97_3 n z1 z2 s3 z4 l50 l27 z41 z42 s43 z44 l45 l46 z47))else L97_3 n z1 z2 s3 z4 l26 l27 z8 z9 s10 z11 l12 l13 z25)
def L97_3:Nat→Int→Int→ByteArray→Int→(List D)→(List D)→Int→Int→ByteArray→Int→(List D)→(List D)→Int→Option (Int×Int×ByteArray×Int×Int×Int×ByteArray×Int×List D×List D×Int×List D×List D)
 | 0,_,_,_,_,_,_,_,_,_,_,_,_,_=>none
 | n+1,z1,z2,s3,z4,l51,l52,z53,z54,s55,z56,l57,l58,z59=>
  some (z1,z2,s3,z4,z53,z54,s55,z56,l57,l58,z59,l51,l52)
def F97:Nat→Int→Int→ByteArray→Int→(List D)→(List D)→(List D)→Int→Int→ByteArray→Int→(List D)→(List D)→Int→Option (Int×Int×ByteArray×Int×Int×Int×ByteArray×Int×List D×List D×Int×List D×List D)
 | 0,_,_,_,_,_,_,_,_,_,_,_,_,_,_=>none
 | n+1,z1,z2,s3,z4,l5,l6,l7,z8,z9,s10,z11,l12,l13,z14=>
  lenF l5 fun z15=>(if z15=(0:Int)then L97_1 n z1 z2 s3 z4 l5 l6 l7 z8 z9 s10 z11 l12 l13 z14 true else L97_1 n z1 z2 s3 z4 l5 l6 l7 z8 z9 s10 z11 l12 l13 z14 false)
end
theorem T97 (n:Nat):∀⦃z1:Int⦄ ⦃z2:Int⦄ ⦃s3:ByteArray⦄ ⦃z4:Int⦄ ⦃l5:List D⦄ ⦃l6:List D⦄ ⦃l7:List D⦄ ⦃z8:Int⦄ ⦃z9:Int⦄ ⦃s10:ByteArray⦄ ⦃z11:Int⦄ ⦃l12:List D⦄ ⦃l13:List D⦄ ⦃z14:Int⦄ ⦃r1:Int⦄ ⦃r2:Int⦄ ⦃r3:ByteArray⦄ ⦃r4:Int⦄ ⦃r5:Int⦄ ⦃r6:Int⦄ ⦃r7:ByteArray⦄ ⦃r8:Int⦄ ⦃r9:List D⦄ ⦃r10:List D⦄ ⦃r11:Int⦄ ⦃r12:List D⦄ ⦃r13:List D⦄,F97 n z1 z2 s3 z4 l5 l6 l7 z8 z9 s10 z11 l12 l13 z14=some (r1,r2,r3,r4,r5,r6,r7,r8,r9,r10,r11,r12,r13)→
    Trip Try.prog inv 97 [.agg [.d (.int .u8 z1),.d (.int .i64 z2),.d (.str s3),.ow (.ext 0),.d (.int .i64 z4),.ow (.ext 1)],.d (.list false 1 l5),.c (.ptr (.ext 2) 0),.c (.ptr (.ext 5) 0),.c (.ptr (.ext 6) 0)] [.tree .row true 6 l6 none,.tree .row false 1 l7 none,.cells [.d (.int .u8 z8),.d (.int .i64 z9),.d (.str s10),.ow (.ext 3),.d (.int .i64 z11),.ow (.ext 4)],.tree .row true 6 l12 none,.tree .row false 1 l13 none,.cells [.d (.int .u8 z14)],.cells [.fn 97 [.ext 2,.ext 5,.ext 6]]] (.v (.agg [.d (.int .u8 r1),.d (.int .i64 r2),.d (.str r3),.ow (.loc 0),.d (.int .i64 r4),.ow (.loc 1)])) [.gone,.gone,.cells [.d (.int .u8 r5),.d (.int .i64 r6),.d (.str r7),.ow (.ext 3),.d (.int .i64 r8),.ow (.ext 4)],.tree .row true 6 r9 none,.tree .row false 1 r10 none,.cells [.d (.int .u8 r11)],.cells [.fn 97 [.ext 2,.ext 5,.ext 6]]] [.tree .row true 6 r12 none,.tree .row false 1 r13 none]:=by
 induction n using Nat.strongRecOn with | _ n ih=>
 obtain _ | n:=n
 ·intro z1 z2 s3 z4 l5 l6 l7 z8 z9 s10 z11 l12 l13 z14 r1 r2 r3 r4 r5 r6 r7 r8 r9 r10 r11 r12 r13 h
  cases (show (none:Option _)=some _ from h)
 intro z1 z2 s3 z4 l5 l6 l7 z8 z9 s10 z11 l12 l13 z14 r1 r2 r3 r4 r5 r6 r7 r8 r9 r10 r11 r12 r13 h
 rw[F97]at h
 refine Trip.of tab_ok tab_one fol Try.func97 rfl (by kernel_rfl) rfl rfl rfl (fun M hM hI=>?_)
 try cbv
 refine seq_go ?_
 try cbv
 refine seq_go ?_
 try cbv
 refine seq_join (T:=Nat×Bool) (fun t=>⟨[(1,.v (.d (.list false 1 l5))),(2,.v (.c (.ptr (.ext 2) 0))),(3,.v (.c (.ptr (.ext 5) 0))),(4,.v (.c (.ptr (.ext 6) 0))),(5,.v (.c (.ptr (.loc 0) 0))),(7,.v (.c (.ptr (.loc 32) 0))),(10,.v (.d (.bool t.2)))],[(.ext 0,.tree .row true 6 l6 none),(.ext 1,.tree .row false 1 l7 none),(.ext 2,.cells [.d (.int .u8 z8),.d (.int .i64 z9),.d (.str s10),.ow (.ext 3),.d (.int .i64 z11),.ow (.ext 4)]),(.ext 3,.tree .row true 6 l12 none),(.ext 4,.tree .row false 1 l13 none),(.ext 5,.cells [.d (.int .u8 z14)]),(.ext 6,.cells [.fn 97 [.ext 2,.ext 5,.ext 6]]),(.loc 0,.cells [.d (.int .u8 z1),.d (.int .i64 z2),.d (.str s3),.ow (.ext 0),.d (.int .i64 z4),.ow (.ext 1)]),(.loc 32,.cells [.d (.int .u8 0),.d (.int .i64 0),.d (.str ByteArray.empty),.nils true 6,.d (.int .i64 0),.nils false 1])],160⟩) (fun t=>t.1≤n∧L97_1 t.1 z1 z2 s3 z4 l5 l6 l7 z8 z9 s10 z11 l12 l13 z14 t.2=some (r1,r2,r3,r4,r5,r6,r7,r8,r9,r10,r11,r12,r13)) ?_ ?_
 ·try cbv
  replace h:=lenF_inv M h
  obtain⟨z15,hz,h⟩:=h
  refine⟨z15,hz,?_⟩
  clear hz
  try cbv
  refine splitI (fun e=>?_) (fun e=>?_)
  ·replace h:=ite_t e h
   clear e
   try cbv
   exact join_next (n,true) [1,2,3,4,5,7,10] [.ext 0,.ext 1,.ext 2,.ext 3,.ext 4,.ext 5,.ext 6,.loc 0,.loc 32] 160 ⟨by omega,h⟩ (by cbv)
  replace h:=ite_f e h
  clear e
  try cbv
  exact join_next (n,false) [1,2,3,4,5,7,10] [.ext 0,.ext 1,.ext 2,.ext 3,.ext 4,.ext 5,.ext 6,.loc 0,.loc 32] 160 ⟨by omega,h⟩ (by cbv)
 clear h
 rintro⟨m1,b16⟩ ⟨hm1,h⟩
 replace hm1:m1≤n:=hm1
 obtain _ | m1:=m1
 ·replace h:L97_1 0 z1 z2 s3 z4 l5 l6 l7 z8 z9 s10 z11 l12 l13 z14 b16=some (r1,r2,r3,r4,r5,r6,r7,r8,r9,r10,r11,r12,r13):=h
  rw[L97_1]at h
  cases h
 replace h:L97_1 (m1+1) z1 z2 s3 z4 l5 l6 l7 z8 z9 s10 z11 l12 l13 z14 b16=some (r1,r2,r3,r4,r5,r6,r7,r8,r9,r10,r11,r12,r13):=h
 rw[L97_1]at h
 try cbv
 cases b16
 rotate_left
 ·replace h:=ite_t rfl h
  try cbv
  refine seq_go ?_
  try cbv
  replace h:=bO6_inv h
  obtain⟨z17,z18,s19,z20,l21,l22,hr,h⟩:=h
  refine call_go rfl rfl ?_
  try cbv
  refine call_with hM hI [.ext 3,.ext 4] (Trip.lend (targs':=[.agg [.d (.int .u8 z8),.d (.int .i64 z9),.d (.str s10),.ow (.ext 0),.d (.int .i64 z11),.ow (.ext 1)]]) (T95 _ hr) [.tree .row true 6 l12 none,.tree .row false 1 l13 none] rfl rfl rfl rfl rfl rfl) rfl (by simp) ⟨rfl,⟨rfl,trivial⟩⟩ ⟨trivial,⟨trivial,trivial⟩⟩ (by simp) ?_
  clear hr
  try cbv
  obtain⟨rfl,rfl,rfl,rfl,rfl,rfl,rfl,rfl,rfl,rfl,rfl,rfl,rfl⟩:=inj13 h
  refine⟨_,_,_,⟨rfl,rfl,rfl⟩,[.drop (.ext 0),.drop (.ext 1)],?_⟩
  try cbv
  exact⟨[.loc 192,.loc 193],rfl,rfl,⟨rfl,⟨rfl,⟨rfl,⟨rfl,⟨rfl,trivial⟩⟩⟩⟩⟩,⟨rfl,⟨rfl,trivial⟩⟩,trivial⟩
 replace h:=ite_f Bool.false_ne_true h
 try cbv
 refine seq_join (T:=Nat×List D×List D×Int×Int×ByteArray×Int×List D×List D×Int) (fun t=>⟨[(5,.v (.c (.ptr (.loc 0) 0))),(7,.v (.c (.ptr (.loc 32) 0)))],[(.ext 0,.tree .row true 6 t.2.1 none),(.ext 1,.tree .row false 1 t.2.2.1 none),(.ext 2,.cells [.d (.int .u8 t.2.2.2.1),.d (.int .i64 t.2.2.2.2.1),.d (.str t.2.2.2.2.2.1),.ow (.ext 3),.d (.int .i64 t.2.2.2.2.2.2.1),.ow (.ext 4)]),(.ext 3,.tree .row true 6 t.2.2.2.2.2.2.2.1 none),(.ext 4,.tree .row false 1 t.2.2.2.2.2.2.2.2.1 none),(.ext 5,.cells [.d (.int .u8 t.2.2.2.2.2.2.2.2.2)]),(.ext 6,.cells [.fn 97 [.ext 2,.ext 5,.ext 6]]),(.loc 0,.cells [.d (.int .u8 z1),.d (.int .i64 z2),.d (.str s3),.ow (.ext 0),.d (.int .i64 z4),.ow (.ext 1)]),(.loc 32,.cells [.d (.int .u8 0),.d (.int .i64 0),.d (.str ByteArray.empty),.nils true 6,.d (.int .i64 0),.nils false 1])],992⟩) (fun t=>t.1≤m1∧L97_3 t.1 z1 z2 s3 z4 t.2.1 t.2.2.1 t.2.2.2.1 t.2.2.2.2.1 t.2.2.2.2.2.1 t.2.2.2.2.2.2.1 t.2.2.2.2.2.2.2.1 t.2.2.2.2.2.2.2.2.1 t.2.2.2.2.2.2.2.2.2=some (r1,r2,r3,r4,r5,r6,r7,r8,r9,r10,r11,r12,r13)) ?_ ?_
 rotate_left
 ·clear h
  rintro⟨m3,l51,l52,z53,z54,s55,z56,l57,l58,z59⟩ ⟨hm3,h⟩
  replace hm3:m3≤m1:=hm3
  obtain _ | m3:=m3
  ·replace h:L97_3 0 z1 z2 s3 z4 l51 l52 z53 z54 s55 z56 l57 l58 z59=some (r1,r2,r3,r4,r5,r6,r7,r8,r9,r10,r11,r12,r13):=h
   rw[L97_3]at h
   cases h
  replace h:L97_3 (m3+1) z1 z2 s3 z4 l51 l52 z53 z54 s55 z56 l57 l58 z59=some (r1,r2,r3,r4,r5,r6,r7,r8,r9,r10,r11,r12,r13):=h
  rw[L97_3]at h
  try cbv
  refine seq_go ?_
  try cbv
  obtain⟨rfl,rfl,rfl,rfl,rfl,rfl,rfl,rfl,rfl,rfl,rfl,rfl,rfl⟩:=inj13 h
  refine⟨_,_,_,⟨rfl,rfl,rfl⟩,[.move (.ext 0),.move (.ext 1)],?_⟩
  try cbv
  exact⟨[.loc 1056,.loc 1088],rfl,rfl,⟨rfl,⟨rfl,⟨rfl,⟨rfl,⟨rfl,trivial⟩⟩⟩⟩⟩,⟨rfl,⟨rfl,trivial⟩⟩,trivial⟩
 try cbv
 refine seq_go ?_
 try cbv
 replace h:=getF_inv h
 obtain⟨x23,hx23,h⟩:=h
 replace h:=ds_i64_inv h
 obtain⟨z24,rfl,h⟩:=h
 refine⟨_,hx23.1,hx23.2,?_⟩
 try cbv
 replace h:=bO3_inv h
 obtain⟨z25,l26,l27,hr,h⟩:=h
 first | refine .inr (.inl ⟨[],?_⟩) | refine .inl ⟨[],?_⟩
 try cbv
 refine call_with hM hI [.ext 0,.ext 1] (T94x1 _ hr) rfl (by simp) ⟨rfl,⟨rfl,trivial⟩⟩ ⟨trivial,⟨trivial,trivial⟩⟩ (by simp) ?_
 clear hr
 try cbv
 refine drawn ?_ ?_
 ·show _=true
  kernel_rfl
 try cbv
 refine seq_join (T:=Nat×Bool) (fun t=>⟨[(1,.v (.d (.list false 1 l5))),(4,.v (.c (.ptr (.ext 6) 0))),(5,.v (.c (.ptr (.loc 0) 0))),(7,.v (.c (.ptr (.loc 32) 0))),(19,.v (.d (.bool t.2)))],[(.ext 0,.tree .row true 6 l26 none),(.ext 1,.tree .row false 1 l27 none),(.ext 2,.cells [.d (.int .u8 z8),.d (.int .i64 z9),.d (.str s10),.ow (.ext 3),.d (.int .i64 z11),.ow (.ext 4)]),(.ext 3,.tree .row true 6 l12 none),(.ext 4,.tree .row false 1 l13 none),(.ext 5,.cells [.d (.int .u8 z25)]),(.ext 6,.cells [.fn 97 [.ext 2,.ext 5,.ext 6]]),(.loc 0,.cells [.d (.int .u8 z1),.d (.int .i64 z2),.d (.str s3),.ow (.ext 0),.d (.int .i64 z4),.ow (.ext 1)]),(.loc 32,.cells [.d (.int .u8 0),.d (.int .i64 0),.d (.str ByteArray.empty),.nils true 6,.d (.int .i64 0),.nils false 1])],416⟩) (fun t=>t.1≤m1∧L97_2 t.1 z1 z2 s3 z4 l5 z8 z9 s10 z11 l12 l13 z24 z25 l26 l27 t.2=some (r1,r2,r3,r4,r5,r6,r7,r8,r9,r10,r11,r12,r13)) ?_ ?_
 ·try cbv
  refine splitI (fun e=>?_) (fun e=>?_)
  ·replace h:=ite_t e h
   clear e
   try cbv
   exact join_next (m1,true) [1,4,5,7,19] [.ext 0,.ext 1,.ext 2,.ext 3,.ext 4,.ext 5,.ext 6,.loc 0,.loc 32] 416 ⟨by omega,h⟩ (by cbv)
  replace h:=ite_f e h
  clear e
  try cbv
  exact join_next (m1,false) [1,4,5,7,19] [.ext 0,.ext 1,.ext 2,.ext 3,.ext 4,.ext 5,.ext 6,.loc 0,.loc 32] 416 ⟨by omega,h⟩ (by cbv)
 clear h
 rintro⟨m2,b28⟩ ⟨hm2,h⟩
 replace hm2:m2≤m1:=hm2
 obtain _ | m2:=m2
 ·replace h:L97_2 0 z1 z2 s3 z4 l5 z8 z9 s10 z11 l12 l13 z24 z25 l26 l27 b28=some (r1,r2,r3,r4,r5,r6,r7,r8,r9,r10,r11,r12,r13):=h
  rw[L97_2]at h
  cases h
 replace h:L97_2 (m2+1) z1 z2 s3 z4 l5 z8 z9 s10 z11 l12 l13 z24 z25 l26 l27 b28=some (r1,r2,r3,r4,r5,r6,r7,r8,r9,r10,r11,r12,r13):=h
 rw[L97_2]at h
 try cbv
 cases b28
 ·replace h:=ite_f Bool.false_ne_true h
  try cbv
  exact join_next (m2,(l26,l27,z8,z9,s10,z11,l12,l13,z25)) [5,7] [.ext 0,.ext 1,.ext 2,.ext 3,.ext 4,.ext 5,.ext 6,.loc 0,.loc 32] 992 ⟨by omega,h⟩ (by cbv)
 replace h:=ite_t rfl h
 try cbv
 refine⟨_,hx23.1,hx23.2,?_⟩
 try cbv
 refine⟨_,hx23.1,hx23.2,?_⟩
 try cbv
 replace h:=needF_inv h
 obtain⟨hn,h⟩:=h
 refine⟨(M.lock_iff _).2 hn,?_⟩
 clear hn
 try cbv
 refine⟨[],?_⟩
 try cbv
 replace h:=getN_inv h
 obtain⟨x29,hx,h⟩:=h
 replace h:=ds_t49_inv h
 obtain⟨z30,z31,s32,l33,z34,l35,rfl,h⟩:=h
 refine⟨_,hx,?_⟩
 clear hx
 try cbv
 refine⟨false,?_⟩
 try cbv
 replace h:=fromF_inv M h
 obtain⟨l36,hb,hz,h⟩:=h
 refine⟨l36,hb,hz,?_⟩
 clear hb hz
 try cbv
 replace h:=bO13_inv h
 obtain⟨z37,z38,s39,z40,z41,z42,s43,z44,l45,l46,z47,l48,l49,hr,h⟩:=h
 first | refine .inr (.inr ⟨[.ext 6],?_⟩) | refine .inr ⟨[.ext 6],?_⟩
 try cbv
 refine call_with hM hI [.loc 803,.loc 805,.ext 2,.ext 3,.ext 4,.ext 5,.ext 6] ((ih _ (by omega)) hr) rfl (by simp) ⟨rfl,⟨rfl,⟨rfl,⟨rfl,⟨rfl,⟨rfl,⟨rfl,trivial⟩⟩⟩⟩⟩⟩⟩ ⟨trivial,⟨trivial,⟨trivial,⟨trivial,⟨trivial,⟨trivial,⟨trivial,trivial⟩⟩⟩⟩⟩⟩⟩ (by simp) ?_
 try cbv
 first | refine⟨(rfl:(_:Option AObj)=_),?_⟩ | skip
 try cbv
 clear hr
 try cbv
 replace h:=needF_inv h
 obtain⟨hn,h⟩:=h
 refine⟨(M.lock_iff _).2 hn,?_⟩
 clear hn
 try cbv
 refine⟨[],?_⟩
 try cbv
 first | refine⟨(rfl:(_:Nat)=_),?_⟩ | skip
 try cbv
 refine drawn ?_ ?_
 ·show _=true
  kernel_rfl
 try cbv
 replace h:=setF_inv h
 obtain⟨l50,hl50,h⟩:=h
 refine join_nextG (m2,(l50,l27,z41,z42,s43,z44,l45,l46,z47)) [.close (.ext 0)] [] [5,7] [.ext 0,.ext 1,.ext 2,.ext 3,.ext 4,.ext 5,.ext 6,.loc 0,.loc 32] 992 ⟨by omega,h⟩ ?_
 try cbv
 refine⟨l50,hl50,?_⟩
 clear hl50
 try cbv
 first | done | exact rfl | cbv
def L32_1:Nat→Int→Int→ByteArray→Int→(List D)→(List D)→Int→(List D)→(List D)→Bool→Option (Int×Int×ByteArray×List D×Int×List D×Int×List D×List D)
 | 0,_,_,_,_,_,_,_,_,_,_=>none
 | n+1,z20,z21,s22,z23,l28,l29,z30,l31,l32,b33=>
  (if b33=true then some ((0:Int),(0:Int),ByteArray.empty,([]:List D),(0:Int),([]:List D),z30,l28,l29)else some (z20,z21,s22,l31,z23,l32,(0:Int),l28,l29))
def F32 (n:Nat) (z1:Int) (z2:Int) (s3:ByteArray) (l4:List D) (z5:Int) (l6:List D) (l7:List D) (z8:Int) (z9:Int) (s10:ByteArray) (z11:Int) (l12:List D) (l13:List D):Option (Int×Int×ByteArray×List D×Int×List D×Int×List D×List D):=
 bO6 (F95 n z1 z2 s3 l4 z5 l6) fun z14 z15 s16 z17 l18 l19=>bO13 (F97 n z14 z15 s16 z17 l7 l18 l19 z8 z9 s10 z11 l12 l13 (0:Int)) fun z20 z21 s22 z23 z24 z25 s26 z27 l28 l29 z30 l31 l32=>(if z30=(0:Int)then L32_1 n z20 z21 s22 z23 l28 l29 z30 l31 l32 false else L32_1 n z20 z21 s22 z23 l28 l29 z30 l31 l32 true)
theorem T32 (n:Nat):∀⦃z1:Int⦄ ⦃z2:Int⦄ ⦃s3:ByteArray⦄ ⦃l4:List D⦄ ⦃z5:Int⦄ ⦃l6:List D⦄ ⦃l7:List D⦄ ⦃z8:Int⦄ ⦃z9:Int⦄ ⦃s10:ByteArray⦄ ⦃z11:Int⦄ ⦃l12:List D⦄ ⦃l13:List D⦄ ⦃r1:Int⦄ ⦃r2:Int⦄ ⦃r3:ByteArray⦄ ⦃r4:List D⦄ ⦃r5:Int⦄ ⦃r6:List D⦄ ⦃r7:Int⦄ ⦃r8:List D⦄ ⦃r9:List D⦄,F32 n z1 z2 s3 l4 z5 l6 l7 z8 z9 s10 z11 l12 l13=some (r1,r2,r3,r4,r5,r6,r7,r8,r9)→
    Trip Try.prog inv 32 [.d (.agg [.int .u8 z1,.int .i64 z2,.str s3,.list true 6 l4,.int .i64 z5,.list false 1 l6]),.d (.list false 1 l7),.agg [.d (.int .u8 z8),.d (.int .i64 z9),.d (.str s10),.ow (.ext 0),.d (.int .i64 z11),.ow (.ext 1)]] [.tree .row true 6 l12 none,.tree .row false 1 l13 none] (.t [.d (.agg [.int .u8 r1,.int .i64 r2,.str r3,.list true 6 r4,.int .i64 r5,.list false 1 r6]),.d (.int .u8 r7)]) [.tree .row true 6 r8 none,.tree .row false 1 r9 none] []:=by
 intro z1 z2 s3 l4 z5 l6 l7 z8 z9 s10 z11 l12 l13 r1 r2 r3 r4 r5 r6 r7 r8 r9 h
 unfold F32 at h
 refine Trip.of tab_ok tab_one fol Try.func32 rfl (by kernel_rfl) rfl rfl rfl (fun M hM hI=>?_)
 try cbv
 refine seq_go ?_
 try cbv
 refine seq_go ?_
 try cbv
 refine seq_go ?_
 try cbv
 refine seq_go ?_
 try cbv
 refine seq_go ?_
 try cbv
 replace h:=bO6_inv h
 obtain⟨z14,z15,s16,z17,l18,l19,hr,h⟩:=h
 first | refine .inr (.inl ⟨[],?_⟩) | refine .inl ⟨[],?_⟩
 try cbv
 refine call_with hM hI [] (T95 _ hr) rfl (by simp) trivial trivial (by simp) ?_
 clear hr
 try cbv
 replace h:=bO13_inv h
 obtain⟨z20,z21,s22,z23,z24,z25,s26,z27,l28,l29,z30,l31,l32,hr,h⟩:=h
 first | refine .inr (.inr ⟨[.loc 192],?_⟩) | refine .inr ⟨[.loc 192],?_⟩
 try cbv
 refine call_with hM hI [.loc 352,.loc 353,.loc 32,.ext 0,.ext 1,.loc 128,.loc 192] (T97 _ hr) rfl (by simp) ⟨rfl,⟨rfl,⟨rfl,⟨rfl,⟨rfl,⟨rfl,⟨rfl,trivial⟩⟩⟩⟩⟩⟩⟩ ⟨trivial,⟨trivial,⟨trivial,⟨trivial,⟨trivial,⟨trivial,⟨trivial,trivial⟩⟩⟩⟩⟩⟩⟩ (by simp) ?_
 try cbv
 first | refine⟨(rfl:(_:Option AObj)=_),?_⟩ | skip
 try cbv
 clear hr
 try cbv
 refine drawn ?_ ?_
 ·show _=true
  kernel_rfl
 try cbv
 refine seq_go ?_
 try cbv
 refine seq_join (T:=Nat×Bool) (fun t=>⟨[(6,.v (.c (.ptr (.loc 64) 0))),(7,.v (.d (.int .u8 0))),(8,.v (.c (.ptr (.loc 128) 0))),(10,.v (.c (.ptr (.loc 448) 0))),(18,.v (.d (.bool t.2)))],[(.ext 0,.tree .row true 6 l28 none),(.ext 1,.tree .row false 1 l29 none),(.loc 64,.cells [.d (.int .u8 0),.d (.int .i64 0),.d (.str ByteArray.empty),.nils true 6,.d (.int .i64 0),.nils false 1]),(.loc 128,.cells [.d (.int .u8 z30)]),(.loc 448,.cells [.d (.int .u8 z20),.d (.int .i64 z21),.d (.str s22),.ow (.loc 416),.d (.int .i64 z23),.ow (.loc 417)]),(.loc 416,.tree .row true 6 l31 none),(.loc 417,.tree .row false 1 l32 none)],576⟩) (fun t=>t.1≤n∧L32_1 t.1 z20 z21 s22 z23 l28 l29 z30 l31 l32 t.2=some (r1,r2,r3,r4,r5,r6,r7,r8,r9)) ?_ ?_
 ·try cbv
  refine splitI (fun e=>?_) (fun e=>?_)
  ·replace h:=ite_t e h
   clear e
   try cbv
   exact join_next (n,false) [6,7,8,10,18] [.ext 0,.ext 1,.loc 64,.loc 128,.loc 448,.loc 416,.loc 417] 576 ⟨by omega,h⟩ (by cbv)
  replace h:=ite_f e h
  clear e
  try cbv
  exact join_next (n,true) [6,7,8,10,18] [.ext 0,.ext 1,.loc 64,.loc 128,.loc 448,.loc 416,.loc 417] 576 ⟨by omega,h⟩ (by cbv)
 clear h
 rintro⟨m1,b33⟩ ⟨hm1,h⟩
 replace hm1:m1≤n:=hm1
 obtain _ | m1:=m1
 ·replace h:L32_1 0 z20 z21 s22 z23 l28 l29 z30 l31 l32 b33=some (r1,r2,r3,r4,r5,r6,r7,r8,r9):=h
  rw[L32_1]at h
  cases h
 replace h:L32_1 (m1+1) z20 z21 s22 z23 l28 l29 z30 l31 l32 b33=some (r1,r2,r3,r4,r5,r6,r7,r8,r9):=h
 rw[L32_1]at h
 try cbv
 cases b33
 ·replace h:=ite_f Bool.false_ne_true h
  try cbv
  refine seq_go ?_
  try cbv
  obtain⟨rfl,rfl,rfl,rfl,rfl,rfl,rfl,rfl,rfl⟩:=inj9 h
  refine⟨_,_,_,⟨rfl,rfl,rfl⟩,[.freeze (.loc 416),.freeze (.loc 417)],?_⟩
  try cbv
  exact⟨[],rfl,rfl,⟨rfl,⟨rfl,trivial⟩⟩,trivial,trivial⟩
 replace h:=ite_t rfl h
 try cbv
 refine seq_go ?_
 try cbv
 refine drawn ?_ ?_
 ·show _=true
  kernel_rfl
 try cbv
 obtain⟨rfl,rfl,rfl,rfl,rfl,rfl,rfl,rfl,rfl⟩:=inj9 h
 refine⟨_,_,_,⟨rfl,rfl,rfl⟩,[.treeC (.loc 64) 3 true 6,.treeC (.loc 64) 5 false 1,.freeze (.loc 704),.freeze (.loc 736)],?_⟩
 try cbv
 exact⟨[],rfl,rfl,⟨rfl,⟨rfl,trivial⟩⟩,trivial,trivial⟩
mutual
def L97x1_1:Nat→Int→Int→ByteArray→Int→(List D)→(List D)→(List D)→Int→Int→ByteArray→(List D)→Int→(List D)→Int→Bool→Option (Int×Int×ByteArray×Int×Int×Int×ByteArray×List D×Int×List D×Int×List D×List D)
 | 0,_,_,_,_,_,_,_,_,_,_,_,_,_,_,_=>none
 | n+1,z1,z2,s3,z4,l5,l6,l7,z8,z9,s10,l11,z12,l13,z14,b16=>
  (if b16=true then bO6 (F95 n z8 z9 s10 l11 z12 l13) fun z17 z18 s19 z20 l21 l22=>some (z17,z18,s19,z20,z8,z9,s10,l11,z12,l13,z14,l21,l22)else getF l5 0 fun x23=>ds_i64 x23 fun z24=>bO3 (F94x1 n z1 z2 s3 z4 z24 l6 l7) fun z25 l26 l27=>(if z25=(0:Int)then L97x1_2 n z1 z2 s3 z4 l5 z8 z9 s10 l11 z12 l13 z24 z25 l26 l27 true else L97x1_2 n z1 z2 s3 z4 l5 z8 z9 s10 l11 z12 l13 z24 z25 l26 l27 false))
def L97x1_2:Nat→Int→Int→ByteArray→Int→(List D)→Int→Int→ByteArray→(List D)→Int→(List D)→Int→Int→(List D)→(List D)→Bool→Option (Int×Int×ByteArray×Int×Int×Int×ByteArray×List D×Int×List D×Int×List D×List D)
 | 0,_,_,_,_,_,_,_,_,_,_,_,_,_,_,_,_=>none
 | n+1,z1,z2,s3,z4,l5,z8,z9,s10,l11,z12,l13,z24,z25,l26,l27,b28=>
  (if b28=true then needF (0≤z24∧z24.toNat<l26.length) (getN l26 (z24.toNat) fun x29=>ds_t49 x29 fun z30 z31 s32 l33 z34 l35=>fromF l5 (1:Int) fun l36=>bO13 (F97x1 n z30 z31 s32 z34 l36 l33 l35 z8 z9 s10 l11 z12 l13 z25) fun z37 z38 s39 z40 z41 z42 s43 l44 z45 l46 z47 l48 l49=>needF (0≤z24∧z24.toNat<l26.length) (setF l26 (z24.toNat) (.agg [.int .u8 z37,.int .i64 z38,.str s39,.list true 6 l48,.int .i64 z40,.list false 1 l49]) fun l50=>L97x1_3 n z1 z2 s3 z4 l50 l27 z41 z42 s43 l44 z45 l46 z47))else L97x1_3 n z1 z2 s3 z4 l26 l27 z8 z9 s10 l11 z12 l13 z25)
def L97x1_3:Nat→Int→Int→ByteArray→Int→(List D)→(List D)→Int→Int→ByteArray→(List D)→Int→(List D)→Int→Option (Int×Int×ByteArray×Int×Int×Int×ByteArray×List D×Int×List D×Int×List D×List D)
 | 0,_,_,_,_,_,_,_,_,_,_,_,_,_=>none
 | n+1,z1,z2,s3,z4,l51,l52,z53,z54,s55,l56,z57,l58,z59=>
  some (z1,z2,s3,z4,z53,z54,s55,l56,z57,l58,z59,l51,l52)
def F97x1:Nat→Int→Int→ByteArray→Int→(List D)→(List D)→(List D)→Int→Int→ByteArray→(List D)→Int→(List D)→Int→Option (Int×Int×ByteArray×Int×Int×Int×ByteArray×List D×Int×List D×Int×List D×List D)
 | 0,_,_,_,_,_,_,_,_,_,_,_,_,_,_=>none
 | n+1,z1,z2,s3,z4,l5,l6,l7,z8,z9,s10,l11,z12,l13,z14=>
  lenF l5 fun z15=>(if z15=(0:Int)then L97x1_1 n z1 z2 s3 z4 l5 l6 l7 z8 z9 s10 l11 z12 l13 z14 true else L97x1_1 n z1 z2 s3 z4 l5 l6 l7 z8 z9 s10 l11 z12 l13 z14 false)
end
theorem T97x1 (n:Nat):∀⦃z1:Int⦄ ⦃z2:Int⦄ ⦃s3:ByteArray⦄ ⦃z4:Int⦄ ⦃l5:List D⦄ ⦃l6:List D⦄ ⦃l7:List D⦄ ⦃z8:Int⦄ ⦃z9:Int⦄ ⦃s10:ByteArray⦄ ⦃l11:List D⦄ ⦃z12:Int⦄ ⦃l13:List D⦄ ⦃z14:Int⦄ ⦃r1:Int⦄ ⦃r2:Int⦄ ⦃r3:ByteArray⦄ ⦃r4:Int⦄ ⦃r5:Int⦄ ⦃r6:Int⦄ ⦃r7:ByteArray⦄ ⦃r8:List D⦄ ⦃r9:Int⦄ ⦃r10:List D⦄ ⦃r11:Int⦄ ⦃r12:List D⦄ ⦃r13:List D⦄,F97x1 n z1 z2 s3 z4 l5 l6 l7 z8 z9 s10 l11 z12 l13 z14=some (r1,r2,r3,r4,r5,r6,r7,r8,r9,r10,r11,r12,r13)→
    Trip Try.prog inv 97 [.agg [.d (.int .u8 z1),.d (.int .i64 z2),.d (.str s3),.ow (.ext 0),.d (.int .i64 z4),.ow (.ext 1)],.d (.list false 1 l5),.c (.ptr (.ext 2) 0),.c (.ptr (.ext 3) 0),.c (.ptr (.ext 4) 0)] [.tree .row true 6 l6 none,.tree .row false 1 l7 none,.cells [.d (.int .u8 z8),.d (.int .i64 z9),.d (.str s10),.d (.list true 6 l11),.d (.int .i64 z12),.d (.list false 1 l13)],.cells [.d (.int .u8 z14)],.cells [.fn 97 [.ext 2,.ext 3,.ext 4]]] (.v (.agg [.d (.int .u8 r1),.d (.int .i64 r2),.d (.str r3),.ow (.loc 0),.d (.int .i64 r4),.ow (.loc 1)])) [.gone,.gone,.cells [.d (.int .u8 r5),.d (.int .i64 r6),.d (.str r7),.d (.list true 6 r8),.d (.int .i64 r9),.d (.list false 1 r10)],.cells [.d (.int .u8 r11)],.cells [.fn 97 [.ext 2,.ext 3,.ext 4]]] [.tree .row true 6 r12 none,.tree .row false 1 r13 none]:=by
 induction n using Nat.strongRecOn with | _ n ih=>
 obtain _ | n:=n
 ·intro z1 z2 s3 z4 l5 l6 l7 z8 z9 s10 l11 z12 l13 z14 r1 r2 r3 r4 r5 r6 r7 r8 r9 r10 r11 r12 r13 h
  cases (show (none:Option _)=some _ from h)
 intro z1 z2 s3 z4 l5 l6 l7 z8 z9 s10 l11 z12 l13 z14 r1 r2 r3 r4 r5 r6 r7 r8 r9 r10 r11 r12 r13 h
 rw[F97x1]at h
 refine Trip.of tab_ok tab_one fol Try.func97 rfl (by kernel_rfl) rfl rfl rfl (fun M hM hI=>?_)
 try cbv
 refine seq_go ?_
 try cbv
 refine seq_go ?_
 try cbv
 refine seq_join (T:=Nat×Bool) (fun t=>⟨[(1,.v (.d (.list false 1 l5))),(2,.v (.c (.ptr (.ext 2) 0))),(3,.v (.c (.ptr (.ext 3) 0))),(4,.v (.c (.ptr (.ext 4) 0))),(5,.v (.c (.ptr (.loc 0) 0))),(7,.v (.c (.ptr (.loc 32) 0))),(10,.v (.d (.bool t.2)))],[(.ext 0,.tree .row true 6 l6 none),(.ext 1,.tree .row false 1 l7 none),(.ext 2,.cells [.d (.int .u8 z8),.d (.int .i64 z9),.d (.str s10),.d (.list true 6 l11),.d (.int .i64 z12),.d (.list false 1 l13)]),(.ext 3,.cells [.d (.int .u8 z14)]),(.ext 4,.cells [.fn 97 [.ext 2,.ext 3,.ext 4]]),(.loc 0,.cells [.d (.int .u8 z1),.d (.int .i64 z2),.d (.str s3),.ow (.ext 0),.d (.int .i64 z4),.ow (.ext 1)]),(.loc 32,.cells [.d (.int .u8 0),.d (.int .i64 0),.d (.str ByteArray.empty),.nils true 6,.d (.int .i64 0),.nils false 1])],160⟩) (fun t=>t.1≤n∧L97x1_1 t.1 z1 z2 s3 z4 l5 l6 l7 z8 z9 s10 l11 z12 l13 z14 t.2=some (r1,r2,r3,r4,r5,r6,r7,r8,r9,r10,r11,r12,r13)) ?_ ?_
 ·try cbv
  replace h:=lenF_inv M h
  obtain⟨z15,hz,h⟩:=h
  refine⟨z15,hz,?_⟩
  clear hz
  try cbv
  refine splitI (fun e=>?_) (fun e=>?_)
  ·replace h:=ite_t e h
   clear e
   try cbv
   exact join_next (n,true) [1,2,3,4,5,7,10] [.ext 0,.ext 1,.ext 2,.ext 3,.ext 4,.loc 0,.loc 32] 160 ⟨by omega,h⟩ (by cbv)
  replace h:=ite_f e h
  clear e
  try cbv
  exact join_next (n,false) [1,2,3,4,5,7,10] [.ext 0,.ext 1,.ext 2,.ext 3,.ext 4,.loc 0,.loc 32] 160 ⟨by omega,h⟩ (by cbv)
 clear h
 rintro⟨m1,b16⟩ ⟨hm1,h⟩
 replace hm1:m1≤n:=hm1
 obtain _ | m1:=m1
 ·replace h:L97x1_1 0 z1 z2 s3 z4 l5 l6 l7 z8 z9 s10 l11 z12 l13 z14 b16=some (r1,r2,r3,r4,r5,r6,r7,r8,r9,r10,r11,r12,r13):=h
  rw[L97x1_1]at h
  cases h
 replace h:L97x1_1 (m1+1) z1 z2 s3 z4 l5 l6 l7 z8 z9 s10 l11 z12 l13 z14 b16=some (r1,r2,r3,r4,r5,r6,r7,r8,r9,r10,r11,r12,r13):=h
 rw[L97x1_1]at h
 try cbv
 cases b16
 rotate_left
 ·replace h:=ite_t rfl h
  try cbv
  refine seq_go ?_
  try cbv
  replace h:=bO6_inv h
  obtain⟨z17,z18,s19,z20,l21,l22,hr,h⟩:=h
  refine call_go rfl rfl ?_
  try cbv
  refine call_with hM hI [] (T95 _ hr) rfl (by simp) trivial trivial (by simp) ?_
  clear hr
  try cbv
  obtain⟨rfl,rfl,rfl,rfl,rfl,rfl,rfl,rfl,rfl,rfl,rfl,rfl,rfl⟩:=inj13 h
  refine⟨_,_,_,⟨rfl,rfl,rfl⟩,[.drop (.ext 0),.drop (.ext 1)],?_⟩
  try cbv
  exact⟨[.loc 192,.loc 193],rfl,rfl,⟨rfl,⟨rfl,⟨rfl,trivial⟩⟩⟩,⟨rfl,⟨rfl,trivial⟩⟩,trivial⟩
 replace h:=ite_f Bool.false_ne_true h
 try cbv
 refine seq_join (T:=Nat×List D×List D×Int×Int×ByteArray×List D×Int×List D×Int) (fun t=>⟨[(5,.v (.c (.ptr (.loc 0) 0))),(7,.v (.c (.ptr (.loc 32) 0)))],[(.ext 0,.tree .row true 6 t.2.1 none),(.ext 1,.tree .row false 1 t.2.2.1 none),(.ext 2,.cells [.d (.int .u8 t.2.2.2.1),.d (.int .i64 t.2.2.2.2.1),.d (.str t.2.2.2.2.2.1),.d (.list true 6 t.2.2.2.2.2.2.1),.d (.int .i64 t.2.2.2.2.2.2.2.1),.d (.list false 1 t.2.2.2.2.2.2.2.2.1)]),(.ext 3,.cells [.d (.int .u8 t.2.2.2.2.2.2.2.2.2)]),(.ext 4,.cells [.fn 97 [.ext 2,.ext 3,.ext 4]]),(.loc 0,.cells [.d (.int .u8 z1),.d (.int .i64 z2),.d (.str s3),.ow (.ext 0),.d (.int .i64 z4),.ow (.ext 1)]),(.loc 32,.cells [.d (.int .u8 0),.d (.int .i64 0),.d (.str ByteArray.empty),.nils true 6,.d (.int .i64 0),.nils false 1])],992⟩) (fun t=>t.1≤m1∧L97x1_3 t.1 z1 z2 s3 z4 t.2.1 t.2.2.1 t.2.2.2.1 t.2.2.2.2.1 t.2.2.2.2.2.1 t.2.2.2.2.2.2.1 t.2.2.2.2.2.2.2.1 t.2.2.2.2.2.2.2.2.1 t.2.2.2.2.2.2.2.2.2=some (r1,r2,r3,r4,r5,r6,r7,r8,r9,r10,r11,r12,r13)) ?_ ?_
 rotate_left
 ·clear h
  rintro⟨m3,l51,l52,z53,z54,s55,l56,z57,l58,z59⟩ ⟨hm3,h⟩
  replace hm3:m3≤m1:=hm3
  obtain _ | m3:=m3
  ·replace h:L97x1_3 0 z1 z2 s3 z4 l51 l52 z53 z54 s55 l56 z57 l58 z59=some (r1,r2,r3,r4,r5,r6,r7,r8,r9,r10,r11,r12,r13):=h
   rw[L97x1_3]at h
   cases h
  replace h:L97x1_3 (m3+1) z1 z2 s3 z4 l51 l52 z53 z54 s55 l56 z57 l58 z59=some (r1,r2,r3,r4,r5,r6,r7,r8,r9,r10,r11,r12,r13):=h
  rw[L97x1_3]at h
  try cbv
  refine seq_go ?_
  try cbv
  obtain⟨rfl,rfl,rfl,rfl,rfl,rfl,rfl,rfl,rfl,rfl,rfl,rfl,rfl⟩:=inj13 h
  refine⟨_,_,_,⟨rfl,rfl,rfl⟩,[.move (.ext 0),.move (.ext 1)],?_⟩
  try cbv
  exact⟨[.loc 1056,.loc 1088],rfl,rfl,⟨rfl,⟨rfl,⟨rfl,trivial⟩⟩⟩,⟨rfl,⟨rfl,trivial⟩⟩,trivial⟩
 try cbv
 refine seq_go ?_
 try cbv
 replace h:=getF_inv h
 obtain⟨x23,hx23,h⟩:=h
 replace h:=ds_i64_inv h
 obtain⟨z24,rfl,h⟩:=h
 refine⟨_,hx23.1,hx23.2,?_⟩
 try cbv
 replace h:=bO3_inv h
 obtain⟨z25,l26,l27,hr,h⟩:=h
 first | refine .inr (.inl ⟨[],?_⟩) | refine .inl ⟨[],?_⟩
 try cbv
 refine call_with hM hI [.ext 0,.ext 1] (T94x1 _ hr) rfl (by simp) ⟨rfl,⟨rfl,trivial⟩⟩ ⟨trivial,⟨trivial,trivial⟩⟩ (by simp) ?_
 clear hr
 try cbv
 refine drawn ?_ ?_
 ·show _=true
  kernel_rfl
 try cbv
 refine seq_join (T:=Nat×Bool) (fun t=>⟨[(1,.v (.d (.list false 1 l5))),(4,.v (.c (.ptr (.ext 4) 0))),(5,.v (.c (.ptr (.loc 0) 0))),(7,.v (.c (.ptr (.loc 32) 0))),(19,.v (.d (.bool t.2)))],[(.ext 0,.tree .row true 6 l26 none),(.ext 1,.tree .row false 1 l27 none),(.ext 2,.cells [.d (.int .u8 z8),.d (.int .i64 z9),.d (.str s10),.d (.list true 6 l11),.d (.int .i64 z12),.d (.list false 1 l13)]),(.ext 3,.cells [.d (.int .u8 z25)]),(.ext 4,.cells [.fn 97 [.ext 2,.ext 3,.ext 4]]),(.loc 0,.cells [.d (.int .u8 z1),.d (.int .i64 z2),.d (.str s3),.ow (.ext 0),.d (.int .i64 z4),.ow (.ext 1)]),(.loc 32,.cells [.d (.int .u8 0),.d (.int .i64 0),.d (.str ByteArray.empty),.nils true 6,.d (.int .i64 0),.nils false 1])],416⟩) (fun t=>t.1≤m1∧L97x1_2 t.1 z1 z2 s3 z4 l5 z8 z9 s10 l11 z12 l13 z24 z25 l26 l27 t.2=some (r1,r2,r3,r4,r5,r6,r7,r8,r9,r10,r11,r12,r13)) ?_ ?_
 ·try cbv
  refine splitI (fun e=>?_) (fun e=>?_)
  ·replace h:=ite_t e h
   clear e
   try cbv
   exact join_next (m1,true) [1,4,5,7,19] [.ext 0,.ext 1,.ext 2,.ext 3,.ext 4,.loc 0,.loc 32] 416 ⟨by omega,h⟩ (by cbv)
  replace h:=ite_f e h
  clear e
  try cbv
  exact join_next (m1,false) [1,4,5,7,19] [.ext 0,.ext 1,.ext 2,.ext 3,.ext 4,.loc 0,.loc 32] 416 ⟨by omega,h⟩ (by cbv)
 clear h
 rintro⟨m2,b28⟩ ⟨hm2,h⟩
 replace hm2:m2≤m1:=hm2
 obtain _ | m2:=m2
 ·replace h:L97x1_2 0 z1 z2 s3 z4 l5 z8 z9 s10 l11 z12 l13 z24 z25 l26 l27 b28=some (r1,r2,r3,r4,r5,r6,r7,r8,r9,r10,r11,r12,r13):=h
  rw[L97x1_2]at h
  cases h
 replace h:L97x1_2 (m2+1) z1 z2 s3 z4 l5 z8 z9 s10 l11 z12 l13 z24 z25 l26 l27 b28=some (r1,r2,r3,r4,r5,r6,r7,r8,r9,r10,r11,r12,r13):=h
 rw[L97x1_2]at h
 try cbv
 cases b28
 ·replace h:=ite_f Bool.false_ne_true h
  try cbv
  exact join_next (m2,(l26,l27,z8,z9,s10,l11,z12,l13,z25)) [5,7] [.ext 0,.ext 1,.ext 2,.ext 3,.ext 4,.loc 0,.loc 32] 992 ⟨by omega,h⟩ (by cbv)
 replace h:=ite_t rfl h
 try cbv
 refine⟨_,hx23.1,hx23.2,?_⟩
 try cbv
 refine⟨_,hx23.1,hx23.2,?_⟩
 try cbv
 replace h:=needF_inv h
 obtain⟨hn,h⟩:=h
 refine⟨(M.lock_iff _).2 hn,?_⟩
 clear hn
 try cbv
 refine⟨[],?_⟩
 try cbv
 replace h:=getN_inv h
 obtain⟨x29,hx,h⟩:=h
 replace h:=ds_t49_inv h
 obtain⟨z30,z31,s32,l33,z34,l35,rfl,h⟩:=h
 refine⟨_,hx,?_⟩
 clear hx
 try cbv
 refine⟨false,?_⟩
 try cbv
 replace h:=fromF_inv M h
 obtain⟨l36,hb,hz,h⟩:=h
 refine⟨l36,hb,hz,?_⟩
 clear hb hz
 try cbv
 replace h:=bO13_inv h
 obtain⟨z37,z38,s39,z40,z41,z42,s43,l44,z45,l46,z47,l48,l49,hr,h⟩:=h
 first | refine .inr (.inr ⟨[.ext 4],?_⟩) | refine .inr ⟨[.ext 4],?_⟩
 try cbv
 refine call_with hM hI [.loc 803,.loc 805,.ext 2,.ext 3,.ext 4] ((ih _ (by omega)) hr) rfl (by simp) ⟨rfl,⟨rfl,⟨rfl,⟨rfl,⟨rfl,trivial⟩⟩⟩⟩⟩ ⟨trivial,⟨trivial,⟨trivial,⟨trivial,⟨trivial,trivial⟩⟩⟩⟩⟩ (by simp) ?_
 try cbv
 first | refine⟨(rfl:(_:Option AObj)=_),?_⟩ | skip
 try cbv
 clear hr
 try cbv
 replace h:=needF_inv h
 obtain⟨hn,h⟩:=h
 refine⟨(M.lock_iff _).2 hn,?_⟩
 clear hn
 try cbv
 refine⟨[],?_⟩
 try cbv
 first | refine⟨(rfl:(_:Nat)=_),?_⟩ | skip
 try cbv
 refine drawn ?_ ?_
 ·show _=true
  kernel_rfl
 try cbv
 replace h:=setF_inv h
 obtain⟨l50,hl50,h⟩:=h
 refine join_nextG (m2,(l50,l27,z41,z42,s43,l44,z45,l46,z47)) [.close (.ext 0)] [] [5,7] [.ext 0,.ext 1,.ext 2,.ext 3,.ext 4,.loc 0,.loc 32] 992 ⟨by omega,h⟩ ?_
 try cbv
 refine⟨l50,hl50,?_⟩
 clear hl50
 try cbv
 first | done | exact rfl | cbv
def L32x1_1:Nat→Int→Int→ByteArray→Int→Int→(List D)→(List D)→Bool→Option (Int×Int×ByteArray×List D×Int×List D×Int)
 | 0,_,_,_,_,_,_,_,_=>none
 | n+1,z20,z21,s22,z23,z30,l31,l32,b33=>
  (if b33=true then some ((0:Int),(0:Int),ByteArray.empty,([]:List D),(0:Int),([]:List D),z30)else some (z20,z21,s22,l31,z23,l32,(0:Int)))
def F32x1 (n:Nat) (z1:Int) (z2:Int) (s3:ByteArray) (l4:List D) (z5:Int) (l6:List D) (l7:List D) (z8:Int) (z9:Int) (s10:ByteArray) (l11:List D) (z12:Int) (l13:List D):Option (Int×Int×ByteArray×List D×Int×List D×Int):=
 bO6 (F95 n z1 z2 s3 l4 z5 l6) fun z14 z15 s16 z17 l18 l19=>bO13 (F97x1 n z14 z15 s16 z17 l7 l18 l19 z8 z9 s10 l11 z12 l13 (0:Int)) fun z20 z21 s22 z23 z24 z25 s26 l27 z28 l29 z30 l31 l32=>(if z30=(0:Int)then L32x1_1 n z20 z21 s22 z23 z30 l31 l32 false else L32x1_1 n z20 z21 s22 z23 z30 l31 l32 true)
theorem T32x1 (n:Nat):∀⦃z1:Int⦄ ⦃z2:Int⦄ ⦃s3:ByteArray⦄ ⦃l4:List D⦄ ⦃z5:Int⦄ ⦃l6:List D⦄ ⦃l7:List D⦄ ⦃z8:Int⦄ ⦃z9:Int⦄ ⦃s10:ByteArray⦄ ⦃l11:List D⦄ ⦃z12:Int⦄ ⦃l13:List D⦄ ⦃r1:Int⦄ ⦃r2:Int⦄ ⦃r3:ByteArray⦄ ⦃r4:List D⦄ ⦃r5:Int⦄ ⦃r6:List D⦄ ⦃r7:Int⦄,F32x1 n z1 z2 s3 l4 z5 l6 l7 z8 z9 s10 l11 z12 l13=some (r1,r2,r3,r4,r5,r6,r7)→
    Trip Try.prog inv 32 [.d (.agg [.int .u8 z1,.int .i64 z2,.str s3,.list true 6 l4,.int .i64 z5,.list false 1 l6]),.d (.list false 1 l7),.d (.agg [.int .u8 z8,.int .i64 z9,.str s10,.list true 6 l11,.int .i64 z12,.list false 1 l13])] [] (.t [.d (.agg [.int .u8 r1,.int .i64 r2,.str r3,.list true 6 r4,.int .i64 r5,.list false 1 r6]),.d (.int .u8 r7)]) [] []:=by
 intro z1 z2 s3 l4 z5 l6 l7 z8 z9 s10 l11 z12 l13 r1 r2 r3 r4 r5 r6 r7 h
 unfold F32x1 at h
 refine Trip.of tab_ok tab_one fol Try.func32 rfl (by kernel_rfl) rfl rfl rfl (fun M hM hI=>?_)
 try cbv
 refine seq_go ?_
 try cbv
 refine seq_go ?_
 try cbv
 refine seq_go ?_
 try cbv
 refine seq_go ?_
 try cbv
 refine seq_go ?_
 try cbv
 replace h:=bO6_inv h
 obtain⟨z14,z15,s16,z17,l18,l19,hr,h⟩:=h
 first | refine .inr (.inl ⟨[],?_⟩) | refine .inl ⟨[],?_⟩
 try cbv
 refine call_with hM hI [] (T95 _ hr) rfl (by simp) trivial trivial (by simp) ?_
 clear hr
 try cbv
 replace h:=bO13_inv h
 obtain⟨z20,z21,s22,z23,z24,z25,s26,l27,z28,l29,z30,l31,l32,hr,h⟩:=h
 first | refine .inr (.inr ⟨[.loc 192],?_⟩) | refine .inr ⟨[.loc 192],?_⟩
 try cbv
 refine call_with hM hI [.loc 352,.loc 353,.loc 32,.loc 128,.loc 192] (T97x1 _ hr) rfl (by simp) ⟨rfl,⟨rfl,⟨rfl,⟨rfl,⟨rfl,trivial⟩⟩⟩⟩⟩ ⟨trivial,⟨trivial,⟨trivial,⟨trivial,⟨trivial,trivial⟩⟩⟩⟩⟩ (by simp) ?_
 try cbv
 first | refine⟨(rfl:(_:Option AObj)=_),?_⟩ | skip
 try cbv
 clear hr
 try cbv
 refine drawn ?_ ?_
 ·show _=true
  kernel_rfl
 try cbv
 refine seq_go ?_
 try cbv
 refine seq_join (T:=Nat×Bool) (fun t=>⟨[(6,.v (.c (.ptr (.loc 64) 0))),(7,.v (.d (.int .u8 0))),(8,.v (.c (.ptr (.loc 128) 0))),(10,.v (.c (.ptr (.loc 448) 0))),(18,.v (.d (.bool t.2)))],[(.loc 64,.cells [.d (.int .u8 0),.d (.int .i64 0),.d (.str ByteArray.empty),.nils true 6,.d (.int .i64 0),.nils false 1]),(.loc 128,.cells [.d (.int .u8 z30)]),(.loc 448,.cells [.d (.int .u8 z20),.d (.int .i64 z21),.d (.str s22),.ow (.loc 416),.d (.int .i64 z23),.ow (.loc 417)]),(.loc 416,.tree .row true 6 l31 none),(.loc 417,.tree .row false 1 l32 none)],576⟩) (fun t=>t.1≤n∧L32x1_1 t.1 z20 z21 s22 z23 z30 l31 l32 t.2=some (r1,r2,r3,r4,r5,r6,r7)) ?_ ?_
 ·try cbv
  refine splitI (fun e=>?_) (fun e=>?_)
  ·replace h:=ite_t e h
   clear e
   try cbv
   exact join_next (n,false) [6,7,8,10,18] [.loc 64,.loc 128,.loc 448,.loc 416,.loc 417] 576 ⟨by omega,h⟩ (by cbv)
  replace h:=ite_f e h
  clear e
  try cbv
  exact join_next (n,true) [6,7,8,10,18] [.loc 64,.loc 128,.loc 448,.loc 416,.loc 417] 576 ⟨by omega,h⟩ (by cbv)
 clear h
 rintro⟨m1,b33⟩ ⟨hm1,h⟩
 replace hm1:m1≤n:=hm1
 obtain _ | m1:=m1
 ·replace h:L32x1_1 0 z20 z21 s22 z23 z30 l31 l32 b33=some (r1,r2,r3,r4,r5,r6,r7):=h
  rw[L32x1_1]at h
  cases h
 replace h:L32x1_1 (m1+1) z20 z21 s22 z23 z30 l31 l32 b33=some (r1,r2,r3,r4,r5,r6,r7):=h
 rw[L32x1_1]at h
 try cbv
 cases b33
 ·replace h:=ite_f Bool.false_ne_true h
  try cbv
  refine seq_go ?_
  try cbv
  obtain⟨rfl,rfl,rfl,rfl,rfl,rfl,rfl⟩:=inj7 h
  refine⟨_,_,_,⟨rfl,rfl,rfl⟩,[.freeze (.loc 416),.freeze (.loc 417)],?_⟩
  try cbv
  exact⟨[],rfl,rfl,trivial,trivial,trivial⟩
 replace h:=ite_t rfl h
 try cbv
 refine seq_go ?_
 try cbv
 refine drawn ?_ ?_
 ·show _=true
  kernel_rfl
 try cbv
 obtain⟨rfl,rfl,rfl,rfl,rfl,rfl,rfl⟩:=inj7 h
 refine⟨_,_,_,⟨rfl,rfl,rfl⟩,[.treeC (.loc 64) 3 true 6,.treeC (.loc 64) 5 false 1,.freeze (.loc 704),.freeze (.loc 736)],?_⟩
 try cbv
 exact⟨[],rfl,rfl,trivial,trivial,trivial⟩
mutual
def L95z_1:Nat→Int→Int→ByteArray→(List D)→Int→(List D)→Int→Int→(List D)→Option (Int×Int×ByteArray×List D×Int×List D)
 | 0,_,_,_,_,_,_,_,_,_=>none
 | n+1,z1,z2,s3,l4,z5,l6,z7,z8,l9=>
  (if z8<z7 then L95z_2 n z1 z2 s3 l4 z5 l6 z7 z8 l9 true else L95z_2 n z1 z2 s3 l4 z5 l6 z7 z8 l9 false)
def L95z_2:Nat→Int→Int→ByteArray→(List D)→Int→(List D)→Int→Int→(List D)→Bool→Option (Int×Int×ByteArray×List D×Int×List D)
 | 0,_,_,_,_,_,_,_,_,_,_=>none
 | n+1,z1,z2,s3,l4,z5,l6,z7,z8,l9,b10=>
  (if b10=true then getF l4 z8 fun x11=>ds_t49 x11 fun z12 z13 s14 l15 z16 l17=>bO6 (F95 n z12 z13 s14 l15 z16 l17) fun z18 z19 s20 z21 l22 l23=>appF 88 l9 ([.agg [.int .u8 z18,.int .i64 z19,.str s20,.list true 6 l22,.int .i64 z21,.list false 1 l23]]) fun l24=>letF (IntKind.wrap .i64 (z8+1)) fun z25=>L95z_1 n z1 z2 s3 l4 z5 l6 z7 z25 l24 else bO1 (F141 n l6) fun l26=>some (z1,z2,s3,l9,z5,l26))
end
def F95z (n:Nat) (z1:Int) (z2:Int) (s3:ByteArray) (l4:List D) (z5:Int) (l6:List D):Option (Int×Int×ByteArray×List D×Int×List D):=
 lenF l4 fun z7=>L95z_1 n z1 z2 s3 l4 z5 l6 z7 (0:Int) ([]:List D)
theorem T95z (n:Nat):∀⦃z1:Int⦄ ⦃z2:Int⦄ ⦃s3:ByteArray⦄ ⦃l4:List D⦄ ⦃z5:Int⦄ ⦃l6:List D⦄ ⦃r1:Int⦄ ⦃r2:Int⦄ ⦃r3:ByteArray⦄ ⦃r4:List D⦄ ⦃r5:Int⦄ ⦃r6:List D⦄,F95z n z1 z2 s3 l4 z5 l6=some (r1,r2,r3,r4,r5,r6)→
    Trip Try.prog inv 95 [.d (.agg [.int .u8 z1,.int .i64 z2,.str s3,.list true 6 l4,.int .i64 z5,.list false 1 l6])] [] (.v (.d (.agg [.int .u8 r1,.int .i64 r2,.str r3,.list true 6 r4,.int .i64 r5,.list false 1 r6]))) [] []:=by
 intro z1 z2 s3 l4 z5 l6 r1 r2 r3 r4 r5 r6 h
 unfold F95z at h
 refine Trip.of tab_ok tab_one fol Try.func95 rfl (by kernel_rfl) rfl rfl rfl (fun M hM hI=>?_)
 try cbv
 refine seq_go ?_
 try cbv
 refine seq_go ?_
 try cbv
 refine seq_go ?_
 try cbv
 refine seq_go ?_
 try cbv
 replace h:=lenF_inv M h
 obtain⟨z7,hz,h⟩:=h
 refine⟨z7,hz,?_⟩
 clear hz
 try cbv
 refine loop_invG (T:=Nat×Int×List D) [.treeS 3 true 6] [] [1,2,3,7,8,9] [.loc 0,.loc 32,.loc 224] 256 (fun t=>⟨[(1,.v (.c (.ptr (.loc 0) 0))),(2,.v (.c (.ptr (.loc 32) 0))),(3,.v (.c (.ow (.loc 224)))),(7,.v (.d (.list true 6 l4))),(8,.v (.d (.int .i64 z7))),(9,.v (.d (.int .i64 t.2.1)))],[(.loc 0,.cells [.d (.int .u8 z1),.d (.int .i64 z2),.d (.str s3),.d (.list true 6 l4),.d (.int .i64 z5),.d (.list false 1 l6)]),(.loc 32,.cells [.d (.int .u8 0),.d (.int .i64 0),.d (.str ByteArray.empty),.nils true 6,.d (.int .i64 0),.nils false 1]),(.loc 224,.tree .row true 6 t.2.2 none)],256⟩)
   (fun t=>t.1≤n∧L95z_1 t.1 z1 z2 s3 l4 z5 l6 z7 t.2.1 t.2.2=some (r1,r2,r3,r4,r5,r6)) (fun t=>t.1) (n,((0:Int),([]:List D))) ⟨Nat.le_refl _,h⟩ (by cbv) ?_
 clear h
 rintro⟨m1,z8,l9⟩ ⟨hm1,h⟩
 replace hm1:m1≤n:=hm1
 obtain _ | m1:=m1
 ·replace h:L95z_1 0 z1 z2 s3 l4 z5 l6 z7 z8 l9=some (r1,r2,r3,r4,r5,r6):=h
  rw[L95z_1]at h
  cases h
 replace h:L95z_1 (m1+1) z1 z2 s3 l4 z5 l6 z7 z8 l9=some (r1,r2,r3,r4,r5,r6):=h
 rw[L95z_1]at h
 try cbv
 refine seq_join (T:=Nat×Bool) (fun t=>⟨[(1,.v (.c (.ptr (.loc 0) 0))),(2,.v (.c (.ptr (.loc 32) 0))),(3,.v (.c (.ow (.loc 224)))),(7,.v (.d (.list true 6 l4))),(8,.v (.d (.int .i64 z7))),(9,.v (.d (.int .i64 z8))),(10,.v (.d (.bool t.2)))],[(.loc 0,.cells [.d (.int .u8 z1),.d (.int .i64 z2),.d (.str s3),.d (.list true 6 l4),.d (.int .i64 z5),.d (.list false 1 l6)]),(.loc 32,.cells [.d (.int .u8 0),.d (.int .i64 0),.d (.str ByteArray.empty),.nils true 6,.d (.int .i64 0),.nils false 1]),(.loc 224,.tree .row true 6 l9 none)],288⟩) (fun t=>t.1≤m1∧L95z_2 t.1 z1 z2 s3 l4 z5 l6 z7 z8 l9 t.2=some (r1,r2,r3,r4,r5,r6)) ?_ ?_
 ·try cbv
  refine splitL (fun e=>?_) (fun e=>?_)
  ·replace h:=ite_t e h
   clear e
   try cbv
   exact join_next (m1,true) [1,2,3,7,8,9,10] [.loc 0,.loc 32,.loc 224] 288 ⟨by omega,h⟩ (by cbv)
  replace h:=ite_f (Int.not_lt.2 e) h
  clear e
  try cbv
  exact join_next (m1,false) [1,2,3,7,8,9,10] [.loc 0,.loc 32,.loc 224] 288 ⟨by omega,h⟩ (by cbv)
 clear h
 rintro⟨m2,b10⟩ ⟨hm2,h⟩
 replace hm2:m2≤m1:=hm2
 obtain _ | m2:=m2
 ·replace h:L95z_2 0 z1 z2 s3 l4 z5 l6 z7 z8 l9 b10=some (r1,r2,r3,r4,r5,r6):=h
  rw[L95z_2]at h
  cases h
 replace h:L95z_2 (m2+1) z1 z2 s3 l4 z5 l6 z7 z8 l9 b10=some (r1,r2,r3,r4,r5,r6):=h
 rw[L95z_2]at h
 try cbv
 refine seq_go ?_
 try cbv
 cases b10
 ·replace h:=ite_f Bool.false_ne_true h
  try cbv
  refine seq_go ?_
  try cbv
  replace h:=bO1_inv h
  obtain⟨l26,hr,h⟩:=h
  refine call_go rfl rfl ?_
  try cbv
  refine call_with hM hI [] (T141 _ hr) rfl (by simp) trivial trivial (by simp) ?_
  clear hr
  try cbv
  refine seq_go ?_
  try cbv
  obtain⟨rfl,rfl,rfl,rfl,rfl,rfl⟩:=inj6 h
  refine⟨_,_,_,⟨rfl,rfl,rfl⟩,[.freeze (.loc 224),.freeze (.loc 384)],?_⟩
  try cbv
  exact⟨[],rfl,rfl,trivial,trivial,trivial⟩
 replace h:=ite_t rfl h
 try cbv
 refine seq_go ?_
 try cbv
 refine seq_go ?_
 try cbv
 replace h:=getF_inv h
 obtain⟨x11,hx11,h⟩:=h
 replace h:=ds_t49_inv h
 obtain⟨z12,z13,s14,l15,z16,l17,rfl,h⟩:=h
 refine⟨_,hx11.1,hx11.2,?_⟩
 try cbv
 replace h:=bO6_inv h
 obtain⟨z18,z19,s20,z21,l22,l23,hr,h⟩:=h
 refine call_go rfl rfl ?_
 try cbv
 refine call_with hM hI [] (T95 _ hr) rfl (by simp) trivial trivial (by simp) ?_
 clear hr
 try cbv
 refine⟨false,?_⟩
 try cbv
 refine⟨false,?_⟩
 try cbv
 refine op_pl ?_
 try cbv
 refine⟨true,?_⟩
 try cbv
 refine⟨true,?_⟩
 try cbv
 refine⟨[],?_⟩
 try cbv
 replace h:=appF_inv h
 obtain⟨l24,hb,hz,h⟩:=h
 refine⟨[.agg [.int .u8 z18,.int .i64 z19,.str s20,.list true 6 l22,.int .i64 z21,.list false 1 l23]],rfl,?_⟩
 try cbv
 refine⟨(M.lock_iff _).2 hb,l24,hz,?_⟩
 clear hb hz
 try cbv
 replace h:=letF_inv h
 obtain⟨z25,hz,h⟩:=h
 refine⟨z25,hz,?_⟩
 clear hz
 try cbv
 refine loop_nextG (m2,(z25,l24)) [] [(544,224)] [1,2,3,7,8,9] [.loc 0,.loc 32,.loc 544] 256 ⟨by omega,h⟩ (Nat.lt_succ_of_le (by omega)) ?_
 try cbv
def L94_2:Nat→Bool→Option (Int)
 | 0,_=>none
 | n+1,b11=>
  (if b11=true then some (6:Int)else some (0:Int))
def L94_1:Nat→Int→(List D)→Int→Bool→Option (Int)
 | 0,_,_,_,_=>none
 | n+1,z1,l4,z7,b8=>
  (if b8=true then some (3:Int)else (if z1=(4:Int)then (if z7<(0:Int)then L94_2 n true else lenF l4 fun z9=>(if z9≤z7 then L94_2 n true else L94_2 n false))else (if z1=(5:Int)then (if z7<(0:Int)then L94_2 n true else lenF l4 fun z10=>(if z10≤z7 then L94_2 n true else L94_2 n false))else L94_2 n true)))
def F94 (n:Nat) (z1:Int) (z2:Int) (s3:ByteArray) (l4:List D) (z5:Int) (l6:List D) (z7:Int):Option (Int):=
 (if z1=(0:Int)then L94_1 n z1 l4 z7 true else L94_1 n z1 l4 z7 false)
theorem T94 (n:Nat):∀⦃z1:Int⦄ ⦃z2:Int⦄ ⦃s3:ByteArray⦄ ⦃l4:List D⦄ ⦃z5:Int⦄ ⦃l6:List D⦄ ⦃z7:Int⦄ ⦃r1:Int⦄,F94 n z1 z2 s3 l4 z5 l6 z7=some r1→
    Trip Try.prog inv 94 [.d (.agg [.int .u8 z1,.int .i64 z2,.str s3,.list true 6 l4,.int .i64 z5,.list false 1 l6]),.d (.int .i64 z7)] [] (.v (.d (.int .u8 r1))) [] []:=by
 intro z1 z2 s3 l4 z5 l6 z7 r1 h
 unfold F94 at h
 refine Trip.of tab_ok tab_one fol Try.func94 rfl (by kernel_rfl) rfl rfl rfl (fun M hM hI=>?_)
 try cbv
 refine seq_go ?_
 try cbv
 refine seq_go ?_
 try cbv
 refine seq_join (T:=Nat×Bool) (fun t=>⟨[(1,.v (.d (.int .i64 z7))),(2,.v (.c (.ptr (.loc 0) 0))),(4,.v (.d (.int .u8 0))),(5,.v (.d (.bool t.2)))],[(.loc 0,.cells [.d (.int .u8 z1),.d (.int .i64 z2),.d (.str s3),.d (.list true 6 l4),.d (.int .i64 z5),.d (.list false 1 l6)])],192⟩) (fun t=>t.1≤n∧L94_1 t.1 z1 l4 z7 t.2=some r1) ?_ ?_
 ·try cbv
  refine splitI (fun e=>?_) (fun e=>?_)
  ·replace h:=ite_t e h
   clear e
   try cbv
   exact join_next (n,true) [1,2,4,5] [.loc 0] 192 ⟨by omega,h⟩ (by cbv)
  replace h:=ite_f e h
  clear e
  try cbv
  exact join_next (n,false) [1,2,4,5] [.loc 0] 192 ⟨by omega,h⟩ (by cbv)
 clear h
 rintro⟨m1,b8⟩ ⟨hm1,h⟩
 replace hm1:m1≤n:=hm1
 obtain _ | m1:=m1
 ·replace h:L94_1 0 z1 l4 z7 b8=some r1:=h
  rw[L94_1]at h
  cases h
 replace h:L94_1 (m1+1) z1 l4 z7 b8=some r1:=h
 rw[L94_1]at h
 try cbv
 cases b8
 rotate_left
 ·replace h:=ite_t rfl h
  try cbv
  refine seq_go ?_
  try cbv
  obtain rfl:=Option.some.inj h
  refine fin_go ?_
  try cbv
  exact⟨[],rfl,rfl,trivial,trivial,trivial⟩
 replace h:=ite_f Bool.false_ne_true h
 try cbv
 refine seq_join (T:=Nat×Bool) (fun t=>⟨[(4,.v (.d (.int .u8 0))),(9,.v (.d (.bool t.2)))],[],832⟩) (fun t=>t.1≤m1∧L94_2 t.1 t.2=some r1) ?_ ?_
 rotate_left
 ·clear h
  rintro⟨m2,b11⟩ ⟨hm2,h⟩
  replace hm2:m2≤m1:=hm2
  obtain _ | m2:=m2
  ·replace h:L94_2 0 b11=some r1:=h
   rw[L94_2]at h
   cases h
  replace h:L94_2 (m2+1) b11=some r1:=h
  rw[L94_2]at h
  try cbv
  cases b11
  ·replace h:=ite_f Bool.false_ne_true h
   try cbv
   refine seq_go ?_
   try cbv
   obtain rfl:=Option.some.inj h
   refine fin_go ?_
   try cbv
   exact⟨[],rfl,rfl,trivial,trivial,trivial⟩
  replace h:=ite_t rfl h
  try cbv
  refine seq_go ?_
  try cbv
  obtain rfl:=Option.some.inj h
  refine fin_go ?_
  try cbv
  exact⟨[],rfl,rfl,trivial,trivial,trivial⟩
 try cbv
 refine splitI (fun e=>?_) (fun e=>?_)
 ·replace h:=ite_t e h
  clear e
  try cbv
  refine splitL (fun e=>?_) (fun e=>?_)
  ·replace h:=ite_t e h
   clear e
   try cbv
   exact join_next (m1,true) [4,9] [] 832 ⟨by omega,h⟩ (by cbv)
  replace h:=ite_f (Int.not_lt.2 e) h
  clear e
  try cbv
  replace h:=lenF_inv M h
  obtain⟨z9,hz,h⟩:=h
  refine⟨z9,hz,?_⟩
  clear hz
  try cbv
  refine splitLe (fun e=>?_) (fun e=>?_)
  ·replace h:=ite_t e h
   clear e
   try cbv
   exact join_next (m1,true) [4,9] [] 832 ⟨by omega,h⟩ (by cbv)
  replace h:=ite_f (Int.not_le.2 e) h
  clear e
  try cbv
  exact join_next (m1,false) [4,9] [] 832 ⟨by omega,h⟩ (by cbv)
 replace h:=ite_f e h
 clear e
 try cbv
 refine splitI (fun e=>?_) (fun e=>?_)
 rotate_left
 ·replace h:=ite_f e h
  clear e
  try cbv
  exact join_next (m1,true) [4,9] [] 832 ⟨by omega,h⟩ (by cbv)
 replace h:=ite_t e h
 clear e
 try cbv
 refine splitL (fun e=>?_) (fun e=>?_)
 ·replace h:=ite_t e h
  clear e
  try cbv
  exact join_next (m1,true) [4,9] [] 832 ⟨by omega,h⟩ (by cbv)
 replace h:=ite_f (Int.not_lt.2 e) h
 clear e
 try cbv
 replace h:=lenF_inv M h
 obtain⟨z10,hz,h⟩:=h
 refine⟨z10,hz,?_⟩
 clear hz
 try cbv
 refine splitLe (fun e=>?_) (fun e=>?_)
 ·replace h:=ite_t e h
  clear e
  try cbv
  exact join_next (m1,true) [4,9] [] 832 ⟨by omega,h⟩ (by cbv)
 replace h:=ite_f (Int.not_le.2 e) h
 clear e
 try cbv
 exact join_next (m1,false) [4,9] [] 832 ⟨by omega,h⟩ (by cbv)
def L30_4:Nat→Int→Int→ByteArray→(List D)→Int→(List D)→Bool→Option (Int×Int×ByteArray×Int×Int×List D×List D)
 | 0,_,_,_,_,_,_,_=>none
 | n+1,z10,z11,s12,l13,z14,l15,b29=>
  (if b29=true then some ((0:Int),(0:Int),ByteArray.empty,(0:Int),(3:Int),([]:List D),([]:List D))else bO6 (F95 n z10 z11 s12 l13 z14 l15) fun z30 z31 s32 z33 l34 l35=>some (z30,z31,s32,z33,(0:Int),l34,l35))
mutual
def L30_1:Nat→(List D)→Int→Int→Int→Int→ByteArray→(List D)→Int→(List D)→Option (Int×Int×ByteArray×Int×Int×List D×List D)
 | 0,_,_,_,_,_,_,_,_,_=>none
 | n+1,l7,z8,z9,z10,z11,s12,l13,z14,l15=>
  (if z9<z8 then L30_2 n l7 z8 z9 z10 z11 s12 l13 z14 l15 true else L30_2 n l7 z8 z9 z10 z11 s12 l13 z14 l15 false)
def L30_2:Nat→(List D)→Int→Int→Int→Int→ByteArray→(List D)→Int→(List D)→Bool→Option (Int×Int×ByteArray×Int×Int×List D×List D)
 | 0,_,_,_,_,_,_,_,_,_,_=>none
 | n+1,l7,z8,z9,z10,z11,s12,l13,z14,l15,b16=>
  (if b16=true then getF l7 z9 fun x17=>ds_i64 x17 fun z18=>bO1 (F94 n z10 z11 s12 l13 z14 l15 z18) fun z19=>(if z19=(0:Int)then L30_3 n l7 z8 z9 l13 z18 z19 false else L30_3 n l7 z8 z9 l13 z18 z19 true)else (if z10=(0:Int)then L30_4 n z10 z11 s12 l13 z14 l15 true else L30_4 n z10 z11 s12 l13 z14 l15 false))
def L30_3:Nat→(List D)→Int→Int→(List D)→Int→Int→Bool→Option (Int×Int×ByteArray×Int×Int×List D×List D)
 | 0,_,_,_,_,_,_,_=>none
 | n+1,l7,z8,z9,l13,z18,z19,b20=>
  (if b20=true then some ((0:Int),(0:Int),ByteArray.empty,(0:Int),z19,([]:List D),([]:List D))else getF l13 z18 fun x21=>ds_t49 x21 fun z22 z23 s24 l25 z26 l27=>letF (IntKind.wrap .i64 (z9+1)) fun z28=>L30_1 n l7 z8 z28 z22 z23 s24 l25 z26 l27)
end
def F30 (n:Nat) (z1:Int) (z2:Int) (s3:ByteArray) (l4:List D) (z5:Int) (l6:List D) (l7:List D):Option (Int×Int×ByteArray×Int×Int×List D×List D):=
 lenF l7 fun z8=>L30_1 n l7 z8 (0:Int) z1 z2 s3 l4 z5 l6
theorem T30 (n:Nat):∀⦃z1:Int⦄ ⦃z2:Int⦄ ⦃s3:ByteArray⦄ ⦃l4:List D⦄ ⦃z5:Int⦄ ⦃l6:List D⦄ ⦃l7:List D⦄ ⦃r1:Int⦄ ⦃r2:Int⦄ ⦃r3:ByteArray⦄ ⦃r4:Int⦄ ⦃r5:Int⦄ ⦃r6:List D⦄ ⦃r7:List D⦄,F30 n z1 z2 s3 l4 z5 l6 l7=some (r1,r2,r3,r4,r5,r6,r7)→
    Trip Try.prog inv 30 [.d (.agg [.int .u8 z1,.int .i64 z2,.str s3,.list true 6 l4,.int .i64 z5,.list false 1 l6]),.d (.list false 1 l7)] [] (.t [.agg [.d (.int .u8 r1),.d (.int .i64 r2),.d (.str r3),.ow (.loc 0),.d (.int .i64 r4),.ow (.loc 1)],.d (.int .u8 r5)]) [] [.tree .row true 6 r6 none,.tree .row false 1 r7 none]:=by
 intro z1 z2 s3 l4 z5 l6 l7 r1 r2 r3 r4 r5 r6 r7 h
 unfold F30 at h
 refine Trip.of tab_ok tab_one fol Try.func30 rfl (by kernel_rfl) rfl rfl rfl (fun M hM hI=>?_)
 try cbv
 refine seq_go ?_
 try cbv
 refine seq_go ?_
 try cbv
 refine seq_go ?_
 try cbv
 replace h:=lenF_inv M h
 obtain⟨z8,hz,h⟩:=h
 refine⟨z8,hz,?_⟩
 clear hz
 try cbv
 refine loop_inv (T:=Nat×Int×Int×Int×ByteArray×List D×Int×List D) [2,4,5,9,10,11] [.loc 0,.loc 32] 192 (fun t=>⟨[(2,.v (.c (.ptr (.loc 0) 0))),(4,.v (.c (.ptr (.loc 32) 0))),(5,.v (.d (.int .u8 0))),(9,.v (.d (.list false 1 l7))),(10,.v (.d (.int .i64 z8))),(11,.v (.d (.int .i64 t.2.1)))],[(.loc 0,.cells [.d (.int .u8 t.2.2.1),.d (.int .i64 t.2.2.2.1),.d (.str t.2.2.2.2.1),.d (.list true 6 t.2.2.2.2.2.1),.d (.int .i64 t.2.2.2.2.2.2.1),.d (.list false 1 t.2.2.2.2.2.2.2)]),(.loc 32,.cells [.d (.int .u8 0),.d (.int .i64 0),.d (.str ByteArray.empty),.nils true 6,.d (.int .i64 0),.nils false 1])],192⟩)
   (fun t=>t.1≤n∧L30_1 t.1 l7 z8 t.2.1 t.2.2.1 t.2.2.2.1 t.2.2.2.2.1 t.2.2.2.2.2.1 t.2.2.2.2.2.2.1 t.2.2.2.2.2.2.2=some (r1,r2,r3,r4,r5,r6,r7)) (fun t=>t.1) (n,((0:Int),z1,z2,s3,l4,z5,l6)) ⟨Nat.le_refl _,h⟩ (by cbv) ?_
 clear h
 rintro⟨m1,z9,z10,z11,s12,l13,z14,l15⟩ ⟨hm1,h⟩
 replace hm1:m1≤n:=hm1
 obtain _ | m1:=m1
 ·replace h:L30_1 0 l7 z8 z9 z10 z11 s12 l13 z14 l15=some (r1,r2,r3,r4,r5,r6,r7):=h
  rw[L30_1]at h
  cases h
 replace h:L30_1 (m1+1) l7 z8 z9 z10 z11 s12 l13 z14 l15=some (r1,r2,r3,r4,r5,r6,r7):=h
 rw[L30_1]at h
 try cbv
 refine seq_join (T:=Nat×Bool) (fun t=>⟨[(2,.v (.c (.ptr (.loc 0) 0))),(4,.v (.c (.ptr (.loc 32) 0))),(5,.v (.d (.int .u8 0))),(9,.v (.d (.list false 1 l7))),(10,.v (.d (.int .i64 z8))),(11,.v (.d (.int .i64 z9))),(12,.v (.d (.bool t.2)))],[(.loc 0,.cells [.d (.int .u8 z10),.d (.int .i64 z11),.d (.str s12),.d (.list true 6 l13),.d (.int .i64 z14),.d (.list false 1 l15)]),(.loc 32,.cells [.d (.int .u8 0),.d (.int .i64 0),.d (.str ByteArray.empty),.nils true 6,.d (.int .i64 0),.nils false 1])],224⟩) (fun t=>t.1≤m1∧L30_2 t.1 l7 z8 z9 z10 z11 s12 l13 z14 l15 t.2=some (r1,r2,r3,r4,r5,r6,r7)) ?_ ?_
 ·try cbv
  refine splitL (fun e=>?_) (fun e=>?_)
  ·replace h:=ite_t e h
   clear e
   try cbv
   exact join_next (m1,true) [2,4,5,9,10,11,12] [.loc 0,.loc 32] 224 ⟨by omega,h⟩ (by cbv)
  replace h:=ite_f (Int.not_lt.2 e) h
  clear e
  try cbv
  exact join_next (m1,false) [2,4,5,9,10,11,12] [.loc 0,.loc 32] 224 ⟨by omega,h⟩ (by cbv)
 clear h
 rintro⟨m2,b16⟩ ⟨hm2,h⟩
 replace hm2:m2≤m1:=hm2
 obtain _ | m2:=m2
 ·replace h:L30_2 0 l7 z8 z9 z10 z11 s12 l13 z14 l15 b16=some (r1,r2,r3,r4,r5,r6,r7):=h
  rw[L30_2]at h
  cases h
 replace h:L30_2 (m2+1) l7 z8 z9 z10 z11 s12 l13 z14 l15 b16=some (r1,r2,r3,r4,r5,r6,r7):=h
 rw[L30_2]at h
 try cbv
 refine seq_go ?_
 try cbv
 cases b16
 ·replace h:=ite_f Bool.false_ne_true h
  try cbv
  refine seq_go ?_
  try cbv
  refine seq_join (T:=Nat×Bool) (fun t=>⟨[(2,.v (.c (.ptr (.loc 0) 0))),(4,.v (.c (.ptr (.loc 32) 0))),(5,.v (.d (.int .u8 0))),(30,.v (.d (.bool t.2)))],[(.loc 0,.cells [.d (.int .u8 z10),.d (.int .i64 z11),.d (.str s12),.d (.list true 6 l13),.d (.int .i64 z14),.d (.list false 1 l15)]),(.loc 32,.cells [.d (.int .u8 0),.d (.int .i64 0),.d (.str ByteArray.empty),.nils true 6,.d (.int .i64 0),.nils false 1])],320⟩) (fun t=>t.1≤m2∧L30_4 t.1 z10 z11 s12 l13 z14 l15 t.2=some (r1,r2,r3,r4,r5,r6,r7)) ?_ ?_
  ·try cbv
   refine splitI (fun e=>?_) (fun e=>?_)
   ·replace h:=ite_t e h
    clear e
    try cbv
    exact join_next (m2,true) [2,4,5,30] [.loc 0,.loc 32] 320 ⟨by omega,h⟩ (by cbv)
   replace h:=ite_f e h
   clear e
   try cbv
   exact join_next (m2,false) [2,4,5,30] [.loc 0,.loc 32] 320 ⟨by omega,h⟩ (by cbv)
  clear h
  rintro⟨m4,b29⟩ ⟨hm4,h⟩
  replace hm4:m4≤m2:=hm4
  obtain _ | m4:=m4
  ·replace h:L30_4 0 z10 z11 s12 l13 z14 l15 b29=some (r1,r2,r3,r4,r5,r6,r7):=h
   rw[L30_4]at h
   cases h
  replace h:L30_4 (m4+1) z10 z11 s12 l13 z14 l15 b29=some (r1,r2,r3,r4,r5,r6,r7):=h
  rw[L30_4]at h
  try cbv
  cases b29
  ·replace h:=ite_f Bool.false_ne_true h
   try cbv
   refine seq_go ?_
   try cbv
   replace h:=bO6_inv h
   obtain⟨z30,z31,s32,z33,l34,l35,hr,h⟩:=h
   refine call_go rfl rfl ?_
   try cbv
   refine call_with hM hI [] (T95 _ hr) rfl (by simp) trivial trivial (by simp) ?_
   clear hr
   try cbv
   obtain⟨rfl,rfl,rfl,rfl,rfl,rfl,rfl⟩:=inj7 h
   refine fin_go ?_
   try cbv
   exact⟨[.loc 352,.loc 353],rfl,rfl,trivial,⟨rfl,⟨rfl,trivial⟩⟩,trivial⟩
  replace h:=ite_t rfl h
  try cbv
  refine seq_go ?_
  try cbv
  obtain⟨rfl,rfl,rfl,rfl,rfl,rfl,rfl⟩:=inj7 h
  refine⟨_,_,_,⟨rfl,rfl,rfl⟩,[.treeC (.loc 32) 3 true 6,.treeC (.loc 32) 5 false 1],?_⟩
  try cbv
  exact⟨[.loc 416,.loc 448],rfl,rfl,trivial,⟨rfl,⟨rfl,trivial⟩⟩,trivial⟩
 replace h:=ite_t rfl h
 try cbv
 refine seq_go ?_
 try cbv
 refine seq_go ?_
 try cbv
 replace h:=getF_inv h
 obtain⟨x17,hx17,h⟩:=h
 replace h:=ds_i64_inv h
 obtain⟨z18,rfl,h⟩:=h
 refine⟨_,hx17.1,hx17.2,?_⟩
 try cbv
 refine seq_go ?_
 try cbv
 refine seq_go ?_
 try cbv
 replace h:=bO1_inv h
 obtain⟨z19,hr,h⟩:=h
 refine call_go rfl rfl ?_
 try cbv
 refine call_pure hM hI (T94 _ hr) rfl ?_
 clear hr
 try cbv
 refine seq_join (T:=Nat×Bool) (fun t=>⟨[(2,.v (.c (.ptr (.loc 0) 0))),(4,.v (.c (.ptr (.loc 32) 0))),(5,.v (.d (.int .u8 0))),(7,.v (.d (.int .i64 z18))),(8,.v (.d (.int .u8 z19))),(9,.v (.d (.list false 1 l7))),(10,.v (.d (.int .i64 z8))),(11,.v (.d (.int .i64 z9))),(19,.v (.d (.bool t.2)))],[(.loc 0,.cells [.d (.int .u8 z10),.d (.int .i64 z11),.d (.str s12),.d (.list true 6 l13),.d (.int .i64 z14),.d (.list false 1 l15)]),(.loc 32,.cells [.d (.int .u8 0),.d (.int .i64 0),.d (.str ByteArray.empty),.nils true 6,.d (.int .i64 0),.nils false 1])],512⟩) (fun t=>t.1≤m2∧L30_3 t.1 l7 z8 z9 l13 z18 z19 t.2=some (r1,r2,r3,r4,r5,r6,r7)) ?_ ?_
 ·try cbv
  refine splitI (fun e=>?_) (fun e=>?_)
  ·replace h:=ite_t e h
   clear e
   try cbv
   exact join_next (m2,false) [2,4,5,7,8,9,10,11,19] [.loc 0,.loc 32] 512 ⟨by omega,h⟩ (by cbv)
  replace h:=ite_f e h
  clear e
  try cbv
  exact join_next (m2,true) [2,4,5,7,8,9,10,11,19] [.loc 0,.loc 32] 512 ⟨by omega,h⟩ (by cbv)
 clear h
 rintro⟨m3,b20⟩ ⟨hm3,h⟩
 replace hm3:m3≤m2:=hm3
 obtain _ | m3:=m3
 ·replace h:L30_3 0 l7 z8 z9 l13 z18 z19 b20=some (r1,r2,r3,r4,r5,r6,r7):=h
  rw[L30_3]at h
  cases h
 replace h:L30_3 (m3+1) l7 z8 z9 l13 z18 z19 b20=some (r1,r2,r3,r4,r5,r6,r7):=h
 rw[L30_3]at h
 try cbv
 cases b20
 ·replace h:=ite_f Bool.false_ne_true h
  try cbv
  replace h:=getF_inv h
  obtain⟨x21,hx21,h⟩:=h
  replace h:=ds_t49_inv h
  obtain⟨z22,z23,s24,l25,z26,l27,rfl,h⟩:=h
  refine⟨_,hx21.1,hx21.2,?_⟩
  try cbv
  replace h:=letF_inv h
  obtain⟨z28,hz,h⟩:=h
  refine⟨z28,hz,?_⟩
  clear hz
  try cbv
  exact loop_next (m3,(z28,z22,z23,s24,l25,z26,l27)) [2,4,5,9,10,11] [.loc 0,.loc 32] 192 ⟨by omega,h⟩ (Nat.lt_succ_of_le (by omega)) (by cbv)
 replace h:=ite_t rfl h
 try cbv
 refine seq_go ?_
 try cbv
 obtain⟨rfl,rfl,rfl,rfl,rfl,rfl,rfl⟩:=inj7 h
 refine⟨_,_,_,⟨rfl,rfl,rfl⟩,[.treeC (.loc 32) 3 true 6,.treeC (.loc 32) 5 false 1],?_⟩
 try cbv
 exact⟨[.loc 640,.loc 672],rfl,rfl,trivial,⟨rfl,⟨rfl,trivial⟩⟩,trivial⟩
mutual
def L98_2:Nat→(List D)→(List D)→Int→Option (Bool)
 | 0,_,_,_=>none
 | n+1,l1,l2,z6=>
  lenF l1 fun z7=>(if z6<z7 then L98_3 n l1 l2 z6 true else L98_3 n l1 l2 z6 false)
def L98_3:Nat→(List D)→(List D)→Int→Bool→Option (Bool)
 | 0,_,_,_,_=>none
 | n+1,l1,l2,z6,b8=>
  (if b8=true then getF l1 z6 fun x9=>ds_i64 x9 fun z10=>getF l2 z6 fun x11=>ds_i64 x11 fun z12=>(if z10=z12 then L98_4 n l1 l2 z6 false else L98_4 n l1 l2 z6 true)else some true)
def L98_4:Nat→(List D)→(List D)→Int→Bool→Option (Bool)
 | 0,_,_,_,_=>none
 | n+1,l1,l2,z6,b13=>
  (if b13=true then some false else letF (IntKind.wrap .i64 (z6+1)) fun z14=>L98_2 n l1 l2 z14)
end
def L98_1:Nat→(List D)→(List D)→Bool→Option (Bool)
 | 0,_,_,_=>none
 | n+1,l1,l2,b5=>
  (if b5=true then some false else L98_2 n l1 l2 (0:Int))
def F98 (n:Nat) (l1:List D) (l2:List D):Option (Bool):=
 lenF l1 fun z3=>lenF l2 fun z4=>(if z3=z4 then L98_1 n l1 l2 false else L98_1 n l1 l2 true)
theorem T98 (n:Nat):∀⦃l1:List D⦄ ⦃l2:List D⦄ ⦃r1:Bool⦄,F98 n l1 l2=some r1→
    Trip Try.prog inv 98 [.d (.list false 1 l1),.d (.list false 1 l2)] [] (.v (.d (.bool r1))) [] []:=by
 intro l1 l2 r1 h
 unfold F98 at h
 refine Trip.of tab_ok tab_one fol Try.func98 rfl (by kernel_rfl) rfl rfl rfl (fun M hM hI=>?_)
 try cbv
 refine seq_go ?_
 try cbv
 refine seq_go ?_
 try cbv
 refine seq_join (T:=Nat×Bool) (fun t=>⟨[(0,.v (.d (.list false 1 l1))),(1,.v (.d (.list false 1 l2))),(4,.v (.d (.bool false))),(10,.v (.d (.bool t.2)))],[],192⟩) (fun t=>t.1≤n∧L98_1 t.1 l1 l2 t.2=some r1) ?_ ?_
 ·try cbv
  replace h:=lenF_inv M h
  obtain⟨z3,hz,h⟩:=h
  refine⟨z3,hz,?_⟩
  clear hz
  try cbv
  replace h:=lenF_inv M h
  obtain⟨z4,hz,h⟩:=h
  refine⟨z4,hz,?_⟩
  clear hz
  try cbv
  refine splitI (fun e=>?_) (fun e=>?_)
  ·replace h:=ite_t e h
   clear e
   try cbv
   exact join_next (n,false) [0,1,4,10] [] 192 ⟨by omega,h⟩ (by cbv)
  replace h:=ite_f e h
  clear e
  try cbv
  exact join_next (n,true) [0,1,4,10] [] 192 ⟨by omega,h⟩ (by cbv)
 clear h
 rintro⟨m1,b5⟩ ⟨hm1,h⟩
 replace hm1:m1≤n:=hm1
 obtain _ | m1:=m1
 ·replace h:L98_1 0 l1 l2 b5=some r1:=h
  rw[L98_1]at h
  cases h
 replace h:L98_1 (m1+1) l1 l2 b5=some r1:=h
 rw[L98_1]at h
 try cbv
 cases b5
 rotate_left
 ·replace h:=ite_t rfl h
  try cbv
  refine seq_go ?_
  try cbv
  obtain rfl:=Option.some.inj h
  refine fin_go ?_
  try cbv
  exact⟨[],rfl,rfl,trivial,trivial,trivial⟩
 replace h:=ite_f Bool.false_ne_true h
 try cbv
 refine seq_go ?_
 try cbv
 refine seq_go ?_
 try cbv
 refine loop_inv (T:=Nat×Int) [0,1,4,5] [] 224 (fun t=>⟨[(0,.v (.d (.list false 1 l1))),(1,.v (.d (.list false 1 l2))),(4,.v (.d (.bool false))),(5,.v (.d (.int .i64 t.2)))],[],224⟩)
   (fun t=>t.1≤m1∧L98_2 t.1 l1 l2 t.2=some r1) (fun t=>t.1) (m1,(0:Int)) ⟨Nat.le_refl _,h⟩ (by cbv) ?_
 clear h
 rintro⟨m2,z6⟩ ⟨hm2,h⟩
 replace hm2:m2≤m1:=hm2
 obtain _ | m2:=m2
 ·replace h:L98_2 0 l1 l2 z6=some r1:=h
  rw[L98_2]at h
  cases h
 replace h:L98_2 (m2+1) l1 l2 z6=some r1:=h
 rw[L98_2]at h
 try cbv
 refine seq_go ?_
 try cbv
 refine seq_join (T:=Nat×Bool) (fun t=>⟨[(0,.v (.d (.list false 1 l1))),(1,.v (.d (.list false 1 l2))),(4,.v (.d (.bool false))),(5,.v (.d (.int .i64 z6))),(14,.v (.d (.bool t.2)))],[],352⟩) (fun t=>t.1≤m2∧L98_3 t.1 l1 l2 z6 t.2=some r1) ?_ ?_
 ·try cbv
  replace h:=lenF_inv M h
  obtain⟨z7,hz,h⟩:=h
  refine⟨z7,hz,?_⟩
  clear hz
  try cbv
  refine splitL (fun e=>?_) (fun e=>?_)
  ·replace h:=ite_t e h
   clear e
   try cbv
   exact join_next (m2,true) [0,1,4,5,14] [] 352 ⟨by omega,h⟩ (by cbv)
  replace h:=ite_f (Int.not_lt.2 e) h
  clear e
  try cbv
  exact join_next (m2,false) [0,1,4,5,14] [] 352 ⟨by omega,h⟩ (by cbv)
 clear h
 rintro⟨m3,b8⟩ ⟨hm3,h⟩
 replace hm3:m3≤m2:=hm3
 obtain _ | m3:=m3
 ·replace h:L98_3 0 l1 l2 z6 b8=some r1:=h
  rw[L98_3]at h
  cases h
 replace h:L98_3 (m3+1) l1 l2 z6 b8=some r1:=h
 rw[L98_3]at h
 try cbv
 cases b8
 ·replace h:=ite_f Bool.false_ne_true h
  try cbv
  refine seq_go ?_
  try cbv
  obtain rfl:=Option.some.inj h
  refine fin_go ?_
  try cbv
  exact⟨[],rfl,rfl,trivial,trivial,trivial⟩
 replace h:=ite_t rfl h
 try cbv
 refine seq_go ?_
 try cbv
 refine seq_join (T:=Nat×Bool) (fun t=>⟨[(0,.v (.d (.list false 1 l1))),(1,.v (.d (.list false 1 l2))),(4,.v (.d (.bool false))),(5,.v (.d (.int .i64 z6))),(25,.v (.d (.bool t.2)))],[],640⟩) (fun t=>t.1≤m3∧L98_4 t.1 l1 l2 z6 t.2=some r1) ?_ ?_
 ·try cbv
  replace h:=getF_inv h
  obtain⟨x9,hx9,h⟩:=h
  replace h:=ds_i64_inv h
  obtain⟨z10,rfl,h⟩:=h
  refine⟨_,hx9.1,hx9.2,?_⟩
  try cbv
  replace h:=getF_inv h
  obtain⟨x11,hx11,h⟩:=h
  replace h:=ds_i64_inv h
  obtain⟨z12,rfl,h⟩:=h
  refine⟨_,hx11.1,hx11.2,?_⟩
  try cbv
  refine splitI (fun e=>?_) (fun e=>?_)
  ·replace h:=ite_t e h
   clear e
   try cbv
   refine drawn ?_ ?_
   ·show _=true
    kernel_rfl
   try cbv
   exact join_next (m3,false) [0,1,4,5,25] [] 640 ⟨by omega,h⟩ (by cbv)
  replace h:=ite_f e h
  clear e
  try cbv
  refine drawn ?_ ?_
  ·show _=true
   kernel_rfl
  try cbv
  exact join_next (m3,true) [0,1,4,5,25] [] 640 ⟨by omega,h⟩ (by cbv)
 clear h
 rintro⟨m4,b13⟩ ⟨hm4,h⟩
 replace hm4:m4≤m3:=hm4
 obtain _ | m4:=m4
 ·replace h:L98_4 0 l1 l2 z6 b13=some r1:=h
  rw[L98_4]at h
  cases h
 replace h:L98_4 (m4+1) l1 l2 z6 b13=some r1:=h
 rw[L98_4]at h
 try cbv
 cases b13
 ·replace h:=ite_f Bool.false_ne_true h
  try cbv
  replace h:=letF_inv h
  obtain⟨z14,hz,h⟩:=h
  refine⟨z14,hz,?_⟩
  clear hz
  try cbv
  exact loop_next (m4,z14) [0,1,4,5] [] 224 ⟨by omega,h⟩ (Nat.lt_succ_of_le (by omega)) (by cbv)
 replace h:=ite_t rfl h
 try cbv
 refine seq_go ?_
 try cbv
 obtain rfl:=Option.some.inj h
 refine fin_go ?_
 try cbv
 exact⟨[],rfl,rfl,trivial,trivial,trivial⟩
mutual
def L48_1:Nat→(List D)→(List D)→Bool→Option (Bool)
 | 0,_,_,_=>none
 | n+1,l1,l2,b5=>
  (if b5=true then some false else L48_2 n l1 l2 (0:Int))
def L48_2:Nat→(List D)→(List D)→Int→Option (Bool)
 | 0,_,_,_=>none
 | n+1,l1,l2,z6=>
  lenF l1 fun z7=>(if z6<z7 then L48_3 n l1 l2 z6 true else L48_3 n l1 l2 z6 false)
def L48_3:Nat→(List D)→(List D)→Int→Bool→Option (Bool)
 | 0,_,_,_,_=>none
 | n+1,l1,l2,z6,b8=>
  (if b8=true then getF l1 z6 fun x9=>ds_t49 x9 fun z10 z11 s12 l13 z14 l15=>getF l2 z6 fun x16=>ds_t49 x16 fun z17 z18 s19 l20 z21 l22=>bO1 (F34 n z10 z11 s12 l13 z14 l15 z17 z18 s19 l20 z21 l22) fun b23=>letB (!b23) fun b24=>(if b24=true then some false else letF (IntKind.wrap .i64 (z6+1)) fun z25=>L48_2 n l1 l2 z25)else some true)
def F48:Nat→(List D)→(List D)→Option (Bool)
 | 0,_,_=>none
 | n+1,l1,l2=>
  lenF l1 fun z3=>lenF l2 fun z4=>(if z3=z4 then L48_1 n l1 l2 false else L48_1 n l1 l2 true)
def F34:Nat→Int→Int→ByteArray→(List D)→Int→(List D)→Int→Int→ByteArray→(List D)→Int→(List D)→Option (Bool)
 | 0,_,_,_,_,_,_,_,_,_,_,_,_=>none
 | n+1,z1,z2,s3,l4,z5,l6,z7,z8,s9,l10,z11,l12=>
  (if z1=z7 then (if z2=z8 then (if s3=s9 then (if z5=z11 then bO1 (F98 n l6 l12) fun b13=>(if b13=true then bO1 (F48 n l4 l10) fun b14=>some b14 else some false)else some false)else some false)else some false)else some false)
end
theorem G48 (n:Nat):(∀⦃l1:List D⦄ ⦃l2:List D⦄ ⦃r1:Bool⦄,F48 n l1 l2=some r1→
    Trip Try.prog inv 48 [.d (.list true 6 l1),.d (.list true 6 l2)] [] (.v (.d (.bool r1))) [] [])∧
    (∀⦃z1:Int⦄ ⦃z2:Int⦄ ⦃s3:ByteArray⦄ ⦃l4:List D⦄ ⦃z5:Int⦄ ⦃l6:List D⦄ ⦃z7:Int⦄ ⦃z8:Int⦄ ⦃s9:ByteArray⦄ ⦃l10:List D⦄ ⦃z11:Int⦄ ⦃l12:List D⦄ ⦃r1:Bool⦄,F34 n z1 z2 s3 l4 z5 l6 z7 z8 s9 l10 z11 l12=some r1→
    Trip Try.prog inv 34 [.d (.agg [.int .u8 z1,.int .i64 z2,.str s3,.list true 6 l4,.int .i64 z5,.list false 1 l6]),.d (.agg [.int .u8 z7,.int .i64 z8,.str s9,.list true 6 l10,.int .i64 z11,.list false 1 l12])] [] (.v (.d (.bool r1))) [] []):=by
 induction n using Nat.strongRecOn with | _ n ih=>
 obtain _ | n:=n
 ·refine⟨?_,?_⟩
  ·intro l1 l2 r1 h
   cases (show (none:Option _)=some _ from h)
  intro z1 z2 s3 l4 z5 l6 z7 z8 s9 l10 z11 l12 r1 h
  cases (show (none:Option _)=some _ from h)
 refine⟨?_,?_⟩
 rotate_left
 ·intro z1 z2 s3 l4 z5 l6 z7 z8 s9 l10 z11 l12 r1 h
  rw[F34]at h
  refine Trip.of tab_ok tab_one fol Try.func34 rfl (by kernel_rfl) rfl rfl rfl (fun M hM hI=>?_)
  try cbv
  refine seq_go ?_
  try cbv
  refine seq_go ?_
  try cbv
  refine splitI (fun e=>?_) (fun e=>?_)
  rotate_left
  ·replace h:=ite_f e h
   clear e
   try cbv
   obtain rfl:=Option.some.inj h
   refine fin_go ?_
   try cbv
   exact⟨[],rfl,rfl,trivial,trivial,trivial⟩
  replace h:=ite_t e h
  clear e
  try cbv
  refine splitI (fun e=>?_) (fun e=>?_)
  rotate_left
  ·replace h:=ite_f e h
   clear e
   try cbv
   obtain rfl:=Option.some.inj h
   refine fin_go ?_
   try cbv
   exact⟨[],rfl,rfl,trivial,trivial,trivial⟩
  replace h:=ite_t e h
  clear e
  try cbv
  refine splitS (fun e=>?_) (fun e=>?_)
  rotate_left
  ·replace h:=ite_f (bytes_ne.1 e) h
   clear e
   try cbv
   obtain rfl:=Option.some.inj h
   refine fin_go ?_
   try cbv
   exact⟨[],rfl,rfl,trivial,trivial,trivial⟩
  replace h:=ite_t (bytes_eq.1 e) h
  clear e
  try cbv
  refine splitI (fun e=>?_) (fun e=>?_)
  rotate_left
  ·replace h:=ite_f e h
   clear e
   try cbv
   obtain rfl:=Option.some.inj h
   refine fin_go ?_
   try cbv
   exact⟨[],rfl,rfl,trivial,trivial,trivial⟩
  replace h:=ite_t e h
  clear e
  try cbv
  replace h:=bO1_inv h
  obtain⟨b13,hr,h⟩:=h
  refine call_go rfl rfl ?_
  try cbv
  refine call_pure hM hI (T98 _ hr) rfl ?_
  clear hr
  try cbv
  cases b13
  ·replace h:=ite_f Bool.false_ne_true h
   try cbv
   obtain rfl:=Option.some.inj h
   refine fin_go ?_
   try cbv
   exact⟨[],rfl,rfl,trivial,trivial,trivial⟩
  replace h:=ite_t rfl h
  try cbv
  replace h:=bO1_inv h
  obtain⟨b14,hr,h⟩:=h
  refine call_go rfl rfl ?_
  try cbv
  refine call_pure hM hI ((ih _ (by omega)).1 hr) rfl ?_
  clear hr
  try cbv
  obtain rfl:=Option.some.inj h
  refine fin_go ?_
  try cbv
  exact⟨[],rfl,rfl,trivial,trivial,trivial⟩
 intro l1 l2 r1 h
 rw[F48]at h
 refine Trip.of tab_ok tab_one fol Try.func48 rfl (by kernel_rfl) rfl rfl rfl (fun M hM hI=>?_)
 try cbv
 refine seq_go ?_
 try cbv
 refine seq_go ?_
 try cbv
 refine seq_join (T:=Nat×Bool) (fun t=>⟨[(0,.v (.d (.list true 6 l1))),(1,.v (.d (.list true 6 l2))),(4,.v (.d (.bool false))),(10,.v (.d (.bool t.2)))],[],192⟩) (fun t=>t.1≤n∧L48_1 t.1 l1 l2 t.2=some r1) ?_ ?_
 ·try cbv
  replace h:=lenF_inv M h
  obtain⟨z3,hz,h⟩:=h
  refine⟨z3,hz,?_⟩
  clear hz
  try cbv
  replace h:=lenF_inv M h
  obtain⟨z4,hz,h⟩:=h
  refine⟨z4,hz,?_⟩
  clear hz
  try cbv
  refine splitI (fun e=>?_) (fun e=>?_)
  ·replace h:=ite_t e h
   clear e
   try cbv
   exact join_next (n,false) [0,1,4,10] [] 192 ⟨by omega,h⟩ (by cbv)
  replace h:=ite_f e h
  clear e
  try cbv
  exact join_next (n,true) [0,1,4,10] [] 192 ⟨by omega,h⟩ (by cbv)
 clear h
 rintro⟨m1,b5⟩ ⟨hm1,h⟩
 replace hm1:m1≤n:=hm1
 obtain _ | m1:=m1
 ·replace h:L48_1 0 l1 l2 b5=some r1:=h
  rw[L48_1]at h
  cases h
 replace h:L48_1 (m1+1) l1 l2 b5=some r1:=h
 rw[L48_1]at h
 try cbv
 cases b5
 rotate_left
 ·replace h:=ite_t rfl h
  try cbv
  refine seq_go ?_
  try cbv
  obtain rfl:=Option.some.inj h
  refine fin_go ?_
  try cbv
  exact⟨[],rfl,rfl,trivial,trivial,trivial⟩
 replace h:=ite_f Bool.false_ne_true h
 try cbv
 refine seq_go ?_
 try cbv
 refine seq_go ?_
 try cbv
 refine loop_inv (T:=Nat×Int) [0,1,4,5] [] 224 (fun t=>⟨[(0,.v (.d (.list true 6 l1))),(1,.v (.d (.list true 6 l2))),(4,.v (.d (.bool false))),(5,.v (.d (.int .i64 t.2)))],[],224⟩)
   (fun t=>t.1≤m1∧L48_2 t.1 l1 l2 t.2=some r1) (fun t=>t.1) (m1,(0:Int)) ⟨Nat.le_refl _,h⟩ (by cbv) ?_
 clear h
 rintro⟨m2,z6⟩ ⟨hm2,h⟩
 replace hm2:m2≤m1:=hm2
 obtain _ | m2:=m2
 ·replace h:L48_2 0 l1 l2 z6=some r1:=h
  rw[L48_2]at h
  cases h
 replace h:L48_2 (m2+1) l1 l2 z6=some r1:=h
 rw[L48_2]at h
 try cbv
 refine seq_go ?_
 try cbv
 refine seq_join (T:=Nat×Bool) (fun t=>⟨[(0,.v (.d (.list true 6 l1))),(1,.v (.d (.list true 6 l2))),(4,.v (.d (.bool false))),(5,.v (.d (.int .i64 z6))),(14,.v (.d (.bool t.2)))],[],352⟩) (fun t=>t.1≤m2∧L48_3 t.1 l1 l2 z6 t.2=some r1) ?_ ?_
 ·try cbv
  replace h:=lenF_inv M h
  obtain⟨z7,hz,h⟩:=h
  refine⟨z7,hz,?_⟩
  clear hz
  try cbv
  refine splitL (fun e=>?_) (fun e=>?_)
  ·replace h:=ite_t e h
   clear e
   try cbv
   exact join_next (m2,true) [0,1,4,5,14] [] 352 ⟨by omega,h⟩ (by cbv)
  replace h:=ite_f (Int.not_lt.2 e) h
  clear e
  try cbv
  exact join_next (m2,false) [0,1,4,5,14] [] 352 ⟨by omega,h⟩ (by cbv)
 clear h
 rintro⟨m3,b8⟩ ⟨hm3,h⟩
 replace hm3:m3≤m2:=hm3
 obtain _ | m3:=m3
 ·replace h:L48_3 0 l1 l2 z6 b8=some r1:=h
  rw[L48_3]at h
  cases h
 replace h:L48_3 (m3+1) l1 l2 z6 b8=some r1:=h
 rw[L48_3]at h
 try cbv
 cases b8
 ·replace h:=ite_f Bool.false_ne_true h
  try cbv
  refine seq_go ?_
  try cbv
  obtain rfl:=Option.some.inj h
  refine fin_go ?_
  try cbv
  exact⟨[],rfl,rfl,trivial,trivial,trivial⟩
 replace h:=ite_t rfl h
 try cbv
 refine seq_go ?_
 try cbv
 refine seq_go ?_
 try cbv
 replace h:=getF_inv h
 obtain⟨x9,hx9,h⟩:=h
 replace h:=ds_t49_inv h
 obtain⟨z10,z11,s12,l13,z14,l15,rfl,h⟩:=h
 refine⟨_,hx9.1,hx9.2,?_⟩
 try cbv
 replace h:=getF_inv h
 obtain⟨x16,hx16,h⟩:=h
 replace h:=ds_t49_inv h
 obtain⟨z17,z18,s19,l20,z21,l22,rfl,h⟩:=h
 refine⟨_,hx16.1,hx16.2,?_⟩
 try cbv
 replace h:=bO1_inv h
 obtain⟨b23,hr,h⟩:=h
 first | refine .inr (.inl ⟨[],?_⟩) | refine .inl ⟨[],?_⟩
 try cbv
 refine call_pure hM hI ((ih _ (by omega)).2 hr) rfl ?_
 clear hr
 try cbv
 replace h:=letB_inv h
 obtain⟨b24,hz,h⟩:=h
 refine⟨b24,not_eq' hz,?_⟩
 clear hz
 try cbv
 refine drawn ?_ ?_
 ·show _=true
  kernel_rfl
 try cbv
 cases b24
 ·replace h:=ite_f Bool.false_ne_true h
  try cbv
  replace h:=letF_inv h
  obtain⟨z25,hz,h⟩:=h
  refine⟨z25,hz,?_⟩
  clear hz
  try cbv
  exact loop_next (m3,z25) [0,1,4,5] [] 224 ⟨by omega,h⟩ (Nat.lt_succ_of_le (by omega)) (by cbv)
 replace h:=ite_t rfl h
 try cbv
 refine seq_go ?_
 try cbv
 obtain rfl:=Option.some.inj h
 refine fin_go ?_
 try cbv
 exact⟨[],rfl,rfl,trivial,trivial,trivial⟩
theorem T34 (n:Nat):∀⦃z1:Int⦄ ⦃z2:Int⦄ ⦃s3:ByteArray⦄ ⦃l4:List D⦄ ⦃z5:Int⦄ ⦃l6:List D⦄ ⦃z7:Int⦄ ⦃z8:Int⦄ ⦃s9:ByteArray⦄ ⦃l10:List D⦄ ⦃z11:Int⦄ ⦃l12:List D⦄ ⦃r1:Bool⦄,F34 n z1 z2 s3 l4 z5 l6 z7 z8 s9 l10 z11 l12=some r1→
  Trip Try.prog inv 34 [.d (.agg [.int .u8 z1,.int .i64 z2,.str s3,.list true 6 l4,.int .i64 z5,.list false 1 l6]),.d (.agg [.int .u8 z7,.int .i64 z8,.str s9,.list true 6 l10,.int .i64 z11,.list false 1 l12])] [] (.v (.d (.bool r1))) [] []:=(G48 n).2
mutual
def L92_1:Nat→(List D)→Int→Int→Option (Int)
 | 0,_,_,_=>none
 | n+1,l1,z3,z4=>
  lenF l1 fun z5=>(if z4<z5 then (if (0:Int)≤z3 then L92_2 n l1 z3 z4 true else L92_2 n l1 z3 z4 false)else L92_2 n l1 z3 z4 false)
def L92_2:Nat→(List D)→Int→Int→Bool→Option (Int)
 | 0,_,_,_,_=>none
 | n+1,l1,z3,z4,b6=>
  (if b6=true then getF l1 z4 fun x7=>ds_t49 x7 fun z8 z9 s10 l11 z12 l13=>letF (IntKind.wrap .i64 (z3 - 10)) fun z14=>(if z14<(0:Int)then L92_3 n l1 z4 s10 l11 l13 z14 true else szF s10 fun z15=>(if z14<z15 then L92_3 n l1 z4 s10 l11 l13 z14 true else lenF l13 fun z16=>szF s10 fun z17=>letF (IntKind.wrap .i64 (z14 - z17)) fun z18=>(if z18<z16 then L92_3 n l1 z4 s10 l11 l13 z14 true else L92_3 n l1 z4 s10 l11 l13 z14 false)))else some z3)
def L92_3:Nat→(List D)→Int→ByteArray→(List D)→(List D)→Int→Bool→Option (Int)
 | 0,_,_,_,_,_,_,_=>none
 | n+1,l1,z4,s10,l11,l13,z14,b19=>
  (if b19=true then some (-1:Int)else szF s10 fun z20=>letF (IntKind.wrap .i64 (z14 - z20)) fun z21=>lenF l13 fun z22=>letF (IntKind.wrap .i64 (z21 - z22)) fun z23=>bO1 (F92 n l11 z23) fun z24=>letF (IntKind.wrap .i64 (z4+1)) fun z25=>L92_1 n l1 z24 z25)
def F92:Nat→(List D)→Int→Option (Int)
 | 0,_,_=>none
 | n+1,l1,z2=>
  L92_1 n l1 z2 (0:Int)
end
theorem T92 (n:Nat):∀⦃l1:List D⦄ ⦃z2:Int⦄ ⦃r1:Int⦄,F92 n l1 z2=some r1→
    Trip Try.prog inv 92 [.d (.list true 6 l1),.d (.int .i64 z2)] [] (.v (.d (.int .i64 r1))) [] []:=by
 induction n using Nat.strongRecOn with | _ n ih=>
 obtain _ | n:=n
 ·intro l1 z2 r1 h
  cases (show (none:Option _)=some _ from h)
 intro l1 z2 r1 h
 rw[F92]at h
 refine Trip.of tab_ok tab_one fol Try.func92 rfl (by kernel_rfl) rfl rfl rfl (fun M hM hI=>?_)
 try cbv
 refine seq_go ?_
 try cbv
 refine seq_go ?_
 try cbv
 refine seq_go ?_
 try cbv
 refine loop_inv (T:=Nat×Int×Int) [0,1,4,5] [] 64 (fun t=>⟨[(0,.v (.d (.list true 6 l1))),(1,.v (.d (.int .i64 t.2.1))),(4,.v (.d (.int .i64 0))),(5,.v (.d (.int .i64 t.2.2)))],[],64⟩)
   (fun t=>t.1≤n∧L92_1 t.1 l1 t.2.1 t.2.2=some r1) (fun t=>t.1) (n,(z2,(0:Int))) ⟨Nat.le_refl _,h⟩ (by cbv) ?_
 clear h
 rintro⟨m1,z3,z4⟩ ⟨hm1,h⟩
 replace hm1:m1≤n:=hm1
 obtain _ | m1:=m1
 ·replace h:L92_1 0 l1 z3 z4=some r1:=h
  rw[L92_1]at h
  cases h
 replace h:L92_1 (m1+1) l1 z3 z4=some r1:=h
 rw[L92_1]at h
 try cbv
 refine seq_go ?_
 try cbv
 refine seq_join (T:=Nat×Bool) (fun t=>⟨[(0,.v (.d (.list true 6 l1))),(1,.v (.d (.int .i64 z3))),(4,.v (.d (.int .i64 0))),(5,.v (.d (.int .i64 z4))),(14,.v (.d (.bool t.2)))],[],320⟩) (fun t=>t.1≤m1∧L92_2 t.1 l1 z3 z4 t.2=some r1) ?_ ?_
 ·try cbv
  replace h:=lenF_inv M h
  obtain⟨z5,hz,h⟩:=h
  refine⟨z5,hz,?_⟩
  clear hz
  try cbv
  refine splitL (fun e=>?_) (fun e=>?_)
  ·replace h:=ite_t e h
   clear e
   try cbv
   refine splitLe (fun e=>?_) (fun e=>?_)
   ·replace h:=ite_t e h
    clear e
    try cbv
    exact join_next (m1,true) [0,1,4,5,14] [] 320 ⟨by omega,h⟩ (by cbv)
   replace h:=ite_f (Int.not_le.2 e) h
   clear e
   try cbv
   exact join_next (m1,false) [0,1,4,5,14] [] 320 ⟨by omega,h⟩ (by cbv)
  replace h:=ite_f (Int.not_lt.2 e) h
  clear e
  try cbv
  exact join_next (m1,false) [0,1,4,5,14] [] 320 ⟨by omega,h⟩ (by cbv)
 clear h
 rintro⟨m2,b6⟩ ⟨hm2,h⟩
 replace hm2:m2≤m1:=hm2
 obtain _ | m2:=m2
 ·replace h:L92_2 0 l1 z3 z4 b6=some r1:=h
  rw[L92_2]at h
  cases h
 replace h:L92_2 (m2+1) l1 z3 z4 b6=some r1:=h
 rw[L92_2]at h
 try cbv
 cases b6
 ·replace h:=ite_f Bool.false_ne_true h
  try cbv
  refine seq_go ?_
  try cbv
  obtain rfl:=Option.some.inj h
  refine fin_go ?_
  try cbv
  exact⟨[],rfl,rfl,trivial,trivial,trivial⟩
 replace h:=ite_t rfl h
 try cbv
 refine seq_go ?_
 try cbv
 refine seq_go ?_
 try cbv
 replace h:=getF_inv h
 obtain⟨x7,hx7,h⟩:=h
 replace h:=ds_t49_inv h
 obtain⟨z8,z9,s10,l11,z12,l13,rfl,h⟩:=h
 refine⟨_,hx7.1,hx7.2,?_⟩
 try cbv
 refine seq_go ?_
 try cbv
 replace h:=letF_inv h
 obtain⟨z14,hz,h⟩:=h
 refine⟨z14,hz,?_⟩
 clear hz
 try cbv
 refine seq_go ?_
 try cbv
 refine seq_join (T:=Nat×Bool) (fun t=>⟨[(0,.v (.d (.list true 6 l1))),(1,.v (.d (.int .i64 z14))),(4,.v (.d (.int .i64 0))),(5,.v (.d (.int .i64 z4))),(6,.v (.c (.ptr (.loc 448) 0))),(42,.v (.d (.bool t.2)))],[(.loc 448,.cells [.d (.int .u8 z8),.d (.int .i64 z9),.d (.str s10),.d (.list true 6 l11),.d (.int .i64 z12),.d (.list false 1 l13)])],1248⟩) (fun t=>t.1≤m2∧L92_3 t.1 l1 z4 s10 l11 l13 z14 t.2=some r1) ?_ ?_
 ·try cbv
  refine splitL (fun e=>?_) (fun e=>?_)
  ·replace h:=ite_t e h
   clear e
   try cbv
   exact join_next (m2,true) [0,1,4,5,6,42] [.loc 448] 1248 ⟨by omega,h⟩ (by cbv)
  replace h:=ite_f (Int.not_lt.2 e) h
  clear e
  try cbv
  replace h:=szF_inv M h
  obtain⟨z15,hz,h⟩:=h
  refine⟨z15,hz,?_⟩
  clear hz
  try cbv
  refine splitL (fun e=>?_) (fun e=>?_)
  ·replace h:=ite_t e h
   clear e
   try cbv
   exact join_next (m2,true) [0,1,4,5,6,42] [.loc 448] 1248 ⟨by omega,h⟩ (by cbv)
  replace h:=ite_f (Int.not_lt.2 e) h
  clear e
  try cbv
  replace h:=lenF_inv M h
  obtain⟨z16,hz,h⟩:=h
  refine⟨z16,hz,?_⟩
  clear hz
  try cbv
  replace h:=szF_inv M h
  obtain⟨z17,hz,h⟩:=h
  refine⟨z17,hz,?_⟩
  clear hz
  try cbv
  replace h:=letF_inv h
  obtain⟨z18,hz,h⟩:=h
  refine⟨z18,hz,?_⟩
  clear hz
  try cbv
  refine splitL (fun e=>?_) (fun e=>?_)
  ·replace h:=ite_t e h
   clear e
   try cbv
   exact join_next (m2,true) [0,1,4,5,6,42] [.loc 448] 1248 ⟨by omega,h⟩ (by cbv)
  replace h:=ite_f (Int.not_lt.2 e) h
  clear e
  try cbv
  exact join_next (m2,false) [0,1,4,5,6,42] [.loc 448] 1248 ⟨by omega,h⟩ (by cbv)
 clear h
 rintro⟨m3,b19⟩ ⟨hm3,h⟩
 replace hm3:m3≤m2:=hm3
 obtain _ | m3:=m3
 ·replace h:L92_3 0 l1 z4 s10 l11 l13 z14 b19=some r1:=h
  rw[L92_3]at h
  cases h
 replace h:L92_3 (m3+1) l1 z4 s10 l11 l13 z14 b19=some r1:=h
 rw[L92_3]at h
 try cbv
 cases b19
 rotate_left
 ·replace h:=ite_t rfl h
  try cbv
  refine seq_go ?_
  try cbv
  obtain rfl:=Option.some.inj h
  refine fin_go ?_
  try cbv
  exact⟨[],rfl,rfl,trivial,trivial,trivial⟩
 replace h:=ite_f Bool.false_ne_true h
 try cbv
 replace h:=szF_inv M h
 obtain⟨z20,hz,h⟩:=h
 refine⟨z20,hz,?_⟩
 clear hz
 try cbv
 replace h:=letF_inv h
 obtain⟨z21,hz,h⟩:=h
 refine⟨z21,hz,?_⟩
 clear hz
 try cbv
 replace h:=lenF_inv M h
 obtain⟨z22,hz,h⟩:=h
 refine⟨z22,hz,?_⟩
 clear hz
 try cbv
 replace h:=letF_inv h
 obtain⟨z23,hz,h⟩:=h
 refine⟨z23,hz,?_⟩
 clear hz
 try cbv
 replace h:=bO1_inv h
 obtain⟨z24,hr,h⟩:=h
 refine call_go rfl rfl ?_
 try cbv
 refine call_pure hM hI ((ih _ (by omega)) hr) rfl ?_
 clear hr
 try cbv
 replace h:=letF_inv h
 obtain⟨z25,hz,h⟩:=h
 refine⟨z25,hz,?_⟩
 clear hz
 try cbv
 exact loop_next (m3,(z24,z25)) [0,1,4,5] [] 64 ⟨by omega,h⟩ (Nat.lt_succ_of_le (by omega)) (by cbv)
mutual
def L50_2:Nat→(List D)→Int→Int→Option (Bool)
 | 0,_,_,_=>none
 | n+1,l1,z4,z5=>
  lenF l1 fun z6=>(if z5<z6 then L50_3 n l1 z4 z5 true else L50_3 n l1 z4 z5 false)
def L50_3:Nat→(List D)→Int→Int→Bool→Option (Bool)
 | 0,_,_,_,_=>none
 | n+1,l1,z4,z5,b7=>
  (if b7=true then getF l1 z5 fun x8=>ds_t90 x8 fun z9 z10 l11 z12 z13 s14 l15 z16 l17=>lenF l11 fun z18=>(if (50:Int)<z18 then L50_4 n l1 z4 z5 true else L50_4 n l1 z4 z5 false)else (if z4<(0:Int)then some true else some false))
def L50_4:Nat→(List D)→Int→Int→Bool→Option (Bool)
 | 0,_,_,_,_=>none
 | n+1,l1,z4,z5,b19=>
  (if b19=true then some true else getF l1 z5 fun x20=>ds_t90 x20 fun z21 z22 l23 z24 z25 s26 l27 z28 l29=>bO1 (F92 n ([.agg [.int .u8 z24,.int .i64 z25,.str s26,.list true 6 l27,.int .i64 z28,.list false 1 l29]]) z4) fun z30=>letF (IntKind.wrap .i64 (z5+1)) fun z31=>L50_2 n l1 z30 z31)
end
def L50_1:Nat→(List D)→Bool→Option (Bool)
 | 0,_,_=>none
 | n+1,l1,b3=>
  (if b3=true then some true else L50_2 n l1 (10000:Int) (0:Int))
def F50 (n:Nat) (l1:List D):Option (Bool):=
 lenF l1 fun z2=>(if (60:Int)<z2 then L50_1 n l1 true else L50_1 n l1 false)
theorem T50 (n:Nat):∀⦃l1:List D⦄ ⦃r1:Bool⦄,F50 n l1=some r1→
    Trip Try.prog inv 50 [.d (.list true 9 l1)] [] (.v (.d (.bool r1))) [] []:=by
 intro l1 r1 h
 unfold F50 at h
 refine Trip.of tab_ok tab_one fol Try.func50 rfl (by kernel_rfl) rfl rfl rfl (fun M hM hI=>?_)
 try cbv
 refine seq_go ?_
 try cbv
 refine seq_go ?_
 try cbv
 refine seq_join (T:=Nat×Bool) (fun t=>⟨[(0,.v (.d (.list true 9 l1))),(2,.v (.d (.bool false))),(7,.v (.d (.bool t.2)))],[],128⟩) (fun t=>t.1≤n∧L50_1 t.1 l1 t.2=some r1) ?_ ?_
 ·try cbv
  replace h:=lenF_inv M h
  obtain⟨z2,hz,h⟩:=h
  refine⟨z2,hz,?_⟩
  clear hz
  try cbv
  refine splitL (fun e=>?_) (fun e=>?_)
  ·replace h:=ite_t e h
   clear e
   try cbv
   exact join_next (n,true) [0,2,7] [] 128 ⟨by omega,h⟩ (by cbv)
  replace h:=ite_f (Int.not_lt.2 e) h
  clear e
  try cbv
  exact join_next (n,false) [0,2,7] [] 128 ⟨by omega,h⟩ (by cbv)
 clear h
 rintro⟨m1,b3⟩ ⟨hm1,h⟩
 replace hm1:m1≤n:=hm1
 obtain _ | m1:=m1
 ·replace h:L50_1 0 l1 b3=some r1:=h
  rw[L50_1]at h
  cases h
 replace h:L50_1 (m1+1) l1 b3=some r1:=h
 rw[L50_1]at h
 try cbv
 cases b3
 rotate_left
 ·replace h:=ite_t rfl h
  try cbv
  refine seq_go ?_
  try cbv
  obtain rfl:=Option.some.inj h
  refine fin_go ?_
  try cbv
  exact⟨[],rfl,rfl,trivial,trivial,trivial⟩
 replace h:=ite_f Bool.false_ne_true h
 try cbv
 refine seq_go ?_
 try cbv
 refine seq_go ?_
 try cbv
 refine seq_go ?_
 try cbv
 refine loop_inv (T:=Nat×Int×Int) [0,2,3,4] [] 192 (fun t=>⟨[(0,.v (.d (.list true 9 l1))),(2,.v (.d (.bool false))),(3,.v (.d (.int .i64 t.2.1))),(4,.v (.d (.int .i64 t.2.2)))],[],192⟩)
   (fun t=>t.1≤m1∧L50_2 t.1 l1 t.2.1 t.2.2=some r1) (fun t=>t.1) (m1,((10000:Int),(0:Int))) ⟨Nat.le_refl _,h⟩ (by cbv) ?_
 clear h
 rintro⟨m2,z4,z5⟩ ⟨hm2,h⟩
 replace hm2:m2≤m1:=hm2
 obtain _ | m2:=m2
 ·replace h:L50_2 0 l1 z4 z5=some r1:=h
  rw[L50_2]at h
  cases h
 replace h:L50_2 (m2+1) l1 z4 z5=some r1:=h
 rw[L50_2]at h
 try cbv
 refine seq_go ?_
 try cbv
 refine seq_join (T:=Nat×Bool) (fun t=>⟨[(0,.v (.d (.list true 9 l1))),(2,.v (.d (.bool false))),(3,.v (.d (.int .i64 z4))),(4,.v (.d (.int .i64 z5))),(11,.v (.d (.bool t.2)))],[],320⟩) (fun t=>t.1≤m2∧L50_3 t.1 l1 z4 z5 t.2=some r1) ?_ ?_
 ·try cbv
  replace h:=lenF_inv M h
  obtain⟨z6,hz,h⟩:=h
  refine⟨z6,hz,?_⟩
  clear hz
  try cbv
  refine splitL (fun e=>?_) (fun e=>?_)
  ·replace h:=ite_t e h
   clear e
   try cbv
   exact join_next (m2,true) [0,2,3,4,11] [] 320 ⟨by omega,h⟩ (by cbv)
  replace h:=ite_f (Int.not_lt.2 e) h
  clear e
  try cbv
  exact join_next (m2,false) [0,2,3,4,11] [] 320 ⟨by omega,h⟩ (by cbv)
 clear h
 rintro⟨m3,b7⟩ ⟨hm3,h⟩
 replace hm3:m3≤m2:=hm3
 obtain _ | m3:=m3
 ·replace h:L50_3 0 l1 z4 z5 b7=some r1:=h
  rw[L50_3]at h
  cases h
 replace h:L50_3 (m3+1) l1 z4 z5 b7=some r1:=h
 rw[L50_3]at h
 try cbv
 cases b7
 ·replace h:=ite_f Bool.false_ne_true h
  try cbv
  refine seq_go ?_
  try cbv
  refine splitL (fun e=>?_) (fun e=>?_)
  ·replace h:=ite_t e h
   clear e
   try cbv
   obtain rfl:=Option.some.inj h
   refine fin_go ?_
   try cbv
   exact⟨[],rfl,rfl,trivial,trivial,trivial⟩
  replace h:=ite_f (Int.not_lt.2 e) h
  clear e
  try cbv
  obtain rfl:=Option.some.inj h
  refine fin_go ?_
  try cbv
  exact⟨[],rfl,rfl,trivial,trivial,trivial⟩
 replace h:=ite_t rfl h
 try cbv
 refine seq_go ?_
 try cbv
 refine seq_go ?_
 try cbv
 refine seq_join (T:=Nat×Bool) (fun t=>⟨[(0,.v (.d (.list true 9 l1))),(2,.v (.d (.bool false))),(3,.v (.d (.int .i64 z4))),(4,.v (.d (.int .i64 z5))),(20,.v (.d (.bool t.2)))],[],544⟩) (fun t=>t.1≤m3∧L50_4 t.1 l1 z4 z5 t.2=some r1) ?_ ?_
 ·try cbv
  replace h:=getF_inv h
  obtain⟨x8,hx8,h⟩:=h
  replace h:=ds_t90_inv h
  obtain⟨z9,z10,l11,z12,z13,s14,l15,z16,l17,rfl,h⟩:=h
  refine⟨_,hx8.1,hx8.2,?_⟩
  try cbv
  replace h:=lenF_inv M h
  obtain⟨z18,hz,h⟩:=h
  refine⟨z18,hz,?_⟩
  clear hz
  try cbv
  refine splitL (fun e=>?_) (fun e=>?_)
  ·replace h:=ite_t e h
   clear e
   try cbv
   exact join_next (m3,true) [0,2,3,4,20] [] 544 ⟨by omega,h⟩ (by cbv)
  replace h:=ite_f (Int.not_lt.2 e) h
  clear e
  try cbv
  exact join_next (m3,false) [0,2,3,4,20] [] 544 ⟨by omega,h⟩ (by cbv)
 clear h
 rintro⟨m4,b19⟩ ⟨hm4,h⟩
 replace hm4:m4≤m3:=hm4
 obtain _ | m4:=m4
 ·replace h:L50_4 0 l1 z4 z5 b19=some r1:=h
  rw[L50_4]at h
  cases h
 replace h:L50_4 (m4+1) l1 z4 z5 b19=some r1:=h
 rw[L50_4]at h
 try cbv
 cases b19
 rotate_left
 ·replace h:=ite_t rfl h
  try cbv
  refine seq_go ?_
  try cbv
  obtain rfl:=Option.some.inj h
  refine fin_go ?_
  try cbv
  exact⟨[],rfl,rfl,trivial,trivial,trivial⟩
 replace h:=ite_f Bool.false_ne_true h
 try cbv
 replace h:=getF_inv h
 obtain⟨x20,hx20,h⟩:=h
 replace h:=ds_t90_inv h
 obtain⟨z21,z22,l23,z24,z25,s26,l27,z28,l29,rfl,h⟩:=h
 refine⟨_,hx20.1,hx20.2,?_⟩
 try cbv
 refine⟨false,?_⟩
 try cbv
 refine⟨true,?_⟩
 try cbv
 replace h:=bO1_inv h
 obtain⟨z30,hr,h⟩:=h
 refine call_go rfl rfl ?_
 try cbv
 refine call_pure hM hI (T92 _ hr) rfl ?_
 clear hr
 try cbv
 replace h:=letF_inv h
 obtain⟨z31,hz,h⟩:=h
 refine⟨z31,hz,?_⟩
 clear hz
 try cbv
 exact loop_next (m4,(z30,z31)) [0,2,3,4] [] 192 ⟨by omega,h⟩ (Nat.lt_succ_of_le (by omega)) (by cbv)
end Go.Proofs.Ytiiojajgajnhpaa
end
