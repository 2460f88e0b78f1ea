/- Part of a proof. No condition. (Part 2.) -/
import Derived.ArgAppend
import Derived.Laws.AppendOwn
import Derived.Laws.IdiomCopy
import Derived.Laws.StructEq
import Derived.Laws.BytesString
import Derived.Laws.Externs
import Derived.MapKept
import Derived.Laws.OwnMore
import Derived.Laws.Small
import Derived.Lib.AppendStr
import Derived.Test.YtmggjbjpklecgaaGreatDoorTauA
set_option linter.unusedVariables false
set_option linter.unusedSimpArgs false
namespace Go.AM
open Go Go.RowKit
section
variable {C:Cx}{F:Nat→Prop}{s:Af}{h:Heap}{g:Ac}{a:Act}{w w':World}{Z:Av}
theorem Ap.grow (R:Ap C F s h g a w) (hg:w.grownBy w' none):Ap C F s h g a w':=by
 obtain⟨h1,h2,h3,h4,h5⟩:=hg
 have hblk:∀b,b<w.heap.size→w'.heap[b]?=w.heap[b]?:=fun b hb=>h5 b hb (by simp)
 have hcell:∀b o u,w.cell? ⟨b,o,none⟩=some u→w'.cell? ⟨b,o,none⟩=some u:=fun b o u hu=>
  (World.cell?_of_block (a:=⟨b,o,none⟩) (hblk b (World.block_lt_of_cell? w ⟨b,o,none⟩ hu))).trans hu
 refine R.step (fun _=>False) ⟨fun b o u hu hz=>⟨hcell b o u hu,hz⟩,fun _ _ _=>rfl,fun _ _ _=>rfl,fun _ hi=>hi,fun i k sz e _ hk=>⟨k,Nat.le_refl _,hk,fun _=>rfl⟩,fun _ hi=>hi,fun i _ hk=>⟨hk,rfl⟩⟩
  ⟨h1,h2,h3,h4,fun b hb _=>hblk b hb,fun b o u hu _=>hcell b o u hu⟩ (fun i _=>⟨rfl,rfl⟩) (fun i o b _ hi hb=>hblk b ((R.heap.objs i o hi).lt hb))
  (fun _ _ hf=>hf.elim) (fun _ _ _ _ hf=>hf.elim) (fun _ _ _ _ _ hf=>hf.elim) (fun _ hf=>hf.elim) (fun n hn=>R.free n hn)
theorem Aj.G6 {ag:Bool}{sz:Nat}{rows:List D}{A:Option Addr}{m cap:Nat}(hsz:0<sz) (r:Aj w Z (.list ag sz rows) (.slice A m cap)):
  m=rows.length∧cap≤maxLen∧m≤cap∧(rows≠[]→∃b o,A=some ⟨b,o,none⟩)∧(∀x∈rows,x.fits ag sz)∧∃news:List Value,news.length=rows.length*sz∧(∀u∈news,u.oneCell'=true)∧
   (∀b o,A=some ⟨b,o,none⟩→∀j u,news[j]?=some u→w.cell? ⟨b,o+j,none⟩=some u∧¬Z b (o+j))∧
   ∀(i:Nat) x (j:Nat) c,rows[i]?=some x→x.cells[j]?=some c→∃u,news[i*sz+j]?=some u∧Aj w Z c u:=by
 cases r with
 | list _ _ _ _ _ b o U hcap hmax hfit ha hc hr=>
  refine⟨rfl,hmax,hcap,fun hne=>⟨b,o,ha hne⟩,hfit,(List.range (rows.length*sz)).map (fun k=>U (k / sz) (k % sz)),by simp,?_,?_,?_⟩
  ·intro u hu
   obtain⟨k,hk,rfl⟩:=List.mem_map.1 hu
   have hk:=List.mem_range.1 hk
   have hi:k / sz<rows.length:=Nat.div_lt_of_lt_mul (by rw[Nat.mul_comm];exact hk)
   have hx:rows[k / sz]?=some rows[k / sz]:=List.getElem?_eq_getElem hi
   obtain⟨f1,f2,f3⟩:=hfit _ (List.getElem_mem hi)
   have hj:k % sz<rows[k / sz].cells.length:=by rw[f2];exact Nat.mod_lt _ hsz
   have hcc:=List.getElem?_eq_getElem hj
   exact (hr _ _ _ _ hx hcc).Bw (f3 _ (List.getElem_mem hj))
  ·intro b' o' hA j u hj
   rw[List.getElem?_map]at hj
   obtain⟨k,hk,rfl⟩:=Option.map_eq_some_iff.1 hj
   have hlt:j<rows.length*sz:=by simpa using (List.getElem?_eq_some_iff.1 hk).1
   have hkj:k=j:=by simpa [List.getElem?_range hlt] using hk.symm
   subst hkj
   have hi:k / sz<rows.length:=Nat.div_lt_of_lt_mul (by rw[Nat.mul_comm];exact hlt)
   have hne:rows≠[]:=by rintro rfl;simp at hi
   have hA2:=ha hne
   rw[hA]at hA2
   cases hA2
   have hx:rows[k / sz]?=some rows[k / sz]:=List.getElem?_eq_getElem hi
   obtain⟨f1,f2,f3⟩:=hfit _ (List.getElem_mem hi)
   have hj:k % sz<rows[k / sz].cells.length:=by rw[f2];exact Nat.mod_lt _ hsz
   have:=hc _ _ _ _ hx (List.getElem?_eq_getElem hj)
   rw[show k / sz*sz+k % sz=k from by rw[Nat.mul_comm];exact Nat.div_add_mod k sz]at this
   exact this
  ·intro i x j c hx hj
   obtain⟨f1,f2,f3⟩:=hfit _ (List.mem_of_getElem? hx)
   have hjl:j<sz:=by rw[←f2];exact (List.getElem?_eq_some_iff.1 hj).1
   have hil:=(List.getElem?_eq_some_iff.1 hx).1
   have hlt:i*sz+j<rows.length*sz:=by
    have:(i+1)*sz≤rows.length*sz:=Nat.mul_le_mul_right _ hil
    rw[Nat.add_mul]at this
    omega
   refine⟨U i j,?_,hr i x j c hx hj⟩
   rw[List.getElem?_map,List.getElem?_range hlt]
   have e1:(i*sz+j) / sz=i:=by rw[Nat.mul_comm,Nat.mul_add_div hsz,Nat.div_eq_of_lt hjl,Nat.add_zero]
   have e2:(i*sz+j) % sz=j:=by rw[Nat.mul_comm,Nat.mul_add_mod,Nat.mod_eq_of_lt hjl]
   simp[e1,e2]
theorem GG {e:TypeId}{ag:Bool}{sz:Nat}{out:List D}{zs:List Value}{v:Value}(hsz:0<sz) (hown:w.ownsRow 0 e sz v out.length zs)
  (hfit:∀x∈out,x.fits ag sz) (hZ:∀b,blk v=some b→∀o,o<out.length*sz→¬Z b o)
  (hr:∀(i:Nat) x (j:Nat) c,out[i]?=some x→x.cells[j]?=some c→∃u,zs[i*sz+j]?=some u∧Aj w Z c u):Aj w Z (.list ag sz out) v:=by
 obtain⟨hl,h2⟩:=hown
 rcases h2 with⟨rfl,h0⟩ | ⟨q,cap,cur,rfl,_,hh,hnc,hcm,hcs,htake⟩
 ·have:out=[]:=List.eq_nil_of_length_eq_zero h0
  subst this
  exact E0 ag sz
 ·refine .list ag sz out (some ⟨q,0,none⟩) cap q 0 (fun i j=>zs.getD (i*sz+j) undef) hnc hcm hfit (fun _=>rfl) (fun i x j c hx hj=>?_) (fun i x j c hx hj=>?_)
  ·obtain⟨u,hu,_⟩:=hr i x j c hx hj
   have hlt:=(List.getElem?_eq_some_iff.1 hu).1
   have hg:zs.getD (i*sz+j) undef=u:=by simp[List.getD_eq_getElem?_getD,hu]
   rw[hg]
   refine⟨?_,by rw[Nat.zero_add];exact hZ q rfl _ (by omega)⟩
   have:cur[i*sz+j]?=some u:=by
    rw[←htake,List.getElem?_take]at hu
    split at hu
    ·simpa using hu
    ·cases hu
   simp[World.cell?,hh,this]
  ·obtain⟨u,hu,hru⟩:=hr i x j c hx hj
   simpa [List.getD_eq_getElem?_getD,hu] using hru
theorem LG {ag:Bool}{sz:Nat}{rows ys:List D}{xs news:List Value}(h1:xs.length=rows.length*sz) (hfit:∀x∈ys,x.fits ag sz) (hfit':∀x∈rows,x.fits ag sz)
  (hx:∀(i:Nat) x (j:Nat) c,rows[i]?=some x→x.cells[j]?=some c→∃u,xs[i*sz+j]?=some u∧Aj w Z c u)
  (hy:∀(i:Nat) x (j:Nat) c,ys[i]?=some x→x.cells[j]?=some c→∃u,news[i*sz+j]?=some u∧Aj w Z c u):
  ∀(i:Nat) x (j:Nat) c,(rows++ys)[i]?=some x→x.cells[j]?=some c→∃u,(xs++news)[i*sz+j]?=some u∧Aj w Z c u:=by
 intro i x j c hi hj
 by_cases hl:i<rows.length
 ·rw[List.getElem?_append_left hl]at hi
  obtain⟨u,hu,hr⟩:=hx i x j c hi hj
  exact⟨u,by rw[List.getElem?_append_left (List.getElem?_eq_some_iff.1 hu).1];exact hu,hr⟩
 ·rw[List.getElem?_append_right (by omega)]at hi
  obtain⟨u,hu,hr⟩:=hy _ x j c hi hj
  have hle:rows.length*sz≤i*sz:=Nat.mul_le_mul_right _ (by omega)
  refine⟨u,?_,hr⟩
  rw[List.getElem?_append_right (by omega),←hu]
  congr 1
  rw[h1,Nat.sub_mul]
  omega
theorem GH {ag:Bool}{sz:Nat}{rows ys:List D}(h1:∀x∈rows,x.fits ag sz) (h2:∀x∈ys,x.fits ag sz):∀x∈rows++ys,x.fits ag sz:=by
 intro x hx
 rcases List.mem_append.1 hx with hx | hx
 ·exact h1 x hx
 ·exact h2 x hx
theorem CT {P:Program}{w:World}{t ty e:TypeId}{i:TypeInfo}(ht:P.underlying t=some (.slice e)) (hi:P.info? e=some i) {base A:Option Addr}{n cap c:Nat}(hn:n≤cap):
  (Builtin.append_ #[t,t] ty #[.slice base n cap,.slice A 0 c]).run P w= .ok (.slice base n cap) w:=by
 have hz:((some (TypeDesc.slice e)) matches some (.int _))=false:=rfl
 cases base<;>cases A<;>simp[Builtin.append_,underlying,typeInfo,sizeOf,ht,hi,Builtin.lenOf,hn,Builtin.firstCells,loadCells,loadCellsFrom,storeCells]
theorem Ap.plain (R:Ap C F s h g a w) (hg:w.grownBy w' none) {e:TypeId}{ag:Bool}{sz:Nat}{out:List D}{zs:List Value}{v:Value}(hsz:0<sz) (hown:w'.ownsRow w.heap.size e sz v out.length zs)
  (hfit:∀x∈out,x.fits ag sz) (hr:∀(i:Nat) x (j:Nat) c,out[i]?=some x→x.cells[j]?=some c→∃u,zs[i*sz+j]?=some u∧Aj w (BN (zone g h) C.X) c u):
  Ap C F s h g a w'∧Aj w' (BN (zone g h) C.X) (.list ag sz out) v:=by
 have R':=R.grow hg
 obtain⟨w1,w2,w3,w4,w5⟩:=hg
 have hX:∀b o,C.X b o→b<w.heap.size:=fun b o hx=>Nat.lt_of_lt_of_le (R.xs b o hx) R.frame.size
 refine⟨R',GG hsz (e:=e) (zs:=zs) ?_ hfit ?_ ?_⟩
 ·obtain⟨h1,h2⟩:=hown
  refine⟨h1,?_⟩
  rcases h2 with h2 | ⟨q,cap,cur,h3,_,h4⟩
  ·exact .inl h2
  ·exact .inr ⟨q,cap,cur,h3,Nat.zero_le _,h4⟩
 ·intro b hb o _
  have hge:w.heap.size≤b:=by
   rcases hown.2 with⟨h3,_⟩ | ⟨q,cap,cur,h3,hq,_⟩
   ·rw[h3]at hb;simp[blk]at hb
   ·rw[h3]at hb;simp[blk]at hb;omega
  rintro (hz | hx)
  ·exact absurd (Q5 R.heap hz) (by omega)
  ·exact absurd (hX b o hx) (by omega)
 ·intro i x j c hi hj
  obtain⟨u,hu,hru⟩:=hr i x j c hi hj
  refine⟨u,hu,hru.mono fun b o u hu hz=>⟨?_,hz⟩⟩
  exact (World.cell?_of_block (a:=⟨b,o,none⟩) (w5 b (World.block_lt_of_cell? w ⟨b,o,none⟩ hu) (by simp))).trans hu
theorem Ap.owned (R:Ap C F s h g a w) {n:Nat}(hf:F n) (hg:w.grownBy w' none) {e:TypeId}{ag:Bool}{sz:Nat}{out:List D}{zs:List Value}{v:Value}(hsz:0<sz) (hown:w'.ownsRow w.heap.size e sz v out.length zs)
  (hfit:∀x∈out,x.fits ag sz) (hr:∀(i:Nat) x (j:Nat) c,out[i]?=some x→x.cells[j]?=some c→∃u,zs[i*sz+j]?=some u∧Aj w (BN (zone g h) C.X) c u):
  Ap C (fun k=>F k∧k≠n) s (AX h (.loc n) (.tok out.length sz e)) (Au g (.loc n) v) a w'∧
   BM w' (BN (zone (Au g (.loc n) v) (AX h (.loc n) (.tok out.length sz e))) C.X) (Au g (.loc n) v) (AX h (.loc n) (.tok out.length sz e)) (.lst (.loc n) ag sz out) v:=by
 obtain⟨w1,w2,w3,w4,w5⟩:=hg
 obtain⟨hgn,hhn⟩:=R.free n hf
 have hX:∀b o,C.X b o→b<w.heap.size:=fun b o hx=>Nat.lt_of_lt_of_le (R.xs b o hx) R.frame.size
 have hblk:∀b,b<w.heap.size→w'.heap[b]?=w.heap[b]?:=fun b hb=>w5 b hb (by simp)
 have hcell:∀b o u,w.cell? ⟨b,o,none⟩=some u→w'.cell? ⟨b,o,none⟩=some u:=fun b o u hu=>
  (World.cell?_of_block (a:=⟨b,o,none⟩) (hblk b (World.block_lt_of_cell? w ⟨b,o,none⟩ hu))).trans hu
 have hvb:∀b,blk v=some b→w.heap.size≤b:=by
  intro b hb
  rcases hown.2 with⟨h3,_⟩ | ⟨q,cap,cur,h3,hq,_⟩
  ·rw[h3]at hb;simp[blk]at hb
  ·rw[h3]at hb;simp[blk]at hb;omega
 have hsl:GB v:=by
  rcases hown.2 with⟨h3,_⟩ | ⟨q,cap,cur,h3,hq,_⟩<;>rw[h3]<;>trivial
 have hne:∀{i:Id} {u:Value},g i=u→u≠undef→i≠ .loc n:=by
  rintro i u hv hu rfl
  exact hu (hv▸hgn)
 have now:∀{i:Id},isTu (g i)→i≠ .loc n:=by
  rintro i hi rfl
  rw[hgn]at hi
  exact Be hi
 have hzz:∀b o,BN (zone (Au g (.loc n) v) (AX h (.loc n) (.tok out.length sz e))) C.X b o→BN (zone g h) C.X b o∨(w.heap.size≤b∧blk v=some b∧out.length*sz≤o):=by
  rintro b o (⟨i,ob,hi,h1⟩ | hx)
  ·by_cases hin:i= .loc n
   ·subst hin
    simp[AX,Au]at hi h1
    subst hi
    have h1:Bi v b∧out.length*sz≤o:=h1
    have h2:=h1.1.Rr hsl
    exact .inr ⟨hvb b h2,h2,h1.2⟩
   ·simp only[AX,Au,if_neg hin]at hi h1
    exact .inl (.inl ⟨i,ob,hi,h1⟩)
  ·exact .inl (.inr hx)
 have E:IM w (BN (zone g h) C.X) g h w' (BN (zone (Au g (.loc n) v) (AX h (.loc n) (.tok out.length sz e))) C.X) (Au g (.loc n) v) (AX h (.loc n) (.tok out.length sz e)):=by
  refine⟨fun b o u hu hz=>⟨hcell b o u hu,fun hz'=>?_⟩,fun i b hb=>if_neg (hne hb (by simp[undef])),fun i q hq=>if_neg (hne hq (by simp[undef])),fun i hi=>?_,fun i k sz' e' hi hk=>?_,fun i hi=>by simpa [Au,now hi] using hi,
   fun i hi hk=>⟨by simpa [AX,now hi] using hk,by simp[Au,now hi]⟩⟩
  ·have:=World.block_lt_of_cell? w ⟨b,o,none⟩ hu
   simp at this
   rcases hzz b o hz' with h1 | ⟨h1,_⟩
   ·exact hz h1
   ·omega
  ·have:i≠ .loc n:=by rintro rfl;rw[hgn]at hi;exact hi
   simpa [Au,this] using hi
  ·have:i≠ .loc n:=by rintro rfl;rw[hgn]at hi;exact hi
   exact⟨k,Nat.le_refl _,by simpa [AX,this] using hk,fun _=>by simp[Au,this]⟩
 have hown0:w'.ownsRow 0 e sz v out.length zs:=by
  obtain⟨h1,h2⟩:=hown
  refine⟨h1,?_⟩
  rcases h2 with h2 | ⟨q,cap,cur,h3,_,h4⟩
  ·exact .inl h2
  ·exact .inr ⟨q,cap,cur,h3,Nat.zero_le _,h4⟩
 refine⟨R.step (F':=fun k=>F k∧k≠n) (fun i=>i= .loc n) E ⟨w1,w2,w3,w4,fun b hb _=>hblk b hb,fun b o u hu _=>hcell b o u hu⟩ ?_ ?_ ?_ ?_ ?_ ?_ ?_,?_⟩
 ·intro i hi
  simp[AX,Au,hi]
 ·intro i o b _ hi hb
  exact hblk b ((R.heap.objs i o hi).lt hb)
 ·rintro i o rfl ho
  simp[AX]at ho
  subst ho
  refine⟨hsz,zs,?_⟩
  simpa [Au] using hown0
 ·rintro i o b p rfl ho hb
  simp[AX]at ho
  subst ho
  simp[Au]at hb
  exact .inr (hvb b (hb.G4.blk.Rr hsl))
 ·rintro i j _ _ _ rfl rfl _ _ _ _
  rfl
 ·intro j hj
  exact absurd hj (by simp)
 ·rintro k ⟨hk,hkn⟩
  have:=R.free k hk
  simp[Au,AX,hkn,this]
 ·refine⟨GG hsz hown0 hfit (fun b hb o ho hz=>?_) (fun i x j c hi hj=>?_),by simpa [Au] using hsl,fun k sz' e' hk=>?_⟩
  ·rcases hzz b o hz with (h1 | hx) | ⟨_,_,h1⟩
   ·exact absurd (Q5 R.heap h1) (by have:=hvb b hb;omega)
   ·exact absurd (hX b o hx) (by have:=hvb b hb;omega)
   ·omega
  ·obtain⟨u,hu,hru⟩:=hr i x j c hi hj
   exact⟨u,hu,E.G5 hru⟩
  ·simp[AX]at hk
   obtain⟨rfl,rfl,rfl⟩:=hk
   exact⟨rfl,Nat.le_refl _,fun _=>by simp[Au]⟩
end
end Go.AM
namespace Go.AM
open Go Go.RowKit
section
variable {C:Cx}{F:Nat→Prop}{s:Af}{h:Heap}{g:Ac}{a:Act}{w w':World}
theorem Ap.Od (R:Ap C F s h g a w) {i n sz:Nat}{e:TypeId}{ag:Bool}{out:List D}{zs:List Value}{v:Value}(hsz:0<sz) (hi:h (.loc i)=some (.tok n sz e))
  (hos:w'.os=w.os∧w'.tape=w.tape∧w'.output=w.output∧w.heap.size≤w'.heap.size)
  (hblk:∀b,b<w.heap.size→blk (g (.loc i))≠some b→w'.heap[b]?=w.heap[b]?)
  (hcell:∀b o u,w.cell? ⟨b,o,none⟩=some u→¬(blk (g (.loc i))=some b∧n*sz≤o)→w'.cell? ⟨b,o,none⟩=some u)
  (hown:w'.ownsRow 0 e sz v out.length zs) (hvb:∀b,blk v=some b→blk (g (.loc i))=some b∨w.heap.size≤b) (hlt:n<out.length)
  (hfit:∀x∈out,x.fits ag sz) (hr:∀(j:Nat) x (q:Nat) c,out[j]?=some x→x.cells[q]?=some c→∃u,zs[j*sz+q]?=some u∧Aj w (BN (zone g h) C.X) c u):
  Ap C F s (AX h (.loc i) (.tok out.length sz e)) (Au g (.loc i) v) a w'∧
   BM w' (BN (zone (Au g (.loc i) v) (AX h (.loc i) (.tok out.length sz e))) C.X) (Au g (.loc i) v) (AX h (.loc i) (.tok out.length sz e)) (.lst (.loc i) ag sz out) v:=by
 have hX:∀b o,C.X b o→b<w.heap.size:=fun b o hx=>Nat.lt_of_lt_of_le (R.xs b o hx) R.frame.size
 have hnm:n*sz≤out.length*sz:=Nat.mul_le_mul_right _ (Nat.le_of_lt hlt)
 have hzone:∀b o,blk (g (.loc i))=some b→n*sz≤o→zone g h b o:=fun b o hb ho=>⟨.loc i,_,hi,.inl hb,ho⟩
 have hgsl:GB (g (.loc i)):=by
  obtain⟨_,xs,_,h2⟩:=R.heap.objs _ _ hi
  rcases h2 with⟨h3,_⟩ | ⟨q,cap,cur,h3,_⟩<;>rw[h3]<;>trivial
 have hzz:∀b o,BN (zone (Au g (.loc i) v) (AX h (.loc i) (.tok out.length sz e))) C.X b o→BN (zone g h) C.X b o∨w.heap.size≤b:=by
  rintro b o (⟨j,ob,hj,h1⟩ | hx)
  ·by_cases hin:j= .loc i
   ·subst hin
    simp[AX,Au]at hj h1
    subst hj
    have h1:Bi v b∧out.length*sz≤o:=h1
    rcases hvb b (h1.1.Rr (Ky hown))with h2 | h2
    ·exact .inl (.inl (hzone b o h2 (Nat.le_trans hnm h1.2)))
    ·exact .inr h2
   ·simp only[AX,Au,if_neg hin]at hj h1
    exact .inl (.inl ⟨j,ob,hj,h1⟩)
  ·exact .inl (.inr hx)
 have E:IM w (BN (zone g h) C.X) g h w' (BN (zone (Au g (.loc i) v) (AX h (.loc i) (.tok out.length sz e))) C.X) (Au g (.loc i) v) (AX h (.loc i) (.tok out.length sz e)):=by
  have ne:∀{j:Id} {u:Value},g j=u→¬GB u→j≠ .loc i:=by
   rintro j u hu hs rfl
   exact hs (hu▸hgsl)
  refine⟨fun b o u hu hz=>⟨hcell b o u hu (fun hh=>hz (.inl (hzone b o hh.1 hh.2))),fun hz'=>?_⟩,fun j b hb=>if_neg (ne hb (by simp[GB])),fun j q hq=>if_neg (ne hq (by simp[GB])),fun j hj=>?_,fun j k sz' e' hj hk=>?_,fun j hj=>?_,fun j hj hk=>?_⟩
  ·have:=World.block_lt_of_cell? w ⟨b,o,none⟩ hu
   simp at this
   rcases hzz b o hz' with h1 | h1
   ·exact hz h1
   ·omega
  ·by_cases hin:j= .loc i
   ·subst hin
    simp only[Au,if_true]
    rcases hown.2 with⟨h3,_⟩ | ⟨q,cap,cur,h3,_⟩<;>rw[h3]<;>trivial
   ·simpa [Au,hin] using hj
  ·by_cases hin:j= .loc i
   ·subst hin
    simp[AX]at hk
    obtain⟨rfl,rfl,rfl⟩:=hk
    exact⟨n,Nat.le_of_lt hlt,hi,fun h=>by omega⟩
   ·exact⟨k,Nat.le_refl _,by simpa [AX,hin] using hk,fun _=>by simp[Au,hin]⟩
  ·have hin:j≠ .loc i:=by
    rintro rfl
    exact Dm hgsl hj
   simpa [Au,hin] using hj
  ·have hin:j≠ .loc i:=by
    rintro rfl
    simp[AX,isLive]at hk
   exact⟨by simpa [AX,hin] using hk,by simp[Au,hin]⟩
 have hvblk:GB v:=by
  rcases hown.2 with⟨h3,_⟩ | ⟨q,cap,cur,h3,_⟩<;>rw[h3]<;>trivial
 refine⟨R.step (F':=F) (fun j=>j= .loc i) E ⟨hos.1,hos.2.1,hos.2.2.1,hos.2.2.2,fun b hb hz=>hblk b hb (fun hh=>hz (n*sz) (hzone b _ hh (Nat.le_refl _))),fun b o u hu hz=>hcell b o u hu (fun hh=>hz (hzone b o hh.1 hh.2))⟩ ?_ ?_ ?_ ?_ ?_ ?_ ?_,?_⟩
 ·intro j hj
  simp[AX,Au,hj]
 ·intro j o b hj ho hb
  refine hblk b ((R.heap.objs j o ho).lt hb) (fun hh=>hj (R.heap.sep j (.loc i) o _ b ho hi hb (.inl hh)))
 ·rintro j o rfl ho
  simp[AX]at ho
  subst ho
  refine⟨hsz,zs,?_⟩
  simpa [Au] using hown
 ·rintro j o b p rfl ho hb
  simp[AX]at ho
  subst ho
  simp[Au]at hb
  have hb:Bi v b∧out.length*sz≤p:=hb
  rcases hvb b (hb.1.Rr (Ky hown))with h1 | h1
  ·exact .inl ⟨_,_,rfl,hi,.inl h1,Nat.le_trans hnm hb.2⟩
  ·exact .inr h1
 ·rintro j k _ _ _ rfl rfl _ _ _ _
  rfl
 ·intro j hj
  exact absurd hj (by simp)
 ·intro k hk
  have:=R.free k hk
  have hne:k≠i:=by rintro rfl;rw[this.2]at hi;cases hi
  simp[Au,AX,hne,this]
 ·refine⟨GG hsz hown hfit (fun b hb o ho hz=>?_) (fun j x q c hj hq=>?_),by simpa [Au] using hvblk,fun k sz' e' hk=>?_⟩
  ·-- the cells below the new length are nobody's
   rcases hz with⟨j,ob,hj,h1⟩ | hx
   ·by_cases hin:j= .loc i
    ·subst hin
     simp[AX,Au]at hj h1
     subst hj
     have:=(show Bi v b∧out.length*sz≤o from h1).2
     omega
    ·simp only[AX,Au,if_neg hin]at hj h1
     rcases hvb b hb with h2 | h2
     ·exact hin (R.heap.sep j (.loc i) ob _ b hj hi h1.G4 (.inl h2))
     ·exact absurd ((R.heap.objs j ob hj).lt h1.G4) (by omega)
   ·rcases hvb b hb with h2 | h2
    ·exact R.heap.apart (.loc i) _ b o hi (.inl h2) hx
    ·exact absurd (hX b o hx) (by omega)
  ·obtain⟨u,hu,hru⟩:=hr j x q c hj hq
   exact⟨u,hu,E.G5 hru⟩
  ·simp[AX]at hk
   obtain⟨rfl,rfl,rfl⟩:=hk
   exact⟨rfl,Nat.le_refl _,fun _=>by simp[Au]⟩
theorem SA {h:Heap}{i:Id}{o:AQ}(hi:h i=some o):AX h i o=h:=by
 funext j
 unfold AX
 split
 ·subst_vars;exact hi.symm
 ·rfl
theorem SB {g:Ac}{i:Id}:Au g i (g i)=g:=by
 funext j
 unfold Au
 split
 ·subst_vars;rfl
 ·rfl
end
section
variable {C:Cx}{ti:Types}{o:Oper}{fresh:Nat}{s:Af}{h:Heap}{k:Out→Prop}
theorem CZ (hti:BV C.P ti) {e:TypeId}{j:TI}(hj:ti e=some j):∃i,C.P.info? e=some i∧i.size=j.size∧i.bytes=j.bytes∧i.zero=some j.zero∧j.zero.cells.size=j.size:=by
 obtain⟨_,i,h1,h2,h3,h4,h5,_⟩:=hti e j hj
 exact⟨i,h1,h2,h3,h4,h5⟩
theorem O2 (hti:BV C.P ti) {t ty e:TypeId}{q j:TI}(hq:ti t=some q) (hd:q.desc= .slice e) (hj:ti e=some j) (hsz:0<j.size) {w:World}{Z:Av}{ag:Bool}{rows ys:List D}{A B:Option Addr}{cap m c:Nat}
  (hr:Aj w Z (.list ag j.size rows) (.slice A rows.length cap)) (hcap:cap=rows.length) (hnil:rows=[]→A=none→cap=0) (hy:Aj w Z (.list ag j.size ys) (.slice B m c)) (hne:ys≠[])
  (hmax:rows.length+ys.length≤maxLen) (hbytes:(rows.length+ys.length)*j.bytes≤140737488355328):
  ∃v' w' zs,(Builtin.append_ #[t,t] ty #[.slice A rows.length cap,.slice B m c]).run C.P w= .ok v' w'∧w'.ownsRow w.heap.size e j.size v' (rows++ys).length zs∧w.grownBy w' none∧
   (∀x∈rows++ys,x.fits ag j.size)∧(∀(i:Nat) x (q:Nat) c,(rows++ys)[i]?=some x→x.cells[q]?=some c→∃u,zs[i*j.size+q]?=some u∧Aj w Z c u):=by
 obtain⟨hm,_,_,hB,hfy,news,n1,n2,n3,n4⟩:=hy.G6 hsz
 obtain⟨_,_,_,hA,hfr,olds,o1,o2,o3,o4⟩:=hr.G6 hsz
 obtain⟨i,i1,i2,i3,i4,i5⟩:=CZ hti hj
 have ht:C.P.underlying t=some (.slice e):=by rw[(hti t q hq).1,hd]
 obtain⟨b,o,rfl⟩:=hB hne
 subst hm
 have hl:(rows++ys).length=rows.length+ys.length:=List.length_append
 have fin:∀v' w',w'.ownsRow w.heap.size e j.size v' (rows.length+ys.length) (olds++news)→w.grownBy w' none→(Builtin.append_ #[t,t] ty #[.slice A rows.length cap,.slice (some ⟨b,o,none⟩) ys.length c]).run C.P w= .ok v' w'→
   ∃v' w' zs,(Builtin.append_ #[t,t] ty #[.slice A rows.length cap,.slice (some ⟨b,o,none⟩) ys.length c]).run C.P w= .ok v' w'∧w'.ownsRow w.heap.size e j.size v' (rows++ys).length zs∧w.grownBy w' none∧
   (∀x∈rows++ys,x.fits ag j.size)∧(∀(i:Nat) x (q:Nat) c,(rows++ys)[i]?=some x→x.cells[q]?=some c→∃u,zs[i*j.size+q]?=some u∧Aj w Z c u):=
  fun v' w' h1 h2 h3=>⟨v',w',olds++news,h3,by rw[hl];exact h1,h2,GH hfr hfy,LG o1 hfy hfr o4 n4⟩
 cases A with
 | none=>
  have hr0:rows=[]:=by
   by_cases h:rows=[]
   ·exact h
   ·obtain⟨_,_,h'⟩:=hA h;cases h'
  subst hr0
  have hc0:=hnil rfl rfl
  subst hc0
  have ho:olds=[]:=List.eq_nil_of_length_eq_zero (by simpa using o1)
  subst ho
  obtain⟨v',w',hrun,r1,r2,_⟩:=run_append_own (P:=C.P) w w.heap.size t ty e i j.zero j.size j.bytes ht i1 i4 i2 i3 i5 hsz (.slice none 0 0) 0 [] (World.ownsRow_nil w _ _ _) ⟨b,o,none⟩ ys.length c news n1
   (fun j' u hu=>by have:=(n3 b o rfl j' u hu).1;simpa [Bz] using this) n2 (by simpa using hmax) (by simpa using hbytes) (Nat.le_refl _)
  exact fin v' w' (by simpa using r1) (by simpa [Value.ownBlock] using r2) (by simpa using hrun)
 | some A=>
  by_cases hrn:rows=[]
  ·subst hrn
   have ho:olds=[]:=List.eq_nil_of_length_eq_zero (by simpa using o1)
   subst ho
   obtain⟨v',w',hrun,r1,r2⟩:=run_append_arg_grows (P:=C.P) w t ty e i j.zero j.size j.bytes ht i1 i4 i2 i3 i5 hsz A 0 cap [] (by simp) (by simp) ⟨b,o,none⟩ ys.length c news n1
    (fun j' u hu=>by have:=(n3 b o rfl j' u hu).1;simpa [Bz] using this) (by subst hcap;have:ys.length≠0:=fun h=>hne (List.eq_nil_of_length_eq_zero h);simp;omega) (by simpa using hmax) (by simpa using hbytes)
   exact fin v' w' (by simpa using r1) r2 (by simpa using hrun)
  ·obtain⟨b',o',hA'⟩:=hA hrn
   cases hA'
   obtain⟨v',w',hrun,r1,r2⟩:=run_append_arg_grows (P:=C.P) w t ty e i j.zero j.size j.bytes ht i1 i4 i2 i3 i5 hsz ⟨b',o',none⟩ rows.length cap olds o1 (fun j' u hu=>by have:=(o3 b' o' rfl j' u hu).1;simpa [Bz] using this) ⟨b,o,none⟩ ys.length c news n1
    (fun j' u hu=>by have:=(n3 b o rfl j' u hu).1;simpa [Bz] using this) (by subst hcap;have:ys.length≠0:=fun h=>hne (List.eq_nil_of_length_eq_zero h);omega) hmax hbytes
   exact fin v' w' r1 r2 hrun
theorem O3 {C:Cx}{o:Oper}{fresh:Nat}{s:Af}{h:Heap}{ag:Bool}{sz:Nat}{e:TypeId}{out:List D}(hsz:0<sz)
  (hr:∀F σs σh g a w,Ap C F σs σh g a w→(∀t,Operand.tmp t∈o.op.operands.toList→σs t=s t)→
   ∃v' w' zs,(execOp a.eval o).run C.P w= .ok (.value v') w'∧w'.ownsRow w.heap.size e sz v' out.length zs∧w.grownBy w' none∧
   (∀x∈out,x.fits ag sz)∧(∀(i:Nat) x (q:Nat) c,out[i]?=some x→x.cells[q]?=some c→∃u,zs[i*sz+q]?=some u∧Aj w (BN (zone g σh) C.X) c u)):
  Bm C o fresh s h ⟨.v (.c (.lst (.loc fresh) ag sz out)),[],[(.loc fresh,.tok out.length sz e)]⟩:=by
 rintro F σs σh a w Q ⟨g,R⟩ ho hrd hF hd
 obtain⟨v',w',zs,hrun,r1,r2,r3,r4⟩:=hr F σs σh g a w R ho
 unfold Oper.wp
 rw[hrun]
 obtain⟨R',hl⟩:=R.owned (n:=fresh) (hF 0 (by omega)) r2 hsz r1 r3 r4
 exact⟨_,(R'.put hd (v:=.v (.c (.lst (.loc fresh) ag sz out))) hl).BH (fun n hn=>⟨hn.1,fun e=>hn.2 (by omega)⟩)⟩
theorem Ns {C:Cx}{o:Oper}{fresh:Nat}{s:Af}{h:Heap}{ag:Bool}{sz:Nat}{out:List D}
  (hr:∀F σs σh g a w,Ap C F σs σh g a w→(∀t,Operand.tmp t∈o.op.operands.toList→σs t=s t)→
   ∃v' w',(execOp a.eval o).run C.P w= .ok (.value v') w'∧Ap C F σs σh g a w'∧Aj w' (BN (zone g σh) C.X) (.list ag sz out) v'):
  Bm C o fresh s h ⟨.v (.d (.list ag sz out)),[],[]⟩:=by
 rintro F σs σh a w Q ⟨g,R⟩ ho hrd hF hd
 obtain⟨v',w',hrun,R',hl⟩:=hr F σs σh g a w R ho
 unfold Oper.wp
 rw[hrun]
 exact⟨g,(R'.put hd (v:=.v (.d (.list ag sz out))) hl).BH (fun n hn=>hn.1)⟩
theorem Cq {P:Program}{o:Oper}{a:Act}{x y:Operand}{t:TypeId}{w:World}{r:Result Value}(ho:o.op= .call {callee:=.builtin .append,args:=#[x,y],argTypes:=#[t,t]})
  {v:Value} {w':World} (h:(Builtin.append_ #[t,t] o.type #[a.eval x,a.eval y]).run P w= .ok v w'):(execOp a.eval o).run P w= .ok (.value v) w':=by
 simp[execOp,ho,resolve,invoke,builtin,h]
theorem LH (hti:BV C.P ti) {t e:TypeId}{q j:TI}(hq:ti t=some q) (hd:q.desc= .slice e) (hj:ti e=some j) (hsz:0<j.size) (x y:Operand) (ho:o.op= .call {callee:=.builtin .append,args:=#[x,y],argTypes:=#[t,t]})
  {isNil:Bool} {rows ys:List D}
  (hx:∀{w:World} {Z:Av} {g:Ac} {h:Heap} {v:Value},BG w Z g h (BQ ti s t x) v→(∃A,v= .slice A rows.length rows.length∧(isNil=true→rows=[]∧A=none))∧Aj w Z (.list (Ax j.desc) j.size rows) v)
  (hy:∀{w:World} {Z:Av} {g:Ac} {h:Heap} {v:Value},BG w Z g h (BQ ti s t y) v→Aj w Z (.list (Ax j.desc) j.size ys) v)
  (hk:Kb C.M (Ax j.desc) j.size e j.bytes fresh isNil rows ys k):∃out,k out∧Bm C o fresh s h out:=by
 unfold Kb at hk
 obtain⟨hlk,out,rfl,own,hk⟩:=hk
 obtain⟨hmax,hbytes⟩:=(C.M.lock_iff _).1 hlk
 have ht:C.P.underlying t=some (.slice e):=by rw[(hti t q hq).1,hd]
 obtain⟨i,i1,i2,i3,i4,i5⟩:=CZ hti hj
 have opx:∀{F:Nat→Prop} {σs:Af} {σh:Heap} {g:Ac} {a:Act} {w:World} (R:Ap C F σs σh g a w),(∀t,Operand.tmp t∈o.op.operands.toList→σs t=s t)→BG w (BN (zone g σh) C.X) g σh (BQ ti s t x) (a.eval x):=
  fun R hs=>Ai ti t x R (s:=s) (fun k hk=>hs k (by subst hk;simp[ho,Op.operands,Call.operands]))
 have opy:∀{F:Nat→Prop} {σs:Af} {σh:Heap} {g:Ac} {a:Act} {w:World} (R:Ap C F σs σh g a w),(∀t,Operand.tmp t∈o.op.operands.toList→σs t=s t)→BG w (BN (zone g σh) C.X) g σh (BQ ti s t y) (a.eval y):=
  fun R hs=>Ai ti t y R (s:=s) (fun k hk=>hs k (by subst hk;simp[ho,Op.operands,Call.operands]))
 cases own with
 | true=>
  obtain⟨hne,hk⟩:=hk
  refine⟨_,hk,O3 hsz fun F σs σh g a w R hs=>?_⟩
  obtain⟨⟨A,hv,hnil⟩,hrx⟩:=hx (opx R hs)
  have hry:=hy (opy R hs)
  by_cases hys:ys=[]
  ·-- nil, and nothing
   subst hys
   rcases hne with hni | hni
   ·obtain⟨rfl,rfl⟩:=hnil hni
    generalize hyv:a.eval y=v at hry
    cases hry with
    | list _ _ _ B c b o' U hcap hmx hfit ha hc hr=>
     refine⟨.slice none 0 0,w,[],?_,?_,⟨rfl,rfl,rfl,Nat.le_refl _,fun _ _ _=>rfl⟩,by simp,by simp⟩
     ·refine Cq (r:=.ok (.slice none 0 0) w) ho ?_
      rw[hv,hyv]
      exact CT (P:=C.P) ht i1 (Nat.le_refl _)
     ·exact World.ownsRow_nil w _ _ _
   ·exact absurd rfl hni
  ·generalize hyv:a.eval y=v at hry
   cases hry0:v with
   | slice B m c=>
    subst hry0
    have hrx':=hrx
    rw[hv]at hrx'
    obtain⟨v',w',zs,h1,h2,h3,h4,h5⟩:=O2 hti (ty:=o.type) hq hd hj hsz hrx' rfl (fun h1 h2=>by rw[h1];rfl) hry hys hmax hbytes
    refine⟨v',w',zs,Cq (r:=.ok v' w') ho (by rw[hv,hyv];exact h1),h2,h3,h4,h5⟩
   | _=>subst hry0;cases hry
 | false=>
  refine⟨_,hk,Ns fun F σs σh g a w R hs=>?_⟩
  obtain⟨⟨A,hv,hnil⟩,hrx⟩:=hx (opx R hs)
  have hry:=hy (opy R hs)
  by_cases hys:ys=[]
  ·subst hys
   generalize hyv:a.eval y=v at hry
   cases hry with
   | list _ _ _ B c b o' U hcap hmx hfit ha hc hr=>
    refine⟨a.eval x,w,?_,R,by simpa using hrx⟩
    refine Cq (r:=.ok (a.eval x) w) ho ?_
    rw[hv,hyv]
    exact CT (P:=C.P) ht i1 (Nat.le_refl _)
  ·generalize hyv:a.eval y=v at hry
   cases hry0:v with
   | slice B m c=>
    subst hry0
    have hrx':=hrx
    rw[hv]at hrx'
    obtain⟨v',w',zs,h1,h2,h3,h4,h5⟩:=O2 hti (ty:=o.type) hq hd hj hsz hrx' rfl (fun h1 h2=>by rw[h1];rfl) hry hys hmax hbytes
    obtain⟨r1,r2⟩:=R.plain h3 hsz h2 h4 h5
    exact⟨v',w',Cq (r:=.ok v' w') ho (by rw[hv,hyv];exact h1),r1,r2⟩
   | _=>subst hry0;cases hry
end
end Go.AM
namespace Go.AM
open Go Go.RowKit
section
variable {C:Cx}{ti:Types}{o:Oper}{fresh:Nat}{s:Af}{h:Heap}{k:Out→Prop}
theorem Nt (hti:BV C.P ti) {t e:TypeId}{q j:TI}(hq:ti t=some q) (hd:q.desc= .slice e) (hj:ti e=some j) (hsz:0<j.size) (x y:Operand) (ho:o.op= .call {callee:=.builtin .append,args:=#[x,y],argTypes:=#[t,t]})
  {i:Nat} {rows ys:List D} (hx0:BQ ti s t x= .v (.c (.lst (.loc i) (Ax j.desc) j.size rows))) (hi:h (.loc i)=some (.tok rows.length j.size e))
  (hy:∀{w:World} {Z:Av} {g:Ac} {h:Heap} {v:Value},BG w Z g h (BQ ti s t y) v→Aj w Z (.list (Ax j.desc) j.size ys) v)
  (hmax:rows.length+ys.length≤maxLen) (hbytes:(rows.length+ys.length)*j.bytes≤140737488355328):
  Bm C o fresh s h ⟨.v (.c (.lst (.loc i) (Ax j.desc) j.size (rows++ys))),[.loc i],[(.loc i,.tok (rows++ys).length j.size e)]⟩:=by
 rintro F σs σh a w Q ⟨g,R⟩ hs hrd hF hdst
 have hσi:σh (.loc i)=some (.tok rows.length j.size e):=(hrd _ (by simp)).trans hi
 have hx:=Ai ti t x R (s:=s) (fun k hk=>hs k (by subst hk;simp[ho,Op.operands,Call.operands]))
 rw[hx0]at hx
 obtain⟨hrx,hsl,htok⟩:=hx
 obtain⟨_,_,hv⟩:=htok _ _ _ hσi
 have hv:=hv rfl
 have hry:=hy (Ai ti t y R (s:=s) (fun k hk=>hs k (by subst hk;simp[ho,Op.operands,Call.operands])))
 have ht:C.P.underlying t=some (.slice e):=by rw[(hti t q hq).1,hd]
 obtain⟨ii,i1,i2,i3,i4,i5⟩:=CZ hti hj
 obtain⟨_,xs,hown⟩:=R.heap.objs _ _ hσi
 have hl:(rows++ys).length=rows.length+ys.length:=List.length_append
 -- the end: a run, and what it leaves
 have fin:∀v' w',(Builtin.append_ #[t,t] o.type #[a.eval x,a.eval y]).run C.P w= .ok v' w'→
   (Ap C F σs (AX σh (.loc i) (.tok (rows++ys).length j.size e)) (Au g (.loc i) v') a w'∧
   BM w' (BN (zone (Au g (.loc i) v') (AX σh (.loc i) (.tok (rows++ys).length j.size e))) C.X) (Au g (.loc i) v') (AX σh (.loc i) (.tok (rows++ys).length j.size e)) (.lst (.loc i) (Ax j.desc) j.size (rows++ys)) v')→
   o.wp C.P a w (fun a' w'=>Rel C (fun n=>F n∧¬(fresh≤n∧n<fresh+32)) (DY σs o.dst (.v (.c (.lst (.loc i) (Ax j.desc) j.size (rows++ys))))) (BP σh [(.loc i,.tok (rows++ys).length j.size e)]) a' w') Q:=by
  rintro v' w' hrun ⟨R',hlst⟩
  unfold Oper.wp
  rw[Cq (r:=.ok v' w') ho hrun]
  exact⟨_,(R'.put hdst (v:=.v (.c (.lst (.loc i) (Ax j.desc) j.size (rows++ys)))) hlst).BH (fun n hn=>hn.1)⟩
 generalize hyv:a.eval y=vy at hry fin
 by_cases hys:ys=[]
 ·subst hys
  cases hry with
  | list _ _ _ B c b o' U hcap hmx hfit ha hc hr=>
   obtain⟨hlx,h2⟩:=hown
   have hrun:(Builtin.append_ #[t,t] o.type #[a.eval x,.slice B 0 c]).run C.P w= .ok (g (.loc i)) w:=by
    rw[hv]
    rcases h2 with⟨h3,h4⟩ | ⟨qb,cap,cur,h3,_,h5,h6,_⟩
    ·rw[h3];exact CT (P:=C.P) ht i1 (Nat.le_refl _)
    ·rw[h3];exact CT (P:=C.P) ht i1 h6
   refine fin (g (.loc i)) w hrun ?_
   have e1:AX σh (.loc i) (.tok (rows++[]).length j.size e)=σh:=SA (by simpa using hσi)
   rw[e1,SB]
   refine⟨R,?_⟩
   rw[List.append_nil,←hv]
   exact⟨hrx,hsl,fun n sz' e' hn=>htok n sz' e' hn⟩
 ·cases vy with
  | slice B m c=>
   obtain⟨hm,_,_,hB,hfy,news,n1,n2,n3,n4⟩:=hry.G6 hsz
   obtain⟨bb,oo,rfl⟩:=hB hys
   subst hm
   have hmpos:0<ys.length:=by
    have:ys.length≠0:=fun h=>hys (List.eq_nil_of_length_eq_zero h)
    omega
   have hnews:∀(j':Nat) u,news[j']?=some u→w.cell? ((⟨bb,oo,none⟩:Addr).add j')=some u:=fun j' u hu=>by
    have:=(n3 bb oo rfl j' u hu).1
    simpa [Bz] using this
   generalize hgi:g (.loc i)=gi at hown hv
   rw[hv]at hrx fin
   obtain⟨hlx,h2⟩:=hown
   rcases h2 with⟨rfl,h4⟩ | ⟨qb,cap,cur,rfl,_,h5,h6,h7,h8,h9⟩
   ·-- the list is nil
    have hr0:rows=[]:=List.eq_nil_of_length_eq_zero h4
    subst hr0
    obtain⟨v',w',hrun,r1,r2,_⟩:=run_append_own (P:=C.P) w w.heap.size t o.type e ii j.zero j.size j.bytes ht i1 i4 i2 i3 i5 hsz (.slice none 0 0) 0 [] (World.ownsRow_nil w _ _ _) ⟨bb,oo,none⟩ ys.length c news n1 hnews n2 (by simpa using hmax) (by simpa using hbytes) (Nat.le_refl _)
    obtain⟨g1,g2,g3,g4,g5⟩:=r2
    refine fin v' w' (by simpa using hrun) (R.Od hsz hσi (zs:=news) ⟨g1,g2,g3,g4⟩ (fun b hb _=>g5 b hb (by simp[Value.ownBlock])) (fun b o u hu _=>?_) ?_ (fun b hb=>.inr ?_) (by simp;omega) (by simpa using hfy) (by simpa using n4))
    ·exact (World.cell?_of_block (a:=⟨b,o,none⟩) (g5 b (World.block_lt_of_cell? w ⟨b,o,none⟩ hu) (by simp[Value.ownBlock]))).trans hu
    ·obtain⟨p1,p2⟩:=r1
     refine⟨by simpa using p1,?_⟩
     rcases p2 with p2 | ⟨q',c',cu',p3,_,p4⟩
     ·exact .inl (by simpa using p2)
     ·exact .inr ⟨q',c',cu',by simpa using p3,Nat.zero_le _,by simpa using p4⟩
    ·rcases r1.2 with⟨p3,_⟩ | ⟨q',c',cu',p3,p4,_⟩
     ·rw[p3]at hb;simp[blk]at hb
     ·rw[p3]at hb;simp[blk]at hb;omega
   ·-- a row
    obtain⟨_,_,_,hA,hfr,olds,o1,o2,o3,o4⟩:=hrx.G6 hsz
    have hxs:∀(k:Nat) u,olds[k]?=some u→xs[k]?=some u:=by
     intro k u hu
     have hc:=(o3 qb 0 rfl k u hu).1
     have hk:=(List.getElem?_eq_some_iff.1 hu).1
     rw[o1]at hk
     have:cur[k]?=some u:=by simpa [World.cell?,h5] using hc
     rw[←h9,List.getElem?_take,if_pos hk]
     simpa using this
    have o4':∀(i:Nat) x (q:Nat) c,rows[i]?=some x→x.cells[q]?=some c→∃u,xs[i*j.size+q]?=some u∧Aj w (BN (zone g σh) C.X) c u:=by
     intro i x q c hx hq
     obtain⟨u,hu,hr⟩:=o4 i x q c hx hq
     exact⟨u,hxs _ u hu,hr⟩
    have hrow:=LG hlx hfy hfr o4' n4
    have hfit:=GH hfr hfy
    have hownw:w.ownsRow 0 e j.size (.slice (some ⟨qb,0,none⟩) rows.length cap) rows.length xs:=⟨hlx,.inr ⟨qb,cap,cur,rfl,Nat.zero_le _,h5,h6,h7,h8,h9⟩⟩
    by_cases hroom:rows.length+ys.length≤cap
    ·-- in place
     obtain⟨v',w',hrun,r1,r2,_⟩:=run_append_own (P:=C.P) w 0 t o.type e ii j.zero j.size j.bytes ht i1 i4 i2 i3 i5 hsz _ rows.length xs hownw ⟨bb,oo,none⟩ ys.length c news n1 hnews n2 hmax hbytes (Nat.zero_le _)
     have hrun2:=run_append_room_cells (P:=C.P) w t o.type e ii ht i1 qb 0 rows.length cap ⟨bb,oo,none⟩ ys.length c news (by rw[i2];exact n1) hnews n2 hroom
      (fun k hk=>by
       have hlt:rows.length*ii.size+k<cur.size:=by
        rw[h8,i2]
        rw[n1]at hk
        have:=Nat.mul_le_mul_right j.size hroom
        rw[Nat.add_mul]at this
        omega
       simp[World.cell?,h5,hlt])
      (fun k hk=>by simp[World.frozen?,h5])
     rw[hrun]at hrun2
     obtain⟨rfl,rfl⟩:v'= .slice (some ⟨qb,0,none⟩) (rows.length+ys.length) cap∧w'=w.setCells qb (0+rows.length*ii.size) news:=by
      injection hrun2 with e1 e2
      exact⟨e1,e2⟩
     obtain⟨g1,g2,g3,g4,g5⟩:=r2
     refine fin _ _ hrun (R.Od hsz hσi (zs:=xs++news) ⟨g1,g2,g3,g4⟩ (fun b hb hne=>g5 b hb (by rw[hgi]at hne;simpa [Value.ownBlock,blk,eq_comm] using hne)) (fun b o' u hu hz=>?_) (by rw[hl];exact r1) (fun b hb=>.inl ?_) (by omega) hfit hrow)
     ·have:=World.cell?_setCells_out qb news (0+rows.length*ii.size) w ⟨b,o',none⟩ (fun hb _=>.inl ?_)
      ·rw[this];exact hu
      ·rw[hgi]at hz
       simp only at hb
       subst hb
       rw[i2,Nat.zero_add]
       by_cases hlo:o'<rows.length*j.size
       ·exact hlo
       ·exact absurd ⟨rfl,by omega⟩ hz
     ·rw[hgi];exact hb
    ·-- a new row
     obtain⟨v',w',hrun,r1,r2⟩:=run_append_arg_grows (P:=C.P) w t o.type e ii j.zero j.size j.bytes ht i1 i4 i2 i3 i5 hsz ⟨qb,0,none⟩ rows.length cap xs hlx
      (fun k u hu=>by
       have hk:=(List.getElem?_eq_some_iff.1 hu).1
       rw[←h9,List.getElem?_take]at hu
       split at hu
       ·have hu:cur[k]?=some u:=by simpa using hu
        simp[Bz,World.cell?,h5,hu]
       ·cases hu)
      ⟨bb,oo,none⟩ ys.length c news n1 hnews (by omega) hmax hbytes
     obtain⟨g1,g2,g3,g4,g5⟩:=r2
     refine fin v' w' hrun (R.Od hsz hσi (zs:=xs++news) ⟨g1,g2,g3,g4⟩ (fun b hb _=>g5 b hb (by simp)) (fun b o' u hu _=>?_) ?_ (fun b hb=>.inr ?_) (by omega) hfit hrow)
     ·exact (World.cell?_of_block (a:=⟨b,o',none⟩) (g5 b (World.block_lt_of_cell? w ⟨b,o',none⟩ hu) (by simp))).trans hu
     ·obtain⟨p1,p2⟩:=r1
      rw[hl]
      refine⟨p1,?_⟩
      rcases p2 with p2 | ⟨q',c',cu',p3,_,p4⟩
      ·exact .inl p2
      ·exact .inr ⟨q',c',cu',p3,Nat.zero_le _,p4⟩
     ·rcases r1.2 with⟨p3,_⟩ | ⟨q',c',cu',p3,p4,_⟩
      ·rw[p3]at hb;simp[blk]at hb
      ·rw[p3]at hb;simp[blk]at hb;omega
  | _=>cases hry
theorem SC (hti:BV C.P ti) (t:TypeId) (x y:Operand) (ho:o.op= .call {callee:=.builtin .append,args:=#[x,y],argTypes:=#[t,t]}) (hk:Jk C.M ti t (BQ ti s t x) (BQ ti s t y) fresh h k):∃out,k out∧Bm C o fresh s h out:=by
 unfold Jk at hk
 obtain⟨q,hq,hk⟩:=AZ.1 hk
 split at hk
 ·rename_i e hd
  obtain⟨j,hj,hk⟩:=AZ.1 hk
  replace hk:=AR.1 hk
  obtain⟨hsz,hk⟩:=hk
  have hsz:0<j.size:=by simp[Nat.blt]at hsz;omega
  replace hk:=E2 hk
  obtain⟨ag,sz,ys,hy,hk⟩:=hk
  replace hk:=AR.1 hk
  obtain⟨hag,hk⟩:=hk
  replace hk:=AR.1 hk
  obtain⟨hs2,hk⟩:=hk
  have hag:Ax j.desc=ag:=by simpa using hag
  have hs2:sz=j.size:=Nat.eq_of_beq_eq_true hs2
  subst hag
  subst hs2
  split at hk
  ·rename_i ag' sz' hop
   refine LH hti hq hd hj hsz x y ho (fun r=>?_) hy hk
   rw[hop]at r
   rw[show _=_ from r]
   exact⟨⟨none,rfl,fun _=>⟨rfl,rfl⟩⟩,E0 _ _⟩
  ·rename_i ag' sz' rows hop
   replace hk:=AR.1 hk
   obtain⟨ha',hk⟩:=hk
   replace hk:=AR.1 hk
   obtain⟨hs',hk⟩:=hk
   have ha':Ax j.desc=ag':=by simpa using ha'
   have hs':sz'=j.size:=Nat.eq_of_beq_eq_true hs'
   subst ha'
   subst hs'
   refine LH hti hq hd hj hsz x y ho (fun r=>?_) hy hk
   rw[hop]at r
   obtain⟨r1,A,r2⟩:=r
   exact⟨⟨A,r2,fun h=>by cases h⟩,r1⟩
  ·rename_i i ag' sz' rows hop
   replace hk:=AR.1 hk
   obtain⟨ha',hk⟩:=hk
   replace hk:=AR.1 hk
   obtain⟨hs',hk⟩:=hk
   have ha':Ax j.desc=ag':=by simpa using ha'
   have hs':sz'=j.size:=Nat.eq_of_beq_eq_true hs'
   subst ha'
   subst hs'
   split at hk
   ·rename_i n sz2 e2 hi
    replace hk:=AR.1 hk
    obtain⟨h1,hk⟩:=hk
    replace hk:=AR.1 hk
    obtain⟨h2,rfl,hlk,out,rfl,hk⟩:=hk
    obtain⟨h3,h4⟩:=(C.M.lock_iff _).1 hlk
    have h1:=Nat.eq_of_beq_eq_true h1
    have h2:=Nat.eq_of_beq_eq_true h2
    subst h1
    subst h2
    exact⟨_,hk,Nt hti hq hd hj hsz x y ho hop hi hy h3 h4⟩
   ·exact hk.elim
  ·exact hk.elim
 ·exact hk.elim
end
end Go.AM
namespace Go.AM
open Go Go.RowKit
theorem Jr {P:Program}(w:World) (t ty e e0:TypeId) (i:TypeInfo) (ht:P.underlying t=some (.slice e)) (hi:P.info? e=some i)
  (g sLen sCap:Nat) (cur:Array Value) (hg:w.heap[g]?=some (.cells cur e0 (0,0)))
  (a:Addr) (m c:Nat) (news:List Value) (hl:news.length=m*i.size) (hnews:∀(j:Nat) u,news[j]?=some u→w.cell? (a.add j)=some u) (h1:∀u∈news,u.oneCell'=true)
  (hroom:sLen+m≤sCap) (hfit:sLen*i.size+news.length≤cur.size):
  (Builtin.append_ #[t,t] ty #[.slice (some ⟨g,0,none⟩) sLen sCap,.slice (some a) m c]).run P w=
   .ok (.slice (some ⟨g,0,none⟩) (sLen+m) sCap) (w.setRow g (cur.toList.take (sLen*i.size)++news++cur.toList.drop (sLen*i.size+news.length)).toArray):=by
 have hf:=run_firstCells_some (P:=P) w i.size m a m c news hl hnews
 have hst:=run_storeCells_at P g (sLen*i.size) e0 news 0 cur w hg (by simpa using hfit) h1
 simp only[Nat.add_zero]at hst
 simp[Builtin.append_,run_underlying ht,sizeOf,typeInfo,hi,Builtin.lenOf,hroom,hf,Addr.add_lit,hst]
theorem LI {P:Program}{ti:Types}(hti:BV P ti) {t ty e:TypeId}{q j:TI}(hq:ti t=some q) (hd:q.desc= .slice e) (hj:ti e=some j) (hsz:0<j.size) {w:World}{v:Value}{n:Nat}{xs:List Value}
  (hx:Holds w .row j.size v n xs) {B:Option Addr} {m c:Nat} {news:List Value} (n1:news.length=m*j.size)
  (hB:0<m→∃bb oo,B=some ⟨bb,oo,none⟩∧∀(k:Nat) u,news[k]?=some u→w.cell? ⟨bb,oo+k,none⟩=some u) (n2:∀u∈news,u.oneCell'=true)
  (hmax:n+m≤maxLen) (hbytes:(n+m)*j.bytes≤140737488355328):
  ∃v' w',(Builtin.append_ #[t,t] ty #[v,.slice B m c]).run P w= .ok v' w'∧Holds w' .row j.size v' (n+m) (xs++news)∧(w'.os=w.os∧w'.tape=w.tape∧w'.output=w.output∧w.heap.size≤w'.heap.size)∧
   (∀b,b<w.heap.size→blk v≠some b→w'.heap[b]?=w.heap[b]?)∧(∀b,blk v'=some b→blk v=some b∨w.heap.size≤b):=by
 obtain⟨_,ii,i1,i2,i3,i4,i5,_⟩:=hti e j hj
 have i4':=i4
 have ht:P.underlying t=some (.slice e):=by rw[(hti t q hq).1,hd]
 by_cases hm:m=0
 ·subst hm
  have hn:news=[]:=List.eq_nil_of_length_eq_zero (by simpa using n1)
  subst hn
  obtain⟨A,cap,hv,hcap,_⟩:=hx.row
  subst hv
  exact⟨_,w,CT (P:=P) ht i1 hcap,by simpa using hx,⟨rfl,rfl,rfl,Nat.le_refl _⟩,fun _ _ _=>rfl,fun _ h=>.inl h⟩
 ·obtain⟨bb,oo,rfl,hnews⟩:=hB (by omega)
  have hnews':∀(k:Nat) u,news[k]?=some u→w.cell? ((⟨bb,oo,none⟩:Addr).add k)=some u:=fun k u hu=>by rw[Bz];exact hnews k u hu
  obtain⟨e0,hx1,hx2⟩:=hx
  have big:∀{v':Value} {w':World},w'.ownsRow w.heap.size e j.size v' (n+m) (xs++news)→Holds w' .row j.size v' (n+m) (xs++news)∧(∀b,blk v'=some b→blk v=some b∨w.heap.size≤b):=by
   rintro v' w' ⟨p1,p2⟩
   rcases p2 with⟨p3,p4⟩ | ⟨qb,cap,cur,p3,p4,p5⟩
   ·exact⟨⟨e,p1,.inl ⟨p3,p4⟩⟩,fun b hb=>by rw[p3]at hb;simp[blk]at hb⟩
   ·exact⟨⟨e,p1,.inr ⟨qb,cap,cur,p3,Nat.zero_le _,p5⟩⟩,fun b hb=>by rw[p3]at hb;simp[blk]at hb;exact .inr (by omega)⟩
  rcases hx2 with⟨rfl,h4⟩ | ⟨qb,cap,cur,rfl,_,h5,h6,h7,h8,h9⟩
  ·subst h4
   have hx0:xs=[]:=List.eq_nil_of_length_eq_zero (by simpa using hx1)
   subst hx0
   obtain⟨v',w',hrun,r1,r2,_⟩:=run_append_own (P:=P) w w.heap.size t ty e ii j.zero j.size j.bytes ht i1 i4 i2 i3 i5 hsz (.slice none 0 0) 0 [] (World.ownsRow_nil w _ _ _) ⟨bb,oo,none⟩ m c news n1 hnews' n2 hmax hbytes (Nat.le_refl _)
   obtain⟨g1,g2,g3,g4,g5⟩:=r2
   obtain⟨b1,b2⟩:=big r1
   exact⟨v',w',hrun,b1,⟨g1,g2,g3,g4⟩,fun b hb _=>g5 b hb (by simp[Value.ownBlock]),b2⟩
  ·by_cases hroom:n+m≤cap
   ·have hle:=Nat.mul_le_mul_right j.size hroom
    rw[Nat.add_mul]at hle
    have hrun:=Jr (P:=P) w t ty e e0 ii ht i1 qb n cap cur h5 ⟨bb,oo,none⟩ m c news (by rw[i2];exact n1) hnews' n2 hroom (by rw[i2,h8,n1];exact hle)
    refine⟨_,_,hrun,⟨e0,?_,.inr ⟨qb,cap,_,rfl,Nat.zero_le _,setRow_heap w qb cur _ e0 _ h5,hroom,h7,?_,?_⟩⟩,⟨rfl,rfl,rfl,by simp⟩,fun b _ hb=>setRow_other w qb b _ (fun e=>hb (by rw[e];rfl)),fun b hb=>.inl hb⟩
    ·rw[List.length_append,hx1,n1,Nat.add_mul]
    ·simp only[List.size_toArray,List.length_append,List.length_take,List.length_drop,Array.length_toList]
     rw[i2,n1]
     omega
    ·have e1:(xs++news).length=(n+m)*j.size:=by rw[List.length_append,hx1,n1,Nat.add_mul]
     rw[i2,h9,←e1]
     exact List.take_left
   ·obtain⟨v',w',hrun,r1,r2⟩:=run_append_arg_grows (P:=P) w t ty e ii j.zero j.size j.bytes ht i1 i4 i2 i3 i5 hsz ⟨qb,0,none⟩ n cap xs hx1
     (fun k u hu=>by
      have hk:=(List.getElem?_eq_some_iff.1 hu).1
      rw[←h9,List.getElem?_take]at hu
      split at hu
      ·have hu:cur[k]?=some u:=by simpa using hu
       simp[Bz,World.cell?,h5,hu]
      ·cases hu)
     ⟨bb,oo,none⟩ m c news n1 hnews' (by omega) hmax hbytes
    obtain⟨g1,g2,g3,g4,g5⟩:=r2
    obtain⟨b1,b2⟩:=big r1
    exact⟨v',w',hrun,b1,⟨g1,g2,g3,g4⟩,fun b hb _=>g5 b hb (by simp),b2⟩
end Go.AM
namespace Go.AM
open Go Go.RowKit
structure Dv (w:World) (ag:Bool) (sz:Nat) (rows:List D) (xs:List Value) (T:Nat→Nat→Nat→Prop) (S:Nat→Prop):Prop where
 fits:∀r∈rows,r.fits ag sz
 len:xs.length=rows.length*sz
 cell:∀(i:Nat) r (j:Nat) c,rows[i]?=some r→r.cells[j]?=some c→∃u,xs[i*sz+j]?=some u∧B9 w c u (T i j)
 bound:∀i j b,T i j b→∃r c,rows[i]?=some r∧r.cells[j]?=some c
 inj:∀i j i' j' b,T i j b→T i' j' b→i=i'∧j=j'
 sub:∀i j b,T i j b→S b
theorem Dv.nil (w:World) (ag:Bool) (sz:Nat):Dv w ag sz [] [] (fun _ _ _=>False) (fun _=>False):=
 ⟨by simp,by simp,by simp,by simp,by simp,by simp⟩
theorem Dv.append {w:World}{ag:Bool}{sz:Nat}{rows ys:List D}{xs zs:List Value}{T T':Nat→Nat→Nat→Prop}{S S':Nat→Prop}(h:Dv w ag sz rows xs T S) (h':Dv w ag sz ys zs T' S') (hd:∀b,S b→S' b→False):
  Dv w ag sz (rows++ys) (xs++zs) (fun i j b=>if i<rows.length then T i j b else T' (i - rows.length) j b) (fun b=>S b∨S' b):=by
 refine⟨GH h.fits h'.fits,by rw[List.length_append,List.length_append,h.len,h'.len,Nat.add_mul],fun i r j c hi hj=>?_,fun i j b hb=>?_,fun i j i' j' b hb hb'=>?_,fun i j b hb=>?_⟩
 ·by_cases hl:i<rows.length
  ·rw[List.getElem?_append_left hl]at hi
   obtain⟨u,hu,hr⟩:=h.cell i r j c hi hj
   refine⟨u,by rw[List.getElem?_append_left (List.getElem?_eq_some_iff.1 hu).1];exact hu,?_⟩
   simp only[hl,if_true]
   exact hr
  ·rw[List.getElem?_append_right (by omega)]at hi
   obtain⟨u,hu,hr⟩:=h'.cell _ r j c hi hj
   have hle:rows.length*sz≤i*sz:=Nat.mul_le_mul_right _ (by omega)
   refine⟨u,?_,?_⟩
   ·rw[List.getElem?_append_right (by rw[h.len];omega),←hu]
    congr 1
    rw[h.len,Nat.sub_mul]
    omega
   ·simp only[hl,if_false]
    exact hr
 ·skip
  split at hb
  ·rename_i hl
   obtain⟨r,c,h1,h2⟩:=h.bound i j b hb
   exact⟨r,c,by rw[List.getElem?_append_left hl];exact h1,h2⟩
  ·rename_i hl
   obtain⟨r,c,h1,h2⟩:=h'.bound _ j b hb
   exact⟨r,c,by rw[List.getElem?_append_right (by omega)];exact h1,h2⟩
 ·skip
  split at hb<;>split at hb'
  ·exact h.inj _ _ _ _ b hb hb'
  ·exact (hd b (h.sub _ _ b hb) (h'.sub _ _ b hb')).elim
  ·exact (hd b (h.sub _ _ b hb') (h'.sub _ _ b hb)).elim
  ·obtain⟨e1,e2⟩:=h'.inj _ _ _ _ b hb hb'
   exact⟨by omega,e2⟩
 ·skip
  split at hb
  ·exact .inl (h.sub _ _ b hb)
  ·exact .inr (h'.sub _ _ b hb)
theorem Dv.same {w w':World}{ag:Bool}{sz:Nat}{rows:List D}{xs:List Value}{T:Nat→Nat→Nat→Prop}{S:Nat→Prop}(h:Dv w ag sz rows xs T S) (hb:∀b,S b→w'.heap[b]?=w.heap[b]?):Dv w' ag sz rows xs T S:=
 {h with cell:=fun i r j c hi hj=>let ⟨u,hu,hr⟩:=h.cell i r j c hi hj;⟨u,hu,hr.same fun b hb'=>hb b (h.sub i j b hb')⟩}
section
variable {C:Cx}{F:Nat→Prop}{s:Af}{h:Heap}{g:Ac}{a:Act}{w:World}
theorem Dv.Vr {X:Av}(R:Db w X g h) {i:Id}{kd:Kd}{ag:Bool}{sz:Nat}{rows:List D}(hi:h i=some (.tree kd ag sz rows none)) (hkf:kd.Jf=false:=by rfl):
  ∃xs T,Holds w kd sz (gval (g i)) rows.length xs∧Dv w ag sz rows xs T (fun b=>Bi (g i) b)∧(∀i' j b,T i' j b→blk (gval (g i))≠some b)∧(∀b,blk (gval (g i))=some b→Bi (g i) b)∧0<sz:=by
 obtain⟨ht,h0,hf,xs,hx,_,U,T,h1,h2,h3,h4,h5⟩:=R.objs i _ hi
 refine⟨xs,T,hx,⟨hf,hx.len,fun i r j c hr hj=>⟨_,(h1 i r j c (fun _ _ h=>by cases h) hr hj).1,(C0.own hkf).1 (h1 i r j c (fun _ _ h=>by cases h) hr hj).2⟩,fun i j b hb=>(h2 i j b hb).2,h4,fun i j b hb=>(h5 b).2 (.inr ⟨i,j,hb⟩)⟩,h3,fun b hb=>(h5 b).2 (.inl hb),h0⟩
theorem Dv.of_closed {X Z:Av}(R:Db w X g h) {ag:Bool}{sz n:Nat}{cs:List CV}{ds:List D}{iss:List (List Id)}{vs:List Value}(hsz:0<sz) (hag:ag=false→sz=1) (hn:cs.length=n*sz)
  (hds:ds.length=cs.length) (his:iss.length=cs.length) (hvs:vs.length=cs.length) (hnd:iss.flatten.Nodup)
  (hc:∀(q:Nat) c d is,cs[q]?=some c→ds[q]?=some d→iss[q]?=some is→Bj h c d is) (hr:∀(q:Nat) c u,cs[q]?=some c→vs[q]?=some u→BM w Z g h c u):
  Dv w ag sz (rowsOf ag sz n ds) vs (fun i j b=>i<n∧j<sz∧∃is,iss[i*sz+j]?=some is∧∃x∈is,Bi (g x) b) (fun b=>∃x∈iss.flatten,Bi (g x) b):=by
 have bound:∀i j,i<n→j<sz→i*sz+j<cs.length:=by
  intro i j hi hj
  rw[hn]
  have:=Nat.mul_le_mul_right sz (show i+1≤n from hi)
  rw[Nat.add_mul]at this
  omega
 have own:∀q,q<cs.length→∃d is u,ds[q]?=some d∧iss[q]?=some is∧vs[q]?=some u∧B9 w d u (fun b=>∃x∈is,Bi (g x) b):=by
  intro q hq
  have p1:cs[q]?=some cs[q]:=by simp
  have p2:ds[q]?=some (ds[q]'(by omega)):=List.getElem?_eq_getElem (by omega)
  have p3:iss[q]?=some (iss[q]'(by omega)):=List.getElem?_eq_getElem (by omega)
  have p4:vs[q]?=some (vs[q]'(by omega)):=List.getElem?_eq_getElem (by omega)
  exact⟨_,_,_,p2,p3,p4,(hc q _ _ _ p1 p2 p3).rel R ((List.sublist_flatten_of_mem (List.mem_of_getElem? p3)).nodup hnd) (hr q _ _ p1 p4)⟩
 have hda:∀d∈ds,d.isAgg=false:=by
  intro d hd
  obtain⟨q,hq⟩:=List.mem_iff_getElem?.1 hd
  obtain⟨d',_,_,e1,_,_,ho⟩:=own q (by rw[←hds];exact (List.getElem?_eq_some_iff.1 hq).1)
  rw[hq]at e1
  cases e1
  exact ho.isAgg
 have row:∀i,i<n→(rowOf ag ((ds.drop (i*sz)).take sz)).cells=(ds.drop (i*sz)).take sz∧(rowOf ag ((ds.drop (i*sz)).take sz)).isAgg=ag:=by
  intro i hi
  refine J8 (fun d hd=>hda d (List.mem_of_mem_drop (List.mem_of_mem_take hd))) (fun e=>?_)
  have:=bound i (sz - 1) hi (by omega)
  have:=hag e
  simp
  omega
 refine⟨fun r hr'=>?_,by rw[hvs,hn,Hw],fun i r j c hi hj=>?_,fun i j b hb=>?_,fun i j i' j' b hb hb'=>?_,fun i j b hb=>?_⟩
 ·obtain⟨i,hi⟩:=List.mem_iff_getElem?.1 hr'
  obtain⟨hlt,rfl⟩:=FJ hi
  obtain⟨r1,r2⟩:=row i hlt
  have:=bound i (sz - 1) hlt (by omega)
  exact⟨r2,by rw[r1];simp;omega,by rw[r1];exact fun d hd=>hda d (List.mem_of_mem_drop (List.mem_of_mem_take hd))⟩
 ·obtain⟨hlt,rfl⟩:=FJ hi
  rw[(row i hlt).1,List.getElem?_take]at hj
  split at hj
  ·rename_i hjs
   rw[List.getElem?_drop]at hj
   obtain⟨d,is,u,e1,e2,e3,ho⟩:=own (i*sz+j) (bound i j hlt hjs)
   rw[hj]at e1
   cases e1
   refine⟨u,e3,ho.congr fun b=>⟨fun hx=>⟨hlt,hjs,is,e2,hx⟩,fun⟨_,_,is',h2,hx⟩=>?_⟩⟩
   rw[e2]at h2
   cases h2
   exact hx
  ·cases hj
 ·obtain⟨hi,hj,is,e2,_⟩:=hb
  have hlt:=bound i j hi hj
  refine⟨_,ds[i*sz+j]'(by omega),by simp[rowsOf,hi];rfl,?_⟩
  rw[(row i hi).1,List.getElem?_take,if_pos hj,List.getElem?_drop]
  simp
 ·obtain⟨hi,hj,is,e2,x,hx,hb⟩:=hb
  obtain⟨hi',hj',is',e2',x',hx',hb'⟩:=hb'
  have wh:∀{q:Nat} {is:List Id} {x:Id},iss[q]?=some is→x∈is→∃ob,h x=some ob∧Cd ob:=by
   intro q is x hq hx
   have hlt:=(List.getElem?_eq_some_iff.1 hq).1
   exact (hc q (cs[q]'(by omega)) (ds[q]'(by omega)) is (List.getElem?_eq_getElem (by omega)) (List.getElem?_eq_getElem (by omega)) hq).whole x hx
  obtain⟨ob,o1,o2⟩:=wh e2 hx
  obtain⟨ob',o1',o2'⟩:=wh e2' hx'
  have:=R.sep x x' ob ob' b o1 o1' (o2.G4 hb) (o2'.G4 hb')
  subst this
  have hq:=LA hnd e2 e2' hx hx'
  have e:i=i':=by
   rcases Nat.lt_trichotomy i i' with hl | hl | hl
   ·have:=Nat.mul_le_mul_right sz (show i+1≤i' from hl)
    rw[Nat.add_mul]at this
    omega
   ·exact hl
   ·have:=Nat.mul_le_mul_right sz (show i'+1≤i from hl)
    rw[Nat.add_mul]at this
    omega
  subst e
  exact⟨rfl,by omega⟩
 ·obtain⟨_,_,is,e2,x,hx,hb⟩:=hb
  exact⟨x,List.mem_flatten.2 ⟨is,List.mem_of_getElem? e2,hx⟩,hb⟩
theorem Ap.Qw (R:Ap C F s h g a w) {T0:List Id}(hT:∀i∈T0,∃ob,h i=some ob∧Cd ob) {n:Nat}(hf:F n) {w':World}
  (hos:w'.os=w.os∧w'.tape=w.tape∧w'.output=w.output∧w.heap.size≤w'.heap.size)
  (hblk:∀b,b<w.heap.size→(∀i∈T0,¬Bi (g i) b)→w'.heap[b]?=w.heap[b]?)
  {kd:Kd} {ag:Bool} {sz:Nat} {out:List D} {v:Value} {zs:List Value} {T:Nat→Nat→Nat→Prop} {S:Nat→Prop} (hsz:0<sz) (hx:Holds w' kd sz v out.length zs) (ho:Dv w' ag sz out zs T S)
  (hS:∀b,S b→∃i∈T0,Bi (g i) b) (hv:∀b,blk v=some b→(∃i∈T0,Bi (g i) b)∨w.heap.size≤b) (hdis:∀i j b,T i j b→blk v≠some b) (hkf:kd.Jf=false:=by rfl):
  ∃g',Ap C (fun k=>F k∧k≠n) s (AX (BP h (BO T0)) (.loc n) (.tree kd ag sz out none)) g' a w'∧
   BM w' (BN (zone g' (AX (BP h (BO T0)) (.loc n) (.tree kd ag sz out none))) C.X) g' (AX (BP h (BO T0)) (.loc n) (.tree kd ag sz out none)) (.ow (.loc n)) v:=by
 obtain⟨l,hl⟩:=Bi.Qv (g:=g) T0
 refine R.Rs hT hf hos hblk (fun b=>blk v=some b∨∃i j,T i j b) ((blk v).toList++l) (fun b hb=>?_) (fun b hb=>?_) hx.Bw (fun Z' g' h' gv gt gg gb _=>?_)
 ·rcases hb with hb | ⟨i,j,hb⟩
  ·exact List.mem_append.2 (.inl (by simp[hb]))
  ·obtain⟨x,hx1,hx2⟩:=hS b (ho.sub i j b hb)
   exact List.mem_append.2 (.inr (hl x hx1 b hx2))
 ·rcases hb with hb | ⟨i,j,hb⟩
  ·exact hv b hb
  ·exact .inl (hS b (ho.sub i j b hb))
 ·subst gg
  let U:Nat→Nat→Value:=fun i j=>zs.getD (i*sz+j) undef
  refine⟨gt,hsz,ho.fits,zs,hx,(fun _ _ h=>by cases h),U,T,fun i r j c _ hr hj=>?_,fun i j b hb=>⟨fun _ _ h=>(by cases h),ho.bound i j b hb⟩,hdis,ho.inj,gb⟩
  obtain⟨u,hu,hrel⟩:=ho.cell i r j c hr hj
  have e1:U i j=u:=by simp[U,hu]
  rw[e1]
  exact⟨hu,(C0.own hkf).2 hrel⟩
end
end Go.AM
namespace Go.AM
open Go Go.RowKit
def GI (ds:List D):List CV:=(ds.flatMap D.cells).map CV.d
theorem SD {ds:List D}{sz:Nat}(h:∀d∈ds,d.cells.length=sz):(GI ds).length=ds.length*sz:=by
 unfold GI
 rw[List.length_map]
 induction ds with
 | nil=>simp
 | cons d ds ih=>simp[h d (by simp),ih (fun x hx=>h x (by simp[hx])),Nat.add_mul];omega
theorem NC {ds:List D}{sz:Nat}(h:∀d∈ds,d.cells.length=sz):∀(i:Nat) x (j:Nat) c,ds[i]?=some x→x.cells[j]?=some c→(GI ds)[i*sz+j]?=some (.d c):=by
 induction ds with
 | nil=>intro i x j c hx;simp at hx
 | cons d ds ih=>
  intro i x j c hx hj
  have hd:=h d (by simp)
  match i with
  | 0=>
   simp at hx
   subst hx
   have hlt:=(List.getElem?_eq_some_iff.1 hj).1
   simp only[GI,List.flatMap_cons,List.map_append,Nat.zero_mul,Nat.zero_add]
   rw[List.getElem?_append_left (by simpa using hlt)]
   simp[hj]
  | i+1=>
   simp at hx
   simp only[GI,List.flatMap_cons,List.map_append]
   rw[List.getElem?_append_right (by simp[hd,Nat.add_mul];omega)]
   have:=ih (fun x hx=>h x (by simp[hx])) i x j c hx hj
   rw[←this]
   simp only[GI,List.length_map,hd]
   congr 1
   rw[Nat.add_mul]
   omega
theorem O4 {ti:Types}{s:Af}{e:TypeId}{ag:Bool}{sz:Nat}{k:List D→Prop}:
  ∀(L:List (Nat×Operand)) (n:Nat) (k:List D→Prop),Q4 ti s e ag sz n L k→∃ds,k ds∧ds.length=L.length∧(∀d∈ds,d.isAgg=ag∧d.cells.length=sz)∧
   ∀(w:World) (Z:Av) (g:Ac) (h:Heap) (ev:Operand→Value),(∀t i p,(i,p)∈L→BG w Z g h (BQ ti s t p) (ev p))→
    (∀(i:Nat) d,ds[i]?=some d→∃v,Aj w Z d v)∧
    ∀(cs:List CV) (vs:Array Value),EX w Z g h cs vs→(n+L.length)*sz≤cs.length→
    ∃vs',Instr.fill (fun i=>some (i*sz,sz)) vs (L.map fun x=>(x.1,ev x.2))=some vs'∧EX w Z g h (cs.take (n*sz)++GI ds++cs.drop ((n+L.length)*sz)) vs'
 | [],n,k,hk=>⟨[],hk,rfl,by simp,fun w Z g h ev _=>⟨by simp,fun cs vs hc _=>⟨vs,rfl,by simpa [GI] using hc⟩⟩⟩
 | (i,x)::L,n,k,hk=>by
  unfold Q4 at hk
  replace hk:=AR.1 hk
  obtain⟨hin,hk⟩:=hk
  have hin:=Nat.eq_of_beq_eq_true hin
  subst hin
  split at hk
  ·rename_i y hy
   split at hk
   ·rename_i d hd
    replace hk:=AR.1 hk
    obtain⟨hag,hk⟩:=hk
    replace hk:=AR.1 hk
    obtain⟨hsz,hk⟩:=hk
    have hag:d.isAgg=ag:=by simpa using hag
    have hsz:=Nat.eq_of_beq_eq_true hsz
    obtain⟨ds,k1,k2,k3,k4⟩:=O4 (k:=k) L (i+1) _ hk
    refine⟨d::ds,k1,by simp[k2],?_,fun w Z g h ev hev=>?_⟩
    ·intro x hx
     rcases List.mem_cons.1 hx with rfl | hx
     ·exact⟨hag,hsz⟩
     ·exact k3 x hx
    ·have hr:=hev e i x (by simp)
     rw[hy]at hr
     have hr:=BE.norm hr
     rw[hd]at hr
     obtain⟨k5,k6⟩:=k4 w Z g h ev (fun t i' p hp=>hev t i' p (List.mem_cons_of_mem _ hp))
     refine⟨fun q d' hq=>?_,fun cs vs hc hb=>?_⟩
     ·match q with
      | 0=>simp at hq;subst hq;exact⟨_,hr⟩
      | q+1=>exact k5 q d' (by simpa using hq)
     ·obtain⟨c1,c2⟩:=BE.cells hr
      have hcl:(V1.cells (.d d)).length=sz:=by simpa [V1.cells] using hsz
      have hb':i*sz+sz≤cs.length:=by
       simp[Nat.add_mul]at hb
       omega
      have step:=Ke (off:=i*sz) hc ⟨c1,c2⟩ (by rw[hcl];exact hb')
      rw[hcl]at step
      obtain⟨vs',h1,h2⟩:=k6 _ _ step (by
       simp[hsz,V1.cells,Nat.add_mul]at hb ⊢
       omega)
      refine⟨vs',?_,?_⟩
      ·simp only[List.map_cons,Instr.fill]
       rw[if_neg]
       ·exact h1
       ·rw[c1,hcl,hc.1]
        simp
        omega
      ·have e1:(cs.take (i*sz)++V1.cells (.d d)++cs.drop (i*sz+sz)).take ((i+1)*sz)=cs.take (i*sz)++V1.cells (.d d):=by
        rw[List.take_append_of_le_length (by simp[hsz,V1.cells,Nat.add_mul];omega),List.take_of_length_le (by simp[hsz,V1.cells,Nat.add_mul];omega)]
       have e2:(cs.take (i*sz)++V1.cells (.d d)++cs.drop (i*sz+sz)).drop ((i+1+L.length)*sz)=cs.drop ((i+(L.length+1))*sz):=by
        rw[List.drop_append,List.drop_of_length_le (by simp[hsz,V1.cells,Nat.add_mul];omega),List.nil_append,List.drop_drop]
        congr 1
        simp[hsz,V1.cells,Nat.add_mul]
        omega
       rw[e1,e2]at h2
       simpa [GI,V1.cells,List.append_assoc] using h2
   ·exact hk.elim
  ·exact hk.elim
section
variable {C:Cx}{ti:Types}{o:Oper}{fresh:Nat}{s:Af}{h:Heap}{k:Out→Prop}
theorem LJ (w:World) (ob:Obj):w.grownBy (w.alloc ob) none:=World.grownBy_alloc w ob none
theorem Mn (hti:BV C.P ti) (t:TypeId) (len:Nat) (parts:Array (Nat×Operand)) (ho:o.op= .buildSlice t len parts) (hk:Ej ti s t len parts.toList k):∃out,k out∧Bm C o fresh s h out:=by
 unfold Ej at hk
 replace hk:=AZ.1 hk
 obtain⟨q,hq,hk⟩:=hk
 split at hk
 ·rename_i e hd
  replace hk:=AZ.1 hk
  obtain⟨j,hj,hk⟩:=hk
  replace hk:=AR.1 hk
  obtain⟨hle,hk⟩:=hk
  replace hk:=AR.1 hk
  obtain⟨hlen,hk⟩:=hk
  replace hk:=AR.1 hk
  obtain⟨hsz,hk⟩:=hk
  have hle:=Nat.le_of_ble_eq_true hle
  have hlen:=Nat.eq_of_beq_eq_true hlen
  have hsz:0<j.size:=by simp[Nat.blt]at hsz;omega
  obtain⟨ds,hk,hdl,hds,hfill⟩:=O4 (k:=fun ds=>k ⟨.v (.c (.tl (Ax j.desc) j.size ds)),[],[]⟩) _ _ _ hk
  refine⟨_,hk,?_⟩
  rintro F σs σh a w Q ⟨g,R⟩ hs hrd hF hdst
  have hev:∀t i p,(i,p)∈parts.toList→BG w (BN (zone g σh) C.X) g σh (BQ ti s t p) (a.eval p):=fun t i p hp=>
   Ai ti t p R (s:=s) (fun k hk=>hs k (by
    subst hk
    simp only[ho,Op.operands,List.mem_map]
    exact⟨(i,.tmp k),hp,rfl⟩))
  obtain⟨f1,f2⟩:=hfill w _ g σh a.eval hev
  obtain⟨ii,i1,i2,i3,i4,i5⟩:=CZ hti hj
  obtain⟨_,ii',j1,j2,_,_,j5,j6,j7⟩:=hti e j hj
  -- the row of zero cells
  let zs:Array Value:=(Array.range (len*j.size)).map (fun i=>j.zero.cells[i % j.zero.cells.size]!)
  have hz0:EX w (BN (zone g σh) C.X) g σh (List.replicate (len*j.size) CV.un) zs:=by
   refine⟨by simp[zs],fun i c u hc hu=>?_⟩
   obtain rfl:=List.eq_of_mem_replicate (List.mem_of_getElem? hc)
   have hlt:i<len*j.size:=by
    have:=(Array.getElem?_eq_some_iff.1 hu).1
    simpa [zs] using this
   have hu':u=j.zero.cells[i % j.zero.cells.size]!:=by
    simp[zs,hlt]at hu
    exact hu.symm
   have hm:i % j.zero.cells.size<j.zero.cells.size:=Nat.mod_lt _ (by rw[j5];exact hsz)
   have hzc:∃c,j.zc[i % j.zero.cells.size]?=some c:=⟨_,List.getElem?_eq_getElem (by rw[j6,←j5];exact hm)⟩
   obtain⟨c,hc⟩:=hzc
   have:=j7 _ c _ hc (show j.zero.cells[i % j.zero.cells.size]?=some j.zero.cells[i % j.zero.cells.size]from by simp[hm])
   have:=BM.Bw (E3 (w:=w) (Z:=fun _ _=>False) (g:=g) (h:=σh) this)
   subst hu'
   show _=true
   simpa [hm] using this
  obtain⟨vs',h1,h2⟩:=f2 _ _ hz0 (by simp[hlen])
  have hflat:(List.replicate (len*j.size) CV.un).take (0*j.size)++GI ds++(List.replicate (len*j.size) CV.un).drop ((0+parts.toList.length)*j.size)=GI ds:=by
   simp[hlen]
  rw[hflat]at h2
  have hfl:=SD (ds:=ds) (sz:=j.size) (fun d hd=>(hds d hd).2)
  have hn:ds.length=len:=by rw[hdl,hlen]
  -- the run
  have e1:=DB hti hq w
  rw[hd]at e1
  have e2:=Fh hti hj w
  have e3:(zeroValue e).run C.P w= .ok j.zero w:=by simp[zeroValue,typeInfo,i1,i4]
  have hrun:(execOp a.eval o).run C.P w= .ok (.value (.slice (some ⟨w.heap.size,0,none⟩) len len)) (w.alloc (.cells vs' e)):=by
   have hnot:¬(len*j.size>2 ^ 24):=by omega
   have r0:∀f:Nat→Value,Array.map f (Array.range 0)=#[]:=fun f=>by apply Array.ext';simp
   have h1':Instr.fill (fun i=>some (i*j.size,j.size)) (Array.map (fun i=>j.zero.cells[i % j.zero.cells.size]!) (Array.range (len*j.size))) (List.map (fun x=>(x.1,a.eval x.2)) parts.toList)=some vs':=h1
   by_cases h0:len*j.size=0
   ·rw[h0,r0]at h1'
    simp[execOp,ho,Instr.buildSlice,e1,e2,h0,r0,h1',newRow]
   ·simp[execOp,ho,Instr.buildSlice,e1,e2,hnot,h0,e3,h1',newRow]
  unfold Oper.wp
  rw[hrun]
  have hown:(w.alloc (.cells vs' e)).ownsRow w.heap.size e j.size (.slice (some ⟨w.heap.size,0,none⟩) len len) ds.length vs'.toList:=by
   refine⟨by rw[Array.length_toList,h2.1,hfl],.inr ⟨w.heap.size,len,vs',by rw[hn],Nat.le_refl _,heap_alloc_new w _,by omega,?_,by rw[h2.1,hfl,hn],?_⟩⟩
   ·have:len≤len*j.size:=Nat.le_mul_of_pos_right _ hsz
    simp only[maxLen];omega
   ·rw[List.take_of_length_le]
    rw[Array.length_toList,h2.1,hfl]
    exact Nat.le_refl _
  have hrel:∀(i:Nat) x (q:Nat) c,ds[i]?=some x→x.cells[q]?=some c→∃u,vs'.toList[i*j.size+q]?=some u∧Aj w (BN (zone g σh) C.X) c u:=by
   intro i x q c hx hc
   have hg:=NC (sz:=j.size) (fun d hd=>(hds d hd).2) i x q c hx hc
   have hlt:=(List.getElem?_eq_some_iff.1 hg).1
   have hlt':i*j.size+q<vs'.size:=by rw[h2.1];exact hlt
   exact⟨vs'[i*j.size+q],by simp[hlt'],(h2.2 _ _ _ hg (by simp[hlt'])).1⟩
  have hfit:∀x∈ds,x.fits (Ax j.desc) j.size:=by
   intro x hx
   obtain⟨a1,a2⟩:=hds x hx
   refine⟨a1,a2,fun c hc=>?_⟩
   obtain⟨i,hi⟩:=List.mem_iff_getElem?.1 hx
   obtain⟨q,hq'⟩:=List.mem_iff_getElem?.1 hc
   have hg:=NC (sz:=j.size) (fun d hd=>(hds d hd).2) i x q c hi hq'
   have hlt':i*j.size+q<vs'.size:=by rw[h2.1];exact (List.getElem?_eq_some_iff.1 hg).1
   exact (h2.2 _ _ _ hg (show vs'[i*j.size+q]?=some vs'[i*j.size+q]from by simp[hlt'])).2
  obtain⟨r1,r2⟩:=R.plain (LJ w _) hsz hown hfit hrel
  exact⟨g,(r1.put hdst (v:=.v (.c (.tl (Ax j.desc) j.size ds))) ⟨r2,_,by rw[hn]⟩).BH (fun n hn=>hn.1)⟩
 ·exact hk.elim
theorem ND {ti:Types}{s:Af}{e:TypeId}{sz:Nat}:
  ∀(L:List (Nat×Operand)) (n:Nat) (k:List CV→Prop),Jj ti s e sz n L k→∃ys,k ys∧ys.length=L.length*sz∧
   ∀(w:World) (Z:Av) (g:Ac) (h:Heap) (ev:Operand→Value),(∀t i p,(i,p)∈L→BG w Z g h (BQ ti s t p) (ev p))→
    ∀(cs:List CV) (vs:Array Value),EX w Z g h cs vs→(n+L.length)*sz≤cs.length→
    ∃vs',Instr.fill (fun i=>some (i*sz,sz)) vs (L.map fun x=>(x.1,ev x.2))=some vs'∧EX w Z g h (cs.take (n*sz)++ys++cs.drop ((n+L.length)*sz)) vs'
 | [],n,k,hk=>⟨[],hk,by simp,fun w Z g h ev _ cs vs hc _=>⟨vs,rfl,by simpa using hc⟩⟩
 | (i,x)::L,n,k,hk=>by
  unfold Jj at hk
  replace hk:=AR.1 hk
  obtain⟨hin,hk⟩:=hk
  have hin:=Nat.eq_of_beq_eq_true hin
  subst hin
  split at hk
  ·rename_i y hy
   replace hk:=AR.1 hk
   obtain⟨hsz,hk⟩:=hk
   have hsz:=Nat.eq_of_beq_eq_true hsz
   obtain⟨ys,k1,k2,k4⟩:=ND L (i+1) _ hk
   refine⟨y.cells++ys,k1,by simp[k2,hsz,Nat.add_mul];omega,fun w Z g h ev hev cs vs hc hb=>?_⟩
   have hr:=hev e i x (by simp)
   rw[hy]at hr
   obtain⟨c1,c2⟩:=BE.cells hr
   have hb':i*sz+sz≤cs.length:=by
    simp[Nat.add_mul]at hb
    omega
   have step:=Ke (off:=i*sz) hc ⟨c1,c2⟩ (by rw[hsz];exact hb')
   rw[hsz]at step
   obtain⟨vs',h1,h2⟩:=k4 w Z g h ev (fun t i' p hp=>hev t i' p (List.mem_cons_of_mem _ hp)) _ _ step (by
    simp[hsz,Nat.add_mul]at hb ⊢
    omega)
   refine⟨vs',?_,?_⟩
   ·simp only[List.map_cons,Instr.fill]
    rw[if_neg]
    ·exact h1
    ·rw[c1,hsz,hc.1]
     simp
     omega
   ·have e1:(cs.take (i*sz)++y.cells++cs.drop (i*sz+sz)).take ((i+1)*sz)=cs.take (i*sz)++y.cells:=by
     rw[List.take_append_of_le_length (by simp[hsz,Nat.add_mul];omega),List.take_of_length_le (by simp[hsz,Nat.add_mul];omega)]
    have e2:(cs.take (i*sz)++y.cells++cs.drop (i*sz+sz)).drop ((i+1+L.length)*sz)=cs.drop ((i+(L.length+1))*sz):=by
     rw[List.drop_append,List.drop_of_length_le (by simp[hsz,Nat.add_mul];omega),List.nil_append,List.drop_drop]
     congr 1
     simp[hsz,Nat.add_mul]
     omega
    rw[e1,e2]at h2
    simpa [List.append_assoc] using h2
  ·exact hk.elim
theorem Fi (hti:BV C.P ti) (t:TypeId) (len:Nat) (parts:Array (Nat×Operand)) (ho:o.op= .buildSlice t len parts) {K:Bool→Nat→List CV→Prop}
  (hk:BK ti t fun q=>match q.desc with
   | .slice e=>BK ti e fun j=>Bq (Nat.ble (len*j.size) 16777216)<| Bq (Nat.beq parts.toList.length len)<| Bq (Nat.blt 0 j.size)<| Jj ti s e j.size 0 parts.toList (K (Ax j.desc) j.size)
   | _=>False):
  ∃e j ys,ti e=some j∧0<j.size∧K (Ax j.desc) j.size ys∧ys.length=len*j.size∧len*j.size≤16777216∧∀F σs σh g a w,Ap C F σs σh g a w→(∀t,Operand.tmp t∈o.op.operands.toList→σs t=s t)→
   ∃vs',(execOp a.eval o).run C.P w= .ok (.value (.slice (some ⟨w.heap.size,0,none⟩) len len)) (w.alloc (.cells vs' e))∧EX w (BN (zone g σh) C.X) g σh ys vs':=by
 replace hk:=AZ.1 hk
 obtain⟨q,hq,hk⟩:=hk
 split at hk
 ·rename_i e hd
  replace hk:=AZ.1 hk
  obtain⟨j,hj,hk⟩:=hk
  replace hk:=AR.1 hk
  obtain⟨hle,hk⟩:=hk
  replace hk:=AR.1 hk
  obtain⟨hlen,hk⟩:=hk
  replace hk:=AR.1 hk
  obtain⟨hsz,hk⟩:=hk
  have hle:=Nat.le_of_ble_eq_true hle
  have hlen:=Nat.eq_of_beq_eq_true hlen
  have hsz:0<j.size:=by simp[Nat.blt]at hsz;omega
  obtain⟨ys,hk,hyl,f2⟩:=ND _ _ _ hk
  refine⟨e,j,ys,hj,hsz,hk,by rw[hyl,hlen],hle,?_⟩
  rintro F σs σh g a w R hs
  have hev:∀t i p,(i,p)∈parts.toList→BG w (BN (zone g σh) C.X) g σh (BQ ti s t p) (a.eval p):=fun t i p hp=>
   Ai ti t p R (s:=s) (fun k hk=>hs k (by
    subst hk
    simp only[ho,Op.operands,List.mem_map]
    exact⟨(i,.tmp k),hp,rfl⟩))
  have f2:=f2 w _ g σh a.eval hev
  obtain⟨ii,i1,i2,i3,i4,i5⟩:=CZ hti hj
  obtain⟨_,ii',j1,j2,_,_,j5,j6,j7⟩:=hti e j hj
  let zs:Array Value:=(Array.range (len*j.size)).map (fun i=>j.zero.cells[i % j.zero.cells.size]!)
  have hz0:EX w (BN (zone g σh) C.X) g σh (List.replicate (len*j.size) CV.un) zs:=by
   refine⟨by simp[zs],fun i c u hc hu=>?_⟩
   obtain rfl:=List.eq_of_mem_replicate (List.mem_of_getElem? hc)
   have hlt:i<len*j.size:=by
    have:=(Array.getElem?_eq_some_iff.1 hu).1
    simpa [zs] using this
   have hu':u=j.zero.cells[i % j.zero.cells.size]!:=by
    simp[zs,hlt]at hu
    exact hu.symm
   have hm:i % j.zero.cells.size<j.zero.cells.size:=Nat.mod_lt _ (by rw[j5];exact hsz)
   have hzc:∃c,j.zc[i % j.zero.cells.size]?=some c:=⟨_,List.getElem?_eq_getElem (by rw[j6,←j5];exact hm)⟩
   obtain⟨c,hc⟩:=hzc
   have:=j7 _ c _ hc (show j.zero.cells[i % j.zero.cells.size]?=some j.zero.cells[i % j.zero.cells.size]from by simp[hm])
   have:=BM.Bw (E3 (w:=w) (Z:=fun _ _=>False) (g:=g) (h:=σh) this)
   subst hu'
   show _=true
   simpa [hm] using this
  obtain⟨vs',h1,h2⟩:=f2 _ _ hz0 (by simp[hlen])
  have hflat:(List.replicate (len*j.size) CV.un).take (0*j.size)++ys++(List.replicate (len*j.size) CV.un).drop ((0+parts.toList.length)*j.size)=ys:=by
   simp[hlen]
  rw[hflat]at h2
  have e1:=DB hti hq w
  rw[hd]at e1
  have e2:=Fh hti hj w
  have e3:(zeroValue e).run C.P w= .ok j.zero w:=by simp[zeroValue,typeInfo,i1,i4]
  have hrun:(execOp a.eval o).run C.P w= .ok (.value (.slice (some ⟨w.heap.size,0,none⟩) len len)) (w.alloc (.cells vs' e)):=by
   have hnot:¬(len*j.size>2 ^ 24):=by omega
   have r0:∀f:Nat→Value,Array.map f (Array.range 0)=#[]:=fun f=>by apply Array.ext';simp
   have h1':Instr.fill (fun i=>some (i*j.size,j.size)) (Array.map (fun i=>j.zero.cells[i % j.zero.cells.size]!) (Array.range (len*j.size))) (List.map (fun x=>(x.1,a.eval x.2)) parts.toList)=some vs':=h1
   by_cases h0:len*j.size=0
   ·rw[h0,r0]at h1'
    simp[execOp,ho,Instr.buildSlice,e1,e2,h0,r0,h1',newRow]
   ·simp[execOp,ho,Instr.buildSlice,e1,e2,hnot,h0,e3,h1',newRow]
  exact⟨vs',hrun,h2⟩
 ·exact hk.elim
theorem LK (hti:BV C.P ti) (t:TypeId) (len:Nat) (parts:Array (Nat×Operand)) (ho:o.op= .buildSlice t len parts) (hk:GD ti s t len parts.toList fresh k):∃out,k out∧Bm C o fresh s h out:=by
 obtain⟨e,j,ys,hj,hsz,hk,hyl,hle,H⟩:=Fi (K:=fun _ _ cs=>k ⟨.v (.c (.sl (.loc fresh) len)),[],[(.loc fresh,.cells cs)]⟩) hti t len parts ho hk
 refine⟨_,hk,?_⟩
 rintro F σs σh a w Q ⟨g,R⟩ hs hrd hF hdst
 obtain⟨vs',hrun,h2⟩:=H F σs σh g a w R hs
 unfold Oper.wp
 rw[hrun]
 have R':=R.alloc (n:=fresh) (hF 0 (by omega)) vs' e ys h2.1 h2.2
 exact⟨_,(R'.put hdst (v:=.v (.c (.sl (.loc fresh) len))) ⟨⟨w.heap.size,by simp[Au]⟩,by simp[Au,Xn]⟩).BH (fun n hn=>⟨hn.1,fun e=>hn.2 (by omega)⟩)⟩
theorem SE (hti:BV C.P ti) (t:TypeId) (x y:Operand) (ok:Bool) (ho:o.op= .lookup t x y ok) (hk:Jn ti t (BQ ti s t x) (BQ ti s 0 y) ok k):∃out,k out∧Bm C o fresh s h out:=by
 unfold Jn at hk
 replace hk:=AZ.1 hk
 obtain⟨q,hq,hk⟩:=hk
 split at hk
 ·rename_i kt et hd
  replace hk:=AZ.1 hk
  obtain⟨kk,hkk,hk⟩:=hk
  replace hk:=AZ.1 hk
  obtain⟨j,hj,hk⟩:=hk
  replace hk:=AR.1 hk
  obtain⟨hpk,hk⟩:=hk
  replace hk:=AR.1 hk
  obtain⟨hz0,hk⟩:=hk
  split at hk
  ·rename_i hop
   obtain⟨ii,i1,i2,i3,i4,i5⟩:=CZ hti hj
   obtain⟨_,ii',j1,j2,_,_,j5,j6,j7⟩:=hti et j hj
   have run:∀F σs σh g a w,Ap C F σs σh g a w→(∀t,Operand.tmp t∈o.op.operands.toList→σs t=s t)→
     (execOp a.eval o).run C.P w= .ok (.value (if ok then .tuple #[j.zero,.bool false]else j.zero)) w:=by
    intro F σs σh g a w R hs
    have hx:=Ai ti t x R (s:=s) (fun t ht=>hs t (by subst ht;simp[ho,Op.operands]))
    rw[hop]at hx
    have hx:a.eval x= .map none:=hx
    have e1:=DB hti hq w
    rw[hd]at e1
    have e2:=DB hti hkk w
    have e3:(zeroValue et).run C.P w= .ok j.zero w:=by simp[zeroValue,typeInfo,i1,i4]
    have e5:∀n v,(Instr.checkKey true (n+1) kt v).run C.P w= .ok () w:=by
     intro n v
     have:plainKey kk.desc=true:=hpk
     unfold plainKey at this
     split at this
     ·rename_i hk2;rw[hk2]at e2;simp[Instr.checkKey,e2]
     ·rename_i hk2;rw[hk2]at e2;simp[Instr.checkKey,e2]
     ·cases this
    have e4:∀v,(Instr.checkKey true 10000 kt v).run C.P w= .ok () w:=e5 9999
    simp[execOp,ho,Instr.lookup,e1,hx,e4,Instr.findKey,e2,Instr.findNow,e3]
   have rel:∀(w:World) (Z:Av) (g:Ac) (h:Heap),BE w Z g h (V1.BL (Ax j.desc) j.zc) j.zero:=by
    intro w Z g h
    have hc:∀(q:Nat) c u,j.zc[q]?=some c→j.zero.cells[q]?=some u→BM w Z g h c u:=fun q c u h1 h2=>E3 (j7 q c u h1 h2)
    have hl:j.zero.cells.size=j.zc.length:=by rw[j5,j6]
    have hz1:=hz0
    unfold K8 at hz1
    split at hz1
    ·rename_i cs hcs
     rw[hcs]at hc hl ⊢
     exact (BE.BL hl hc).1 hz1
    ·cases hz1
    ·rename_i v h1 h2
     have hrow:Ax j.desc=false:=by cases hh:Ax j.desc<;>simp[hh,HK]at hz1 ⊢
     have hcell:j.zero.cells=#[j.zero]:=by
      cases hz:j.zero<;>first | rfl | exact absurd hz (h1 _)
     exact (BE.BL hl hc).2 hrow _ hcell
   cases ok with
   | true=>
    refine⟨_,hk,AY fun F σs σh g a w R hs _=>⟨_,run F σs σh g a w R hs,?_⟩⟩
    refine⟨#[j.zero,.bool false],rfl,rfl,fun q c u hc hu=>?_⟩
    match q with
    | 0=>simp at hc hu;subst hc;subst hu;exact rel _ _ _ _
    | 1=>simp at hc hu;subst hc;subst hu;exact .bool _
    | q+2=>simp at hc
   | false=>exact⟨_,hk,AY fun F σs σh g a w R hs _=>⟨_,run F σs σh g a w R hs,rel _ _ _ _⟩⟩
  ·exact hk.elim
 ·exact hk.elim
end
end Go.AM
namespace Go.AM
open Go Go.RowKit
def S1 (ys:List D):Prop:=∀r∈ys,∀c∈r.cells,EA c=false
def Wg (x:AV) (h:Heap) (ag:Bool) (sz:Nat) (K:List Id→List D→Prop):Prop:=
 match x with
 | .v (.c (.nils _ _))=>K [] []
 | .v (.c (.ow i))=>match h i with
  | some (.tree kd ag' sz' rows foc)=>match kd with
   | .row=>match foc with
    | none=>Bq (ag'==ag) (Bq (Nat.beq sz' sz) (K [i] rows))
    | some _=>False
   | _=>False
  | _=>False
 | _=>False
def Wh (y:AV) (h:Heap) (ag:Bool) (sz:Nat) (K:List Id→List D→Prop):Prop:=
 match y with
 | .v (.c (.sl jj n))=>match h jj with
  | some (.cells cs)=>Bq (Nat.beq cs.length (n*sz)) (Nn h cs fun ds is=>∃ys,rowsOf ag sz n ds=ys∧K is ys)
  | _=>False
 | .v (.c (.ow i))=>match h i with
  | some (.tree kd ag' sz' rows foc)=>match kd with
   | .row=>match foc with
    | none=>Bq (ag'==ag) (Bq (Nat.beq sz' sz) (K [i] rows))
    | some _=>False
   | _=>False
  | some (.part c ag' sz' rows)=>Bq (Nat.beq c 0) (Bq (ag'==ag) (Bq (Nat.beq sz' sz) (K [i] rows)))
  | _=>False
 | y=>Kz y fun ag' sz' ys=>Bq (ag'==ag) (Bq (Nat.beq sz' sz) (S1 ys∧K [] ys))
def Wi:AV→List Id
 | .v (.c (.sl j _))=>[j]
 | _=>[]
def RB (M:BS) (ti:Types) (t:TypeId) (x y:AV) (fresh:Nat) (h:Heap) (k:Out→Prop):Prop:=
 BK ti t fun q=>match q.desc with
 | .slice e=>BK ti e fun j=>Bq (Nat.blt 0 j.size)<| Wg x h (Ax j.desc) j.size fun ids rows=>Wh y h (Ax j.desc) j.size fun is ys=>
   Bq (nodupB (ids++is))<| (M.lock fun _=>rows.length+ys.length≤maxLen∧(rows.length+ys.length)*j.bytes≤140737488355328)∧∃out,rows++ys=out∧
    k ⟨.v (.c (.ow (.loc fresh))),ids++(is++Wi y),BO (ids++is)++[(.loc fresh,.tree .row (Ax j.desc) j.size out none)]⟩
 | _=>False
def LL (M:BS) (ti:Types) (t:TypeId) (x y:AV) (fresh:Nat) (h:Heap) (k:Out→Prop):Prop:=LB h (fun h'=>RB M ti t x y fresh h') k
def S2 (h:Heap) (len fresh:Nat) (k:Out→Prop) (ag:Bool) (sz:Nat) (cs:List CV):Prop:=
 Nn h cs fun ds is=>Bq (nodupB is)<| Bq (Nat.ble len maxLen)<| ∃ys,rowsOf ag sz len ds=ys∧k ⟨.v (.c (.ow (.loc fresh))),is,BO is++[(.loc fresh,.tree .row ag sz ys none)]⟩
def O5 (ti:Types) (s:Af) (t:TypeId) (len:Nat) (parts:List (Nat×Operand)) (fresh:Nat) (h:Heap) (k:Out→Prop):Prop:=
 BK ti t fun q=>match q.desc with
 | .slice e=>BK ti e fun j=>Bq (Nat.ble (len*j.size) 16777216)<| Bq (Nat.beq parts.length len)<| Bq (Nat.blt 0 j.size)<| Jj ti s e j.size 0 parts (S2 h len fresh k (Ax j.desc) j.size)
 | _=>False
def GJ (ti:Types) (s:Af) (t:TypeId) (len:Nat) (parts:List (Nat×Operand)) (fresh:Nat) (h:Heap) (k:Out→Prop):Prop:=LB h (fun h'=>O5 ti s t len parts fresh h') k
section
variable {C:Cx}{ti:Types}{o:Oper}{fresh:Nat}{s:Af}{h:Heap}{k:Out→Prop}
theorem Aj.own {w:World}{Z:Av}{x:D}{v:Value}(r:Aj w Z x v) (h1:EA x=false) (h2:x.isAgg=false):B9 w x v (fun _=>False):=by
 cases r with
 | int k n=>exact .int k n
 | bool b=>exact .bool b
 | str s=>exact .str s
 | nil=>exact .nil
 | agg=>cases h2
 | _=>cases h1
structure U1 (w:World) (X:Av) (g:Ac) (σh:Heap) (ag:Bool) (sz:Nat) (ids:List Id) (rows:List D) (u:Value):Prop where
 whole:∀i∈ids,∃ob,σh i=some ob∧Cd ob
 own:∃xs T S,Holds w .row sz u rows.length xs∧Dv w ag sz rows xs T S∧(∀b,S b→∃i∈ids,Bi (g i) b)∧(∀b,blk u=some b→∃i∈ids,Bi (g i) b)∧(∀i j b,T i j b→blk u≠some b)
theorem U1.Wa {w:World}{Z X:Av}{g:Ac}{σh:Heap}{u:Value}{ag:Bool}{sz:Nat}{rows:List D}{i:Id}(RH:Db w X g σh) (hσ:σh i=some (.tree .row ag sz rows none)) (hr:BG w Z g σh (.v (.c (.ow i))) u):
  U1 w X g σh ag sz [i] rows u:=by
 refine⟨fun j hj=>?_,?_⟩
 ·obtain rfl:j=i:=by simpa using hj
  exact⟨_,hσ,trivial⟩
 ·obtain⟨xs,T,p1,p2,p3,p4,_⟩:=Dv.Vr RH hσ
  have hu:u=gval (g i):=hr.2.2 (by rw[hσ];rfl)
  rw[hu]
  exact⟨xs,T,_,p1,p2,fun b hb=>⟨i,by simp,hb⟩,fun b hb=>⟨i,by simp,p4 b hb⟩,p3⟩
theorem U2 {x:AV}{ag:Bool}{sz:Nat}{K:List Id→List D→Prop}(hsz:0<sz) (hk:Wg x h ag sz K):
  ∃ids rows,K ids rows∧∀{w:World} {Z X:Av} {g:Ac} {σh:Heap} {u:Value},Db w X g σh→(∀i∈ids,σh i=h i)→BG w Z g σh x u→U1 w X g σh ag sz ids rows u:=by
 unfold Wg at hk
 split at hk
 ·refine⟨[],[],hk,fun _ _ hr=>⟨by simp,[],fun _ _ _=>False,fun _=>False,?_⟩⟩
  rw[show _=_ from hr]
  exact⟨⟨0,World.ownsRow_nil _ 0 0 sz⟩,Dv.nil _ _ _,by simp,by simp[blk],by simp⟩
 ·rename_i i
  split at hk
  ·rename_i kd ag' sz' rows foc hi
   split at hk
   ·split at hk
    ·replace hk:=AR.1 hk
     obtain⟨h1,hk⟩:=hk
     replace hk:=AR.1 hk
     obtain⟨h2,hk⟩:=hk
     have h1:ag'=ag:=by simpa using h1
     have h2:=Nat.eq_of_beq_eq_true h2
     subst h1
     subst h2
     exact⟨[i],rows,hk,fun RH he hr=>.Wa RH ((he i (by simp)).trans hi) hr⟩
    ·exact hk.elim
   ·exact hk.elim
  ·exact hk.elim
 ·exact hk.elim
structure ZL (w:World) (X:Av) (g:Ac) (σh:Heap) (ag:Bool) (sz:Nat) (ids:List Id) (rows:List D) (u:Value):Prop where
 whole:∀i∈ids,∃ob,σh i=some ob∧Cd ob
 own:∃A cap xs T S,u= .slice A rows.length cap∧(0<rows.length→∃bb oo,A=some ⟨bb,oo,none⟩∧∀(k:Nat) u,xs[k]?=some u→w.cell? ⟨bb,oo+k,none⟩=some u)∧(∀u∈xs,u.oneCell'=true)∧
  Dv w ag sz rows xs T S∧(∀b,S b→∃i∈ids,Bi (g i) b)
theorem Dv.one {w:World}{ag:Bool}{sz:Nat}{rows:List D}{xs:List Value}{T:Nat→Nat→Nat→Prop}{S:Nat→Prop}(hsz:0<sz) (h:Dv w ag sz rows xs T S):∀u∈xs,u.oneCell'=true:=by
 intro u hu
 obtain⟨k,hk⟩:=List.mem_iff_getElem?.1 hu
 have hlt:=(List.getElem?_eq_some_iff.1 hk).1
 rw[h.len]at hlt
 have hi:k / sz<rows.length:=Nat.div_lt_of_lt_mul (by rw[Nat.mul_comm];exact hlt)
 have hx:rows[k / sz]?=some rows[k / sz]:=List.getElem?_eq_getElem hi
 have hj:k % sz<rows[k / sz].cells.length:=by rw[(h.fits _ (List.getElem_mem hi)).2.1];exact Nat.mod_lt _ hsz
 obtain⟨u',hu',hr⟩:=h.cell _ _ _ _ hx (List.getElem?_eq_getElem hj)
 rw[show k / sz*sz+k % sz=k from by rw[Nat.mul_comm];exact Nat.div_add_mod k sz,hk]at hu'
 cases hu'
 exact hr.Bw
theorem U3 {y:AV}{ag:Bool}{sz:Nat}{K:List Id→List D→Prop}(hsz:0<sz) (hag:ag=false→sz=1) (hk:Wh y h ag sz K):
  ∃ids rows,K ids rows∧(ids.Nodup→∀{w:World} {Z X:Av} {g:Ac} {σh:Heap} {u:Value},Db w X g σh→(∀i∈ids++Wi y,σh i=h i)→BG w Z g σh y u→ZL w X g σh ag sz ids rows u):=by
 unfold Wh at hk
 split at hk
 ·rename_i jj n
  split at hk
  ·rename_i cs hj
   replace hk:=AR.1 hk
   obtain⟨h1,hk⟩:=hk
   have h1:=Nat.eq_of_beq_eq_true h1
   obtain⟨ds,iss,⟨ys,rfl,hk⟩,q1,q2,q3⟩:=G8 hk
   refine⟨_,_,hk,fun hnd=>fun RH he hr=>?_⟩
   rename_i w Z X g σh u
   have hσ:=(he jj (by simp[Wi])).trans hj
   obtain⟨b,c,e,hg,hh,hs,hrel⟩:=RH.objs jj _ hσ
   obtain⟨_,hu⟩:=hr
   rw[hg]at hu
   have hu:u= .slice (some ⟨b,0,none⟩) n n:=hu
   have hc:∀(q:Nat) c d is,cs[q]?=some c→ds[q]?=some d→iss[q]?=some is→Bj σh c d is:=fun q c d is e1 e2 e3=>
    (q3 q c d is e1 e2 e3).at fun x hx=>he x (List.mem_append.2 (.inl (List.mem_flatten.2 ⟨is,List.mem_of_getElem? e3,hx⟩)))
   have ho:=Dv.of_closed (vs:=c.toList) RH hsz hag h1 q1 q2 (by simpa using hs) hnd hc (fun q x u h1 h2=>hrel q x u h1 (by simpa using h2))
   refine⟨fun x hx=>?_,some ⟨b,0,none⟩,n,c.toList,_,_,by rw[hu,Hw],fun _=>⟨b,0,rfl,fun k u hu=>?_⟩,ho.one hsz,ho,fun _ h=>h⟩
   ·obtain⟨is,h6,h7⟩:=List.mem_flatten.1 hx
    obtain⟨q,hq⟩:=List.mem_iff_getElem?.1 h6
    have hlt:=(List.getElem?_eq_some_iff.1 hq).1
    exact (hc q (cs[q]'(by omega)) (ds[q]'(by omega)) is (List.getElem?_eq_getElem (by omega)) (List.getElem?_eq_getElem (by omega)) hq).whole x h7
   ·have:c[k]?=some u:=by simpa using hu
    simp[World.cell?,hh,this]
  ·exact hk.elim
 ·rename_i i
  split at hk
  ·rename_i kd ag' sz' rows foc hi
   split at hk
   ·split at hk
    ·replace hk:=AR.1 hk
     obtain⟨h1,hk⟩:=hk
     replace hk:=AR.1 hk
     obtain⟨h2,hk⟩:=hk
     have h1:ag'=ag:=by simpa using h1
     have h2:=Nat.eq_of_beq_eq_true h2
     subst h1
     subst h2
     refine⟨[i],rows,hk,fun _=>fun RH he hr=>?_⟩
     obtain⟨hw,xs,T,S,p1,p2,p3,p4,p5⟩:=U1.Wa RH ((he i (by simp)).trans hi) hr
     obtain⟨A,cap,hu,_,_,hA⟩:=p1.row
     refine⟨hw,A,cap,xs,T,S,hu,fun h0=>?_,p2.one hsz,p2,p3⟩
     obtain⟨b,rfl⟩:=hA h0
     exact⟨b,0,rfl,fun k u hk=>by rw[Nat.zero_add];exact p1.cell rfl (by rw[hu];rfl) hk⟩
    ·exact hk.elim
   ·exact hk.elim
  ·rename_i c ag' sz' rows hi
   replace hk:=AR.1 hk
   obtain⟨h0,hk⟩:=hk
   replace hk:=AR.1 hk
   obtain⟨h1,hk⟩:=hk
   replace hk:=AR.1 hk
   obtain⟨h2,hk⟩:=hk
   have h0:=Nat.eq_of_beq_eq_true h0
   have h1:ag'=ag:=by simpa using h1
   have h2:=Nat.eq_of_beq_eq_true h2
   subst h0
   subst h1
   subst h2
   refine⟨[i],rows,hk,fun _=>fun RH he hr=>?_⟩
   rename_i w Z X g σh u
   have hσ:=(he i (by simp)).trans hi
   obtain⟨_,hf,A,cap,b,o,hv,hc1,hc2,hA,U,T,g1,g2,g3,g4⟩:=(RH.objs i _ hσ).2
   obtain⟨_,_,hu⟩:=hr
   have hu:=hu (by rw[hσ];rfl)
   rw[Nat.zero_add]at hv hA
   have own:Dv w ag' sz' rows ((List.range (rows.length*sz')).map fun m=>U (m / sz') (m % sz')) T (fun b=>∃i j,T i j b):=by
    refine⟨hf,by simp,fun x r jj d hr hd=>⟨U x jj,?_,(g1 x r jj d hr hd).2.2⟩,g2,g3,fun x jj b hb=>⟨x,jj,hb⟩⟩
    have hx:=(List.getElem?_eq_some_iff.1 hr).1
    have hj:jj<sz':=by
     have:=(List.getElem?_eq_some_iff.1 hd).1
     rw[(hf r (List.mem_of_getElem? hr)).2.1]at this
     exact this
    have hlt:x*sz'+jj<rows.length*sz':=Nat.lt_of_lt_of_le (show x*sz'+jj<(x+1)*sz' by rw[Nat.succ_mul];omega) (Nat.mul_le_mul_right sz' hx)
    rw[List.getElem?_map,List.getElem?_range hlt]
    show some (U ((x*sz'+jj) / sz') ((x*sz'+jj) % sz'))=some (U x jj)
    rw[Nat.mul_comm x sz',Nat.mul_add_div hsz,Nat.div_eq_of_lt hj,Nat.mul_add_mod,Nat.mod_eq_of_lt hj,Nat.add_zero]
   refine⟨fun x hx=>?_,A,cap,_,T,_,hu.trans hv,fun hp=>⟨b,o,hA hp,fun m v hm=>?_⟩,own.one hsz,own,fun b hb=>⟨i,by simp,(g4 b).2 hb⟩⟩
   ·obtain rfl:x=i:=by simpa using hx
    exact⟨_,hσ,trivial⟩
   ·rw[List.getElem?_map]at hm
    have hlt:m<rows.length*sz':=by
     rcases Nat.lt_or_ge m (rows.length*sz')with h | h
     ·exact h
     ·rw[List.getElem?_eq_none (by simpa using h)]at hm
      cases hm
    rw[List.getElem?_range hlt]at hm
    have hm:some (U (m / sz') (m % sz'))=some v:=hm
    have hx:m / sz'<rows.length:=Nat.div_lt_of_lt_mul (by rw[Nat.mul_comm];exact hlt)
    have hj:m % sz'<rows[m / sz'].cells.length:=by rw[(hf _ (List.getElem_mem hx)).2.1];exact Nat.mod_lt _ hsz
    have:=(g1 (m / sz') _ (m % sz') _ (List.getElem?_eq_getElem hx) (List.getElem?_eq_getElem hj)).1
    rw[Nat.zero_add,Nat.mul_comm (m / sz') sz',Nat.div_add_mod]at this
    rw[←hm]
    exact this
  ·exact hk.elim
 ·replace hk:=E2 hk
  obtain⟨ag',sz',ys,hrel,hk⟩:=hk
  replace hk:=AR.1 hk
  obtain⟨h1,hk⟩:=hk
  replace hk:=AR.1 hk
  obtain⟨h2,hsc,hk⟩:=hk
  have h1:ag'=ag:=by simpa using h1
  have h2:=Nat.eq_of_beq_eq_true h2
  subst h1
  subst h2
  refine⟨[],ys,hk,fun _=>fun RH he hr=>?_⟩
  have hd:=hrel hr
  obtain⟨A,cap,hv,_⟩:=Kc hd
  rw[hv]at hd
  obtain⟨_,_,_,hA,hf,news,n1,n2,n3,n4⟩:=hd.G6 hsz
  refine⟨by simp,A,cap,news,fun _ _ _=>False,fun _=>False,hv,fun h0=>?_,n2,⟨hf,n1,fun i r j c hi hj=>?_,by simp,by simp,by simp⟩,by simp⟩
  ·obtain⟨b,o,rfl⟩:=hA (fun e=>by rw[e]at h0;simp at h0)
   exact⟨b,o,rfl,fun k u hu=>(n3 b o rfl k u hu).1⟩
  ·obtain⟨u,hu,hr⟩:=n4 i r j c hi hj
   exact⟨u,hu,hr.own (hsc r (List.mem_of_getElem? hi) c (List.mem_of_getElem? hj)) ((hf r (List.mem_of_getElem? hi)).2.2 c (List.mem_of_getElem? hj))⟩
theorem QJ (hti:BV C.P ti) (h1:Bo ti) (t:TypeId) (x y:Operand) (ho:o.op= .call {callee:=.builtin .append,args:=#[x,y],argTypes:=#[t,t]}) (hk:LL C.M ti t (BQ ti s t x) (BQ ti s t y) fresh h k):∃out,k out∧Bm C o fresh s h out:=by
 obtain⟨gs,hk⟩:=hk
 refine EW hk (fun h' k' hk'=>?_)
 clear hk
 unfold RB at hk'
 obtain⟨q,hq,hk'⟩:=AZ.1 hk'
 split at hk'
 ·rename_i e hd
  obtain⟨j,hj,hk'⟩:=AZ.1 hk'
  replace hk':=AR.1 hk'
  obtain⟨hsz,hk'⟩:=hk'
  have hsz:0<j.size:=by simp[Nat.blt]at hsz;omega
  obtain⟨ids,rows,hk',hold⟩:=U2 hsz hk'
  obtain⟨is,ys,hk',hnew⟩:=U3 hsz (fun e=>h1 _ _ hj e) hk'
  obtain⟨hnd,hlk,out,rfl,hk'⟩:=AR.1 hk'
  obtain⟨hmax,hbytes⟩:=(C.M.lock_iff _).1 hlk
  have hnd:=DA.1 hnd
  obtain⟨nd1,nd2,nd3⟩:=List.nodup_append.1 hnd
  refine⟨_,hk',?_⟩
  rintro F σs σh a w Q ⟨g,R⟩ hs hrd hF hdst
  have hx:=Ai ti t x R (s:=s) (fun k hk=>hs k (by subst hk;simp[ho,Op.operands,Call.operands]))
  have hy:=Ai ti t y R (s:=s) (fun k hk=>hs k (by subst hk;simp[ho,Op.operands,Call.operands]))
  obtain⟨w1,xs,T,S,p1,p2,p3,p4,p5⟩:=hold R.heap (fun i hi=>hrd i (List.mem_append.2 (.inl hi))) hx
  obtain⟨w2,A,cap,news,T',S',q1,q2,q3,q4,q5⟩:=hnew nd2 R.heap (fun i hi=>hrd i (List.mem_append.2 (.inr hi))) hy
  have hw0:∀i∈ids++is,∃ob,σh i=some ob∧Cd ob:=fun i hi=>by
   rcases List.mem_append.1 hi with hi | hi
   ·exact w1 i hi
   ·exact w2 i hi
  have apart:∀b,(∃i∈ids,Bi (g i) b)→(∃i∈is,Bi (g i) b)→False:=by
   rintro b ⟨i,hi,hb⟩ ⟨i',hi',hb'⟩
   obtain⟨ob,o1,o2⟩:=w1 i hi
   obtain⟨ob',o1',o2'⟩:=w2 i' hi'
   exact nd3 i hi i' hi' (R.heap.sep i i' ob ob' b o1 o1' (o2.G4 hb) (o2'.G4 hb'))
  obtain⟨v',w',hrun,r1,r2,r3,r4⟩:=LI hti (ty:=o.type) hq hd hj hsz p1 (B:=A) (c:=cap) q4.len q2 q3 hmax hbytes
  have hown:=p2.append q4 (fun b hb hb'=>apart b (p3 b hb) (q5 b hb'))
  have hlt:∀b,(∃i∈ids++is,Bi (g i) b)→b<w.heap.size:=by
   rintro b ⟨i,hi,hb⟩
   obtain⟨ob,o1,o2⟩:=hw0 i hi
   exact (R.heap.objs i ob o1).lt (o2.G4 hb)
  have hsame:∀b,S b∨S' b→w'.heap[b]?=w.heap[b]?∨blk (a.eval x)=some b:=by
   intro b hb
   by_cases he:blk (a.eval x)=some b
   ·exact .inr he
   ·refine .inl (r3 b (hlt b ?_) he)
    rcases hb with hb | hb
    ·obtain⟨i,hi,hb⟩:=p3 b hb
     exact⟨i,List.mem_append.2 (.inl hi),hb⟩
    ·obtain⟨i,hi,hb⟩:=q5 b hb
     exact⟨i,List.mem_append.2 (.inr hi),hb⟩
  -- none of the rows lies in the list's own block
  have hdis:∀i j b,(if i<rows.length then T i j b else T' (i - rows.length) j b)→blk (a.eval x)≠some b:=by
   intro i j b hb
   split at hb
   ·exact p5 _ _ b hb
   ·exact fun he=>apart b (p4 b he) (q5 b (q4.sub _ _ b hb))
  have hown':Dv w' (Ax j.desc) j.size (rows++ys) (xs++news) (fun i j b=>if i<rows.length then T i j b else T' (i - rows.length) j b) (fun b=>S b∨S' b):=
   {hown with cell:=fun i r j c hi hj=>let ⟨u,hu,hr⟩:=hown.cell i r j c hi hj;⟨u,hu,hr.same fun b hb=>(hsame b (hown.sub i j b hb)).resolve_right (hdis i j b hb)⟩}
  obtain⟨g',R',hrel⟩:=R.Qw (T0:=ids++is) hw0 (hF 0 (by omega)) r2 (fun b hb hn=>r3 b hb fun he=>by
    obtain⟨i,hi,hb'⟩:=p4 b he
    exact hn i (List.mem_append.2 (.inl hi)) hb') hsz (by rw[List.length_append];exact r1) hown' (fun b hb=>by
     rcases hb with hb | hb
     ·obtain⟨i,hi,hb⟩:=p3 b hb
      exact⟨i,List.mem_append.2 (.inl hi),hb⟩
     ·obtain⟨i,hi,hb⟩:=q5 b hb
      exact⟨i,List.mem_append.2 (.inr hi),hb⟩)
   (fun b hb=>by
    rcases r4 b hb with hb | hb
    ·obtain⟨i,hi,hb⟩:=p4 b hb
     exact .inl ⟨i,List.mem_append.2 (.inl hi),hb⟩
    ·exact .inr hb)
   (fun i j b hb he=>by
    rcases r4 b he with he | he
    ·exact hdis i j b hb he
    ·have:=hlt b (by
      rcases hown.sub i j b hb with hb | hb
      ·obtain⟨i,hi,hb⟩:=p3 b hb
       exact⟨i,List.mem_append.2 (.inl hi),hb⟩
      ·obtain⟨i,hi,hb⟩:=q5 b hb
       exact⟨i,List.mem_append.2 (.inr hi),hb⟩)
     omega)
  unfold Oper.wp
  rw[Cq (r:=.ok v' w') ho (by rw[q1];exact hrun)]
  rw[show BP σh (BO (ids++is)++[(.loc fresh,.tree .row (Ax j.desc) j.size (rows++ys) none)])=AX (BP σh (BO (ids++is))) (.loc fresh) (.tree .row (Ax j.desc) j.size (rows++ys) none)from Ds]
  exact⟨g',(R'.put hdst (v:=.v (.c (.ow (.loc fresh)))) hrel).BH (fun n hn=>⟨hn.1,fun e=>hn.2 (by omega)⟩)⟩
 ·exact hk'.elim
theorem LM (hti:BV C.P ti) (h1:Bo ti) (t:TypeId) (len:Nat) (parts:Array (Nat×Operand)) (ho:o.op= .buildSlice t len parts) (hk:GJ ti s t len parts.toList fresh h k):∃out,k out∧Bm C o fresh s h out:=by
 obtain⟨gs,hk⟩:=hk
 refine EW hk (fun h' k' hk'=>?_)
 clear hk
 obtain⟨e,j,cs,hj,hsz,hk',hyl,hle,H⟩:=Fi (C:=C) (K:=S2 h' len fresh k') hti t len parts ho hk'
 obtain⟨ds,iss,hk2,q1,q2,q3⟩:=G8 hk'
 replace hk2:=AR.1 hk2
 obtain⟨hnd,hk2⟩:=hk2
 replace hk2:=AR.1 hk2
 obtain⟨hmx,ys,rfl,hk2⟩:=hk2
 have hnd:=DA.1 hnd
 have hmx:=Nat.le_of_ble_eq_true hmx
 refine⟨_,hk2,?_⟩
 rintro F σs σh a w Q ⟨g,R⟩ hs hrd hF hdst
 obtain⟨vs,hrun,h2⟩:=H F σs σh g a w R hs
 have hc:∀(q:Nat) c d is,cs[q]?=some c→ds[q]?=some d→iss[q]?=some is→Bj σh c d is:=fun q c d is e1 e2 e3=>
  (q3 q c d is e1 e2 e3).at fun x hx=>hrd x (List.mem_flatten.2 ⟨is,List.mem_of_getElem? e3,hx⟩)
 have hw:∀x∈iss.flatten,∃ob,σh x=some ob∧Cd ob:=by
  intro x hx
  obtain⟨is,h6,h7⟩:=List.mem_flatten.1 hx
  obtain⟨q,hq⟩:=List.mem_iff_getElem?.1 h6
  have hlt:=(List.getElem?_eq_some_iff.1 hq).1
  exact (hc q (cs[q]'(by omega)) (ds[q]'(by omega)) is (List.getElem?_eq_getElem (by omega)) (List.getElem?_eq_getElem (by omega)) hq).whole x h7
 have hlt:∀b,(∃i∈iss.flatten,Bi (g i) b)→b<w.heap.size:=by
  rintro b ⟨i,hi,hb⟩
  obtain⟨ob,o1,o2⟩:=hw i hi
  exact (R.heap.objs i ob o1).lt (o2.G4 hb)
 have ho:=Dv.of_closed (vs:=vs.toList) R.heap hsz (fun e=>h1 _ _ hj e) hyl q1 q2 (by simpa using h2.1) hnd hc (fun q x u h3 h4=>h2.2 q x u h3 (by simpa using h4))
 have hl1:vs.size=len*j.size:=by rw[h2.1,hyl]
 have hho:Holds (w.alloc (.cells vs e)) .row j.size (.slice (some ⟨w.heap.size,0,none⟩) len len) (rowsOf (Ax j.desc) j.size len ds).length vs.toList:=by
  rw[Hw]
  refine⟨e,by simp[hl1],.inr ⟨w.heap.size,len,vs,rfl,Nat.zero_le _,heap_alloc_new w _,Nat.le_refl _,hmx,hl1,?_⟩⟩
  exact List.take_of_length_le (by simp[hl1])
 have ho':=ho.same (w':=w.alloc (.cells vs e)) fun b hb=>Below.heap_alloc w _ b (hlt b hb)
 obtain⟨g',R',hrel⟩:=R.Qw (T0:=iss.flatten) (v:=.slice (some ⟨w.heap.size,0,none⟩) len len) (kd:=.row) (w':=w.alloc (.cells vs e)) hw (hF 0 (by omega)) ⟨rfl,rfl,rfl,by simp⟩ (fun b hb _=>Below.heap_alloc w _ b hb) hsz
  hho
  ho' (fun b hb=>hb) (fun b hb=>.inr (by simp[blk]at hb;omega)) (fun i j b hb he=>by
   have:=hlt b (ho.sub i j b hb)
   simp[blk]at he
   omega)
 unfold Oper.wp
 rw[hrun]
 rw[show BP σh (BO iss.flatten++[(.loc fresh,.tree .row (Ax j.desc) j.size (rowsOf (Ax j.desc) j.size len ds) none)])=AX (BP σh (BO iss.flatten)) (.loc fresh) (.tree .row (Ax j.desc) j.size (rowsOf (Ax j.desc) j.size len ds) none)from Ds]
 exact⟨g',(R'.put hdst (v:=.v (.c (.ow (.loc fresh)))) hrel).BH (fun n hn=>⟨hn.1,fun e=>hn.2 (by omega)⟩)⟩
end
end Go.AM
namespace Go.AM
open Go Go.RowKit
def SF:List D→Nat→Option D
 | [],_=>none
 | x::r,n=>match n with
  | 0=>some x
  | m+1=>SF r m
theorem FK:∀{l:List D}{n:Nat},SF l n=l[n]?
 | [],n=>by simp[SF]
 | x::r,0=>rfl
 | x::r,n+1=>by simpa [SF] using FK (l:=r) (n:=n)
def Xp (M:BS) (d:TypeDesc) (x y:D) (k:Bool→Prop):Prop:=
 match x,y with
 | .int q a,.int q' b=>match d with
  | .int _=>Bq (decide (q=q')) (M.split (M.eqI a b) k)
  | _=>False
 | .str a,.str b=>match d with
  | .string=>M.split (M.eqS a b) k
  | _=>False
 | .bool a,.bool b=>match d with
  | .bool=>k (Sl a b)
  | _=>False
 | _,_=>False
def U4 (M:BS) (ti:Types) (xs ys:List D):List Field→(Bool→Prop)→Prop
 | [],k=>k true
 | f::fs,k=>BK ti f.type fun j=>match SF xs f.offset with
  | some x=>match SF ys f.offset with
   | some y=>Xp M j.desc x y fun q=>match q with
    | true=>U4 M ti xs ys fs k
    | false=>k false
   | none=>False
  | none=>False
def S3 (P:Program) (t:TypeId) (fs:List Field):Prop:=P.stoodInHeld t=false∧P.eqGuardType P.depth t=false∧Ci (fun f=>f.name != "_") fs=true
def Wj:AV→Bool
 | .v (.d (.agg _))=>true
 | _=>false
section
variable {C:Cx}{ti:Types}{o:Oper}{fresh:Nat}{s:Af}{h:Heap}{k:Out→Prop}
theorem Wk {M:BS}{d:TypeDesc}{x y:D}{k:Bool→Prop}(hk:Xp M d x y k):∃q,k q∧x.isAgg=false∧y.isAgg=false∧Ax d=false∧
  ∀{P:Program} {w:World} {Z:Av} {u v:Value} {t:TypeId},P.underlying t=some d→Aj w Z x u→Aj w Z y v→∀n,(Op.equalIn (n+1) t u v).run P w= .ok q w:=by
 unfold Xp at hk
 split at hk
 ·split at hk
  ·obtain⟨hq,hk2⟩:=AR.1 hk
   clear hk
   obtain rfl:=of_decide_eq_true hq
   refine⟨_,(M.split_iff _ _).1 hk2,rfl,rfl,rfl,fun hu h1 h2 n=>?_⟩
   cases h1
   cases h2
   rw[M.eqI_eq]
   exact run_equalIn_int _ n _ _ _ _ _ hu
  ·exact hk.elim
 ·split at hk
  ·refine⟨_,(M.split_iff _ _).1 hk,rfl,rfl,rfl,fun hu h1 h2 n=>?_⟩
   cases h1
   cases h2
   rw[M.eqS_eq]
   exact run_equalIn_string _ n _ _ _ hu
  ·exact hk.elim
 ·split at hk
  ·refine⟨_,hk,rfl,rfl,rfl,fun hu h1 h2 n=>?_⟩
   cases h1
   cases h2
   rw[IT]
   exact run_equalIn_bool' _ n _ _ _ hu
  ·exact hk.elim
 ·exact hk.elim
theorem RC {M:BS}(hti:BV M.P ti) {xs ys:List D}:∀{fs:List Field}{k:Bool→Prop},U4 M ti xs ys fs k→Ci (fun f=>f.name != "_") fs=true→
  ∃q,k q∧∀{w:World} {Z:Av} {us vs:Array Value},Aj w Z (.agg xs) (.agg us)→Aj w Z (.agg ys) (.agg vs)→∀n,(Op.eqFields (n+1) us vs fs).run M.P w= .ok q w
 | [],k,hk,_=>⟨true,hk,fun _ _ _=>rfl⟩
 | f::fs,k,hk,hn=>by
  obtain⟨j,hj,hk⟩:=AZ.1 hk
  rw[Ba]at hn
  have hname:f.name≠ "_" :=by simpa using hn f (by simp)
  rw[FK,FK]at hk
  split at hk
  ·rename_i x hx
   split at hk
   ·rename_i y hy
    obtain⟨q,hk,hax,hay,hrow,hq⟩:=Wk hk
    have hund:=(hti _ _ hj).1
    have part1:∀{w:World} {Z:Av} {us:Array Value} {zs:List D} {z:D},Aj w Z (.agg zs) (.agg us)→zs[f.offset]?=some z→∃u,(part f.type us f.offset).run M.P w= .ok u w∧Aj w Z z u:=by
     intro w Z us zs z hr hz
     cases hr with
     | agg _ _ hs h1 h2=>
      have hlt:f.offset<us.size:=by rw[hs];exact (List.getElem?_eq_some_iff.1 hz).1
      refine⟨us[f.offset],?_,h2 f.offset z _ hz (by simp[hlt])⟩
      have e1:(isAgg f.type).run M.P w= .ok false w:=by
       have:=run_underlying hund w
       unfold isAgg
       cases hd:j.desc<;>simp[hd]at this hrow<;>first | (simp[this];done) | (simp[Ax]at hrow)
      simp[part,e1,hlt]
    cases q with
    | true=>
     obtain⟨q',hk',H⟩:=RC hti hk (Ba.2 fun g hg=>hn g (by simp[hg]))
     refine⟨q',hk',fun h1 h2 n=>?_⟩
     obtain⟨u,hu,ru⟩:=part1 h1 hx
     obtain⟨v,hv,rv⟩:=part1 h2 hy
     simp[Op.eqFields,hname,hu,hv,hq hund ru rv n,H h1 h2 n]
    | false=>
     refine⟨false,hk,fun h1 h2 n=>?_⟩
     obtain⟨u,hu,ru⟩:=part1 h1 hx
     obtain⟨v,hv,rv⟩:=part1 h2 hy
     simp[Op.eqFields,hname,hu,hv,hq hund ru rv n]
   ·exact hk.elim
  ·exact hk.elim
def Wl:AV→Bool
 | .v (.d (.int _ _))=>true
 | _=>false
end
end Go.AM
namespace Go.AM
open Go Go.RowKit
def Us:D→D→Option Bool
 | .int q a,.int q' b=>match decide (q=q')with
  | true=>some (a==b)
  | false=>none
 | .str a,.str b=>some (a==b)
 | _,_=>none
def Fj (e:Bool) (key:D):List D→Option (Option D)
 | []=>some none
 | .agg (k::vs)::r=>match Us key k with
  | some true=>some (some (rowOf e vs))
  | some false=>Fj e key r
  | none=>none
 | _::_=>none
def Nu (key:D) (ws:List D):List D→Option (List D)
 | []=>some [.agg (key::ws)]
 | .agg (k::vs)::r=>match Us key k with
  | some true=>some (.agg (key::ws)::r)
  | some false=>match Nu key ws r with
   | some r'=>some (.agg (k::vs)::r')
   | none=>none
  | none=>none
 | _::_=>none
structure KA (w:World) (Z:Av) (e:Bool) (sz:Nat) (row:D) (en:MapEntry):Prop where
 ok:∃k cs,row= .agg (k::cs)∧cs.length+1=sz∧(∀c∈k::cs,c.isAgg=false)∧Aj w Z k en.key∧Aj w Z (rowOf e cs) en.val
 val:Qz e en.val
 size:en.val.cells.size+1=sz
def Dc (w:World) (Z:Av) (e:Bool) (sz:Nat):List D→List MapEntry→Prop
 | [],[]=>True
 | r::rs,m::ms=>KA w Z e sz r m∧Dc w Z e sz rs ms
 | _,_=>False
theorem Dc.len {w:World}{Z:Av}{e:Bool}{sz:Nat}:∀{rows:List D}{ms:List MapEntry},Dc w Z e sz rows ms→ms.length=rows.length
 | [],[],_=>rfl
 | r::rs,m::ms,h=>by simp[Dc.len h.2]
 | [],_::_,h=>h.elim
 | _::_,[],h=>h.elim
theorem Dc.get {w:World}{Z:Av}{e:Bool}{sz:Nat}:∀{rows:List D}{ms:List MapEntry},Dc w Z e sz rows ms→∀(i:Nat) r m,rows[i]?=some r→ms[i]?=some m→KA w Z e sz r m
 | [],[],_,i,r,m,h1,_=>by simp at h1
 | r::rs,m::ms,h,i,r',m',h1,h2=>by
  match i with
  | 0=>simp at h1 h2;subst h1;subst h2;exact h.1
  | i+1=>simp at h1 h2;exact Dc.get h.2 i r' m' h1 h2
 | [],_::_,h,_,_,_,_,_=>h.elim
 | _::_,[],h,_,_,_,_,_=>h.elim
theorem Dc.Un {w:World}{Z:Av}{e:Bool}{sz:Nat}:∀{rows:List D}{ms:List MapEntry},ms.length=rows.length→(∀(i:Nat) r m,rows[i]?=some r→ms[i]?=some m→KA w Z e sz r m)→Dc w Z e sz rows ms
 | [],[],_,_=>trivial
 | r::rs,m::ms,hl,h=>⟨h 0 r m rfl rfl,Dc.Un (by simpa using hl) fun i r' m' h1 h2=>h (i+1) r' m' (by simpa using h1) (by simpa using h2)⟩
 | [],_::_,h,_=>by simp at h
 | _::_,[],h,_=>by simp at h
theorem Dc.mono {w w':World}{Z Z':Av}{e:Bool}{sz:Nat}(hD:∀{x v},Aj w Z x v→Aj w' Z' x v):∀{rows:List D}{ms:List MapEntry},Dc w Z e sz rows ms→Dc w' Z' e sz rows ms
 | [],[],_=>trivial
 | r::rs,m::ms,h=>⟨⟨let ⟨k,cs,h1,h2,h3,h4,h5⟩:=h.1.ok;⟨k,cs,h1,h2,h3,hD h4,hD h5⟩,h.1.val,h.1.size⟩,Dc.mono hD h.2⟩
 | [],_::_,h=>h.elim
 | _::_,[],h=>h.elim
theorem Dc.append {w:World}{Z:Av}{e:Bool}{sz:Nat}{r:D}{m:MapEntry}(h1:KA w Z e sz r m):∀{rows:List D}{ms:List MapEntry},Dc w Z e sz rows ms→Dc w Z e sz (rows++[r]) (ms++[m])
 | [],[],_=>⟨h1,trivial⟩
 | _::_,_::_,h=>⟨h.1,Dc.append h1 h.2⟩
 | [],_::_,h=>h.elim
 | _::_,[],h=>h.elim
theorem Js {sz:Nat}:∀{m:List MapEntry},(∀e∈m,e.val.cells.size+1=sz)→∀(i:Nat) en (j:Nat),m[i]?=some en→j<sz→(m.flatMap fun e=>e.key::e.val.cells.toList)[i*sz+j]?=(en.key::en.val.cells.toList)[j]?
 | [],_,i,en,j,h,_=>by simp at h
 | e::m,hs,i,en,j,h,hj=>by
  have he:=hs e (by simp)
  have hl:(e.key::e.val.cells.toList).length=sz:=by simp;omega
  rw[List.flatMap_cons]
  match i with
  | 0=>
   simp at h
   subst h
   rw[List.getElem?_append_left (by omega)]
   simp
  | i+1=>
   have:(i+1)*sz+j=sz+(i*sz+j):=by rw[Nat.add_mul];omega
   rw[this,List.getElem?_append_right (by omega),hl]
   rw[show sz+(i*sz+j) - sz=i*sz+j by omega]
   exact Js (fun x hx=>hs x (by simp[hx])) i en j (by simpa using h) hj
theorem S4 {w:World}{Z:Av}{e:Bool}{cs:List D}{v:Value}(hv:Qz e v) (hs:v.cells.size=cs.length) (ha:∀c∈cs,c.isAgg=false) (h:∀(j:Nat) c u,cs[j]?=some c→v.cells[j]?=some u→Aj w Z c u):Aj w Z (rowOf e cs) v:=by
 cases e with
 | true=>
  obtain⟨vs,rfl⟩:=hv
  exact .agg cs vs hs ha h
 | false=>
  have hc:=Dl hv
  rw[hc]at hs
  match cs,hs with
  | [d],_=>exact h 0 d v rfl (by rw[hc];rfl)
theorem Nv {w:World}{Z:Av}{g:Ac}{h:Heap}{e:Bool}{sz:Nat}{rows:List D}{gv:Value}(r:Bd w Z g h (.tree (.fmap e) true sz rows none) gv):
  isTu gv∧0<sz∧∃b m clock,gval gv= .map (some b)∧w.heap[b]?=some (.map m clock)∧(∀en∈m,en.born<clock)∧Dc w Z e sz rows m.toList∧∀b',Bi gv b'↔b'=b:=by
 obtain⟨ht,h0,hf,xs,hx,_,U,T,h1,h2,h3,h4,h5⟩:=r
 obtain⟨b,m,clock,hv,hh,hn,hb,hs,hok,rfl⟩:=hx
 have nT:∀i j b',¬T i j b':=by
  intro i j b' hT
  obtain⟨_,r,c,p1,p2⟩:=h2 i j b' hT
  exact ((C0.fz rfl).1 (h1 i r j c (fun _ _ h=>by cases h) p1 p2).2).2 b' hT
 refine⟨ht,h0,b,m,clock,hv,hh,hb,Dc.Un (by simpa using hn) fun i r en hr hm=>?_,fun b'=>?_⟩
 ·have hmem:en∈m:=Array.mem_toList_iff.1 (List.mem_of_getElem? hm)
  obtain⟨f1,f2,f3⟩:=hf r (List.mem_of_getElem? hr)
  have hsz:=hs en hmem
  match r,f1 with
  | .agg l,_=>
   have f2:l.length=sz:=f2
   match l,f2 with
   | [],f2=>simp at f2;omega
   | k::cs,f2=>
    have cell:∀(j:Nat) c u,(k::cs)[j]?=some c→(en.key::en.val.cells.toList)[j]?=some u→Aj w Z c u:=by
     intro j c u hc hu
     have hj:j<sz:=by rw[←f2];exact (List.getElem?_eq_some_iff.1 hc).1
     obtain⟨p1,p2⟩:=h1 i _ j c (fun _ _ h=>by cases h) hr hc
     have:=Js (sz:=sz) (fun e he=>hs e (Array.mem_toList_iff.1 he)) i en j hm hj
     rw[show J4 m=m.toList.flatMap fun e=>e.key::e.val.cells.toList from rfl,this,hu]at p1
     cases p1
     exact ((C0.fz rfl).1 p2).1.1
    refine⟨⟨k,cs,rfl,by simpa using f2,f3,cell 0 k _ rfl rfl,S4 (hok en hmem) (by simp at f2;omega) (fun c hc=>f3 c (by simp[D.cells,hc])) fun j c u hc hu=>cell (j+1) c u (by simpa using hc) (by simpa using hu)⟩,hok en hmem,hsz⟩
 ·rw[h5,hv]
  constructor
  ·rintro (h | ⟨i,j,h⟩)
   ·simp[blk]at h;exact h.symm
   ·exact (nT i j b' h).elim
  ·rintro rfl
   exact .inl rfl
theorem RD {w:World}{Z:Av}{g:Ac}{h:Heap}{e:Bool}{sz:Nat}{rows:List D}{gv:Value}{b:Nat}{m:Array MapEntry}{clock:Nat}(ht:isTu gv) (h0:0<sz) (hv:gval gv= .map (some b)) (hh:w.heap[b]?=some (.map m clock))
  (hb:∀en∈m,en.born<clock) (he:Dc w Z e sz rows m.toList) (hbl:∀b',Bi gv b'↔b'=b):Bd w Z g h (.tree (.fmap e) true sz rows none) gv:=by
 have hl:=he.len
 have pick:∀(i:Nat) r,rows[i]?=some r→∃en,m.toList[i]?=some en∧KA w Z e sz r en:=by
  intro i r hr
  have hlt:=(List.getElem?_eq_some_iff.1 hr).1
  have hm:m.toList[i]?=some (m.toList[i]'(by omega)):=List.getElem?_eq_getElem (by omega)
  exact⟨_,hm,he.get i r _ hr hm⟩
 have pick':∀en∈m,∃r,KA w Z e sz r en:=by
  intro en hen
  obtain⟨i,hi⟩:=List.mem_iff_getElem?.1 (Array.mem_toList_iff.2 hen)
  have hlt:=(List.getElem?_eq_some_iff.1 hi).1
  exact⟨_,he.get i (rows[i]'(by omega)) en (List.getElem?_eq_getElem (by omega)) hi⟩
 have hs:∀en∈m,en.val.cells.size+1=sz:=fun en hen=>let ⟨_,h⟩:=pick' en hen;h.size
 refine⟨ht,h0,fun r hr=>?_,J4 m,⟨b,m,clock,hv,hh,by simpa using hl,hb,hs,fun en hen=>let ⟨_,h⟩:=pick' en hen;h.val,rfl⟩,(fun _ _ h=>by cases h),fun i j=>(J4 m).getD (i*sz+j) undef,fun _ _ _=>False,fun i r j c _ hr hc=>?_,fun _ _ _ h=>h.elim,fun _ _ _ h=>h.elim,fun _ _ _ _ _ h=>h.elim,fun b'=>?_⟩
 ·obtain⟨i,hi⟩:=List.mem_iff_getElem?.1 hr
  obtain⟨en,_,hen⟩:=pick i r hi
  obtain⟨k,cs,rfl,q2,q3,_⟩:=hen.ok
  exact⟨rfl,by simpa [D.cells] using q2,q3⟩
 ·obtain⟨en,hm,hen⟩:=pick i r hr
  obtain⟨k,cs,rfl,q2,q3,q4,q5⟩:=hen.ok
  have hc:(k::cs)[j]?=some c:=hc
  have hj:j<sz:=by have:=(List.getElem?_eq_some_iff.1 hc).1;simp at this;omega
  have hfl:=Js (sz:=sz) (fun e he=>hs e (Array.mem_toList_iff.1 he)) i en j hm hj
  have hfl:(J4 m)[i*sz+j]?=(en.key::en.val.cells.toList)[j]?:=hfl
  have hsz:=hen.size
  have hjl:j<(en.key::en.val.cells.toList).length:=by simp;omega
  have hu:=List.getElem?_eq_getElem hjl
  have hag:(rowOf e cs).cells=cs:=by
   cases e with
   | true=>rfl
   | false=>
    have hv:=Dl hen.val
    rw[hv]at hsz
    match cs,(show cs.length=1 by simp at hsz;omega)with
    | [d],_=>
     have:=q3 d (by simp)
     show d.cells=[d]
     cases d<;>first | rfl | simp[D.isAgg]at this
  have hcell:=q5.cellsOf
  refine⟨by simp[hfl,hu],(C0.fz rfl).2 ⟨⟨?_,q3 c (List.mem_of_getElem? hc)⟩,fun _ h=>h⟩⟩
  show Aj w Z c ((J4 m).getD (i*sz+j) undef)
  rw[show (J4 m).getD (i*sz+j) undef=(en.key::en.val.cells.toList)[j]by simp[hfl,hu]]
  match j with
  | 0=>simp at hc;subst hc;exact q4
  | j+1=>
   have hc':cs[j]?=some c:=by simpa using hc
   have hu':en.val.cells[j]?=some (en.key::en.val.cells.toList)[j+1]:=by
    simp at hjl
    simp[hjl]
   exact (hcell.2 j c _ (by rw[hag];exact hc') hu').1
 ·rw[hbl,hv]
  simp[blk,eq_comm]
theorem Cj {P:Program}{w:World}{r:Nat}{es:Array MapEntry}{clock:Nat}(hb:w.heap[r]?=some (.map es clock)):(getObj r).run P w= .ok (.map es clock) w:=by simp[getObj,Sem.run,hb]
theorem DD {P:Program}{w:World}{r:Nat}{es:Array MapEntry}{clock:Nat}(o:Obj) (hb:w.heap[r]?=some (.map es clock)):(setObj r o).run P w= .ok () {w with heap:=w.heap.setIfInBounds r o}:=by simp[setObj,Sem.run,hb]
theorem Ap.Xb {C:Cx}{F:Nat→Prop}{s:Af}{h:Heap}{g:Ac}{a:Act}{w:World}(R:Ap C F s h g a w) {id:Id}{e:Bool}{sz:Nat}{rows rows':List D}(hid:h id=some (.tree (.fmap e) true sz rows none)) {b:Nat}
  (hv:gval (g id)= .map (some b)) {m m':Array MapEntry} {clock clock':Nat} (hh:w.heap[b]?=some (.map m clock)) (hb:∀en∈m',en.born<clock')
  (he:Dc w (BN (zone g h) C.X) e sz rows' m'.toList):Ap C F s (AX h id (.tree (.fmap e) true sz rows' none)) g a {w with heap:=w.heap.setIfInBounds b (.map m' clock')}:=by
 obtain⟨ht,h0,b0,m0,c0,hv0,hh0,_,_,hbl⟩:=Nv (R.heap.objs id _ hid)
 rw[hv]at hv0
 cases hv0
 have hlt:b<w.heap.size:=(Array.getElem?_eq_some_iff.1 hh).1
 let w':World:={w with heap:=w.heap.setIfInBounds b (.map m' clock')}
 have hother:∀b',b'≠b→w'.heap[b']?=w.heap[b']?:=fun b' hb'=>by
  show (w.heap.setIfInBounds b (.map m' clock'))[b']?=_
  rw[Array.getElem?_setIfInBounds]
  simp[Ne.symm hb']
 have hself:w'.heap[b]?=some (.map m' clock'):=by
  show (w.heap.setIfInBounds b (.map m' clock'))[b]?=_
  rw[Array.getElem?_setIfInBounds]
  simp[hlt]
 have hcell:∀b' o u,w.cell? ⟨b',o,none⟩=some u→w'.cell? ⟨b',o,none⟩=some u:=by
  intro b' o u hu
  have hne:b'≠b:=by
   rintro rfl
   simp[World.cell?,hh]at hu
  simpa [World.cell?,hother b' hne] using hu
 have hz:∀b' o,zone g (AX h id (.tree (.fmap e) true sz rows' none)) b' o→zone g h b' o:=by
  rintro b' o ⟨i,ob,hi,h1⟩
  by_cases hin:i=id
  ·subst hin
   simp[AX]at hi
   subst hi
   exact⟨i,_,hid,h1⟩
  ·simp only[AX,if_neg hin]at hi
   exact⟨i,ob,hi,h1⟩
 have E:IM w (BN (zone g h) C.X) g h w' (BN (zone g (AX h id (.tree (.fmap e) true sz rows' none))) C.X) g (AX h id (.tree (.fmap e) true sz rows' none)):=by
  refine⟨fun b' o u hu hn=>⟨hcell b' o u hu,?_⟩,fun _ _ _=>rfl,fun _ _ _=>rfl,fun _ hi=>hi,fun i k sz' e' _ hk=>?_,fun _ hi=>hi,fun i hi hk=>?_⟩
  ·rintro (hx | hx)
   ·exact hn (.inl (hz b' o hx))
   ·exact hn (.inr hx)
  ·have hin:i≠id:=by rintro rfl;simp[AX]at hk
   exact⟨k,Nat.le_refl _,by simpa [AX,hin] using hk,fun _=>rfl⟩
  ·by_cases hin:i=id
   ·subst hin
    exact⟨by rw[hid];rfl,rfl⟩
   ·exact⟨by simpa [AX,hin] using hk,rfl⟩
 refine R.step (fun i=>i=id) E ⟨rfl,rfl,rfl,by simp,fun b' _ hzn=>hother b' ?_,fun b' o u hu _=>hcell b' o u hu⟩ ?_ ?_ ?_ ?_ ?_ ?_ ?_
 ·rintro rfl
  exact hzn 0 ⟨id,_,hid,(hbl _).2 rfl⟩
 ·intro i hi
  simp[AX,hi]
 ·intro i o b' hi ho hb'
  refine hother b' ?_
  rintro rfl
  exact hi (R.heap.sep i id o _ _ ho hid hb' ((hbl _).2 rfl))
 ·rintro i o rfl ho
  simp[AX]at ho
  subst ho
  exact RD ht h0 hv hself hb (he.mono E.G5) hbl
 ·rintro i o b' p rfl ho hb'
  simp[AX]at ho
  subst ho
  exact .inl ⟨_,_,rfl,hid,hb'⟩
 ·rintro i j _ _ _ rfl rfl _ _ _ _
  rfl
 ·rintro j rfl
  exact .refl _
 ·intro k hk
  obtain⟨h1,h2⟩:=R.free k hk
  have hin:Id.loc k≠id:=by rintro rfl;rw[h2]at hid;simp at hid
  exact⟨h1,by simp[AX,hin,h2]⟩
def IW (d:TypeDesc) (x:D):Bool:=
 match x with
 | .int _ _=>match d with
  | .int _=>true
  | _=>false
 | .str _=>match d with
  | .string=>true
  | _=>false
 | _=>false
theorem Dt {w:World}{Z:Av}{d:TypeDesc}{x y:D}{u v:Value}{q:Bool}(hk:IW d x=true) (hx:Aj w Z x u) (hy:Aj w Z y v) (h:Us x y=some q):Instr.sameNow d u v=some q∧(q=true→Instr.sameBits 10000 v u=true):=by
 cases x<;>simp[IW]at hk
 ·cases hx
  cases y<;>simp[Us]at h
  cases hy
  split at hk<;>try cases hk
  split at h
  ·rename_i hq
   have hq:=of_decide_eq_true hq
   subst hq
   cases h
   refine⟨by simp[Instr.sameNow],fun he=>?_⟩
   rw[eq_of_beq he,Instr.sameBits]
   simp
  ·cases h
 ·cases hx
  cases y<;>simp[Us]at h
  cases hy
  split at hk<;>try cases hk
  subst h
  refine⟨by simp[Instr.sameNow],fun he=>?_⟩
  rw[Instr.sameBits]
  rw[beq_toListBytes]at he ⊢
  rw[eq_of_beq he]
  exact beq_self_eq_true _
theorem O6 {w:World}{Z:Av}{e:Bool}{sz:Nat}{d:TypeDesc}{key:D}{kv:Value}(hk:IW d key=true) (hkv:Aj w Z key kv):∀{rows:List D}{ms:List MapEntry}{r:Option D}(i:Nat),Dc w Z e sz rows ms→Fj e key rows=some r→
  (r=none∧Instr.findNow d kv ms i=some none)∨∃(y:D) (j:Nat) (en:MapEntry),r=some y∧Instr.findNow d kv ms i=some (some (j,en.val))∧Aj w Z y en.val
 | [],[],r,i,_,h=>by cases h;exact .inl ⟨rfl,rfl⟩
 | r0::rs,m::ms,r,i,he,h=>by
  obtain⟨k,cs,rfl,q2,q3,q4,q5⟩:=he.1.ok
  unfold Fj at h
  split at h
  ·rename_i heq
   cases h
   exact .inr ⟨_,i,m,rfl,by simp[Instr.findNow,(Dt hk hkv q4 heq).1],q5⟩
  ·rename_i heq
   rcases O6 hk hkv (i+1) he.2 h with⟨h1,h2⟩ | ⟨y,j,en,h1,h2,h3⟩
   ·exact .inl ⟨h1,by simp[Instr.findNow,(Dt hk hkv q4 heq).1,h2]⟩
   ·exact .inr ⟨y,j,en,h1,by simp[Instr.findNow,(Dt hk hkv q4 heq).1,h2],h3⟩
  ·cases h
 | [],_::_,_,_,h,_=>h.elim
 | _::_,[],_,_,h,_=>h.elim
theorem RE {w:World}{Z:Av}{e:Bool}{sz:Nat}{d:TypeDesc}{key:D}{ws:List D}{kv val:Value}(hk:IW d key=true) (hkv:Aj w Z key kv) (hnew:∀b,KA w Z e sz (.agg (key::ws)) ⟨kv,val,b⟩):
  ∀{rows:List D} {ms:List MapEntry} {rows':List D} (i:Nat),Dc w Z e sz rows ms→Nu key ws rows=some rows'→
  (Instr.findNow d kv ms i=some none∧∀b,Dc w Z e sz rows' (ms++[⟨kv,val,b⟩]))∨
   ∃(j:Nat) (en:MapEntry),ms[j]?=some en∧Instr.findNow d kv ms i=some (some (i+j,en.val))∧Instr.sameBits 10000 en.key kv=true∧Dc w Z e sz rows' (ms.set j {en with key:=kv,val:=val})
 | [],[],rows',i,_,h=>by
  cases h
  exact .inl ⟨rfl,fun b=>⟨hnew b,trivial⟩⟩
 | r0::rs,m::ms,rows',i,he,h=>by
  obtain⟨k,cs,rfl,q2,q3,q4,q5⟩:=he.1.ok
  unfold Nu at h
  split at h
  ·rename_i heq
   cases h
   obtain⟨s1,s2⟩:=Dt hk hkv q4 heq
   exact .inr ⟨0,m,rfl,by simp[Instr.findNow,s1],s2 rfl,⟨⟨(hnew m.born).ok,(hnew m.born).val,(hnew m.born).size⟩,he.2⟩⟩
  ·rename_i heq
   split at h
   ·rename_i r' hr'
    cases h
    obtain⟨s1,s2⟩:=Dt hk hkv q4 heq
    rcases RE hk hkv hnew (i+1) he.2 hr' with⟨h1,h2⟩ | ⟨j,en,h1,h2,h3,h4⟩
    ·exact .inl ⟨by simp[Instr.findNow,s1,h1],fun b=>⟨he.1,h2 b⟩⟩
    ·exact .inr ⟨j+1,en,by simpa using h1,by simp[Instr.findNow,s1,h2];omega,h3,⟨he.1,h4⟩⟩
   ·cases h
  ·cases h
 | [],_::_,_,_,h,_=>h.elim
 | _::_,[],_,_,h,_=>h.elim
def RG (x:AV) (h:Heap) (K:Id→Bool→Nat→List D→Prop):Prop:=
 match x with
 | .v (.c (.ow id))=>match h id with
  | some (.tree kd ag sz rows foc)=>match kd with
   | .fmap e=>match ag with
    | true=>match foc with
     | none=>K id e sz rows
     | some _=>False
    | false=>False
   | _=>False
  | _=>False
 | _=>False
def H4 (M:BS) (ti:Types) (t:TypeId) (x key:AV) (ok:Bool) (h:Heap) (k:Out→Prop):Prop:=
 BK ti t fun q=>match q.desc with
 | .map kt et=>BK ti kt fun kk=>BK ti et fun j=>Bq (K8 j)<| match key with
  | .v (.d key)=>Bq (IW kk.desc key)<| RG x h fun id e sz rows=>Bq (e==Ax j.desc)<| ∃r,(M.lock fun _=>Fj e key rows=some r)∧(match r with
   | some y=>(match ok with
    | true=>k ⟨.t [.d y,.d (.bool true)],[id],[]⟩
    | false=>k ⟨.v (.d y),[id],[]⟩)
   | none=>(match ok with
    | true=>k ⟨.t [V1.BL (Ax j.desc) j.zc,.d (.bool false)],[id],[]⟩
    | false=>k ⟨.v (V1.BL (Ax j.desc) j.zc),[id],[]⟩))
  | _=>False
 | _=>False
def FL (M:BS) (ti:Types) (t:TypeId) (x key y:AV) (h:Heap) (k:Out→Prop):Prop:=
 BK ti t fun q=>match q.desc with
 | .map kt et=>BK ti kt fun kk=>BK ti et fun j=>match key with
  | .v (.d key)=>Bq (IW kk.desc key)<| HM y fun y=>match y.norm with
   | .d d=>Bq (d.isAgg==Ax j.desc)<| Bq (Nat.beq d.cells.length j.size)<| RG x h fun id e sz rows=>Bq (e==Ax j.desc)<| Bq (Nat.beq sz (j.size+1))<|
    ∃rows',(M.lock fun _=>Nu key d.cells rows=some rows')∧k ⟨.u,[id],[(id,.tree (.fmap e) true sz rows' none)]⟩
   | _=>False
  | _=>False
 | _=>False
def GK (ti:Types) (t:TypeId) (fresh:Nat) (k:Out→Prop):Prop:=
 BK ti t fun q=>match q.desc with
 | .map _ et=>BK ti et fun j=>k ⟨.v (.c (.ow (.loc fresh))),[],[(.loc fresh,.tree (.fmap (Ax j.desc)) true (j.size+1) [] none)]⟩
 | _=>False
section
variable {C:Cx}{ti:Types}{o:Oper}{fresh:Nat}{s:Af}{h:Heap}{k:Out→Prop}
theorem NF {x:AV}{K:Id→Bool→Nat→List D→Prop}(hk:RG x h K):∃id e sz rows,K id e sz rows∧h id=some (.tree (.fmap e) true sz rows none)∧
  ∀{w:World} {Z:Av} {g:Ac} {σh:Heap} {u:Value},σh id=h id→BG w Z g σh x u→u=gval (g id):=by
 unfold RG at hk
 split at hk
 ·rename_i id
  split at hk
  ·rename_i kd ag sz rows foc hid
   split at hk
   ·rename_i e
    split at hk
    ·split at hk
     ·refine⟨id,e,sz,rows,hk,hid,fun hσ hr=>hr.2.2 (by rw[hσ,hid];rfl)⟩
     ·exact hk.elim
    ·exact hk.elim
   ·exact hk.elim
  ·exact hk.elim
 ·exact hk.elim
theorem GL {P:Program}{w:World}{kt:TypeId}{d:TypeDesc}{key:D}{Z:Av}{u:Value}(hd:P.underlying kt=some d) (hk:IW d key=true) (hu:Aj w Z key u) (b:Bool) (n:Nat):(Instr.checkKey b (n+1) kt u).run P w= .ok () w:=by
 have e2:=run_underlying hd w
 cases key<;>simp[IW]at hk
 all_goals
  split at hk<;>try cases hk
  simp[Instr.checkKey,e2]
theorem Wm {j:TI}{et:TypeId}{P:Program}(hti:BV P ti) (hj:ti et=some j) (hz0:K8 j=true):∀(w:World) (Z:Av) (g:Ac) (h:Heap),BE w Z g h (V1.BL (Ax j.desc) j.zc) j.zero:=by
 obtain⟨_,ii',j1,j2,_,_,j5,j6,j7⟩:=hti et j hj
 intro w Z g h
 have hc:∀(q:Nat) c u,j.zc[q]?=some c→j.zero.cells[q]?=some u→BM w Z g h c u:=fun q c u h1 h2=>E3 (j7 q c u h1 h2)
 have hl:j.zero.cells.size=j.zc.length:=by rw[j5,j6]
 have hz1:=hz0
 unfold K8 at hz1
 split at hz1
 ·rename_i cs hcs
  rw[hcs]at hc hl ⊢
  exact (BE.BL hl hc).1 hz1
 ·cases hz1
 ·rename_i v h1 h2
  have hrow:Ax j.desc=false:=by cases hh:Ax j.desc<;>simp[hh,HK]at hz1 ⊢
  have hcell:j.zero.cells=#[j.zero]:=by
   cases hz:j.zero<;>first | rfl | exact absurd hz (h1 _)
  exact (BE.BL hl hc).2 hrow _ hcell
theorem QK (hti:BV C.P ti) (t:TypeId) (x y:Operand) (ok:Bool) (ho:o.op= .lookup t x y ok) (hk:H4 C.M ti t (BQ ti s t x) (BQ ti s 0 y) ok h k):∃out,k out∧Bm C o fresh s h out:=by
 unfold H4 at hk
 obtain⟨q,hq,hk⟩:=AZ.1 hk
 split at hk
 ·rename_i kt et hd
  obtain⟨kk,hkk,hk⟩:=AZ.1 hk
  obtain⟨j,hj,hk⟩:=AZ.1 hk
  obtain⟨hz0,hk⟩:=AR.1 hk
  split at hk
  ·rename_i key hop
   obtain⟨hkey,hk⟩:=AR.1 hk
   obtain⟨id,e,sz,rows,hk,hid,hrel⟩:=NF hk
   obtain⟨he,hk⟩:=AR.1 hk
   obtain rfl:e=Ax j.desc:=by simpa using he
   obtain⟨r,hl,hk⟩:=hk
   have hfind:=(C.M.lock_iff _).1 hl
   have run:∀F σs σh g a w,Ap C F σs σh g a w→(∀t,Operand.tmp t∈o.op.operands.toList→σs t=s t)→(∀i∈[id],σh i=h i)→
     ∃v b,(execOp a.eval o).run C.P w= .ok (.value (if ok then .tuple #[v,.bool b]else v)) w∧(match r with | some y=>Aj w (BN (zone g σh) C.X) y v∧b=true | none=>v=j.zero∧b=false):=by
    intro F σs σh g a w R hs hrd
    have hx:=Ai ti t x R (s:=s) (fun t ht=>hs t (by subst ht;simp[ho,Op.operands]))
    have hy:=Ai ti 0 y R (s:=s) (fun t ht=>hs t (by subst ht;simp[ho,Op.operands]))
    rw[hop]at hy
    have hy:Aj w _ key (a.eval y):=hy
    have hσ:=hrd id (by simp)
    have hv:=hrel hσ hx
    obtain⟨ht,h0,b,m,clock,g1,g2,_,g4,_⟩:=Nv (R.heap.objs id _ (hσ.trans hid))
    rw[g1]at hv
    have e1:=DB hti hq w
    rw[hd]at e1
    have e2:=DB hti hkk w
    obtain⟨ii,i1,i2,i3,i4,i5⟩:=CZ hti hj
    have e3:(zeroValue et).run C.P w= .ok j.zero w:=by simp[zeroValue,typeInfo,i1,i4]
    have e4:∀b,(Instr.checkKey b 10000 kt (a.eval y)).run C.P w= .ok () w:=fun b=>GL (hti kt kk hkk).1 hkey hy b 9999
    have e5:=Cj (P:=C.P) g2
    rcases O6 hkey hy 0 g4 hfind with⟨rfl,h2⟩ | ⟨y',j',en,rfl,h2,h3⟩
    ·exact⟨j.zero,false,by simp[execOp,ho,Instr.lookup,e1,hv,e5,e4,Instr.findKey,e2,h2,e3],rfl,rfl⟩
    ·exact⟨en.val,true,by simp[execOp,ho,Instr.lookup,e1,hv,e5,e4,Instr.findKey,e2,h2],h3,rfl⟩
   cases r with
   | some y'=>
    cases ok with
    | true=>
     refine⟨_,hk,AY fun F σs σh g a w R hs hrd=>?_⟩
     obtain⟨v,b,e1,e2,rfl⟩:=run F σs σh g a w R hs hrd
     refine⟨_,e1,#[v,.bool true],rfl,rfl,fun q c u hc hu=>?_⟩
     match q with
     | 0=>simp at hc hu;subst hc;subst hu;exact e2
     | 1=>simp at hc hu;subst hc;subst hu;exact .bool _
     | q+2=>simp at hc
    | false=>
     refine⟨_,hk,AY fun F σs σh g a w R hs hrd=>?_⟩
     obtain⟨v,b,e1,e2,rfl⟩:=run F σs σh g a w R hs hrd
     exact⟨_,e1,e2⟩
   | none=>
    have rel:=Wm hti hj hz0
    cases ok with
    | true=>
     refine⟨_,hk,AY fun F σs σh g a w R hs hrd=>?_⟩
     obtain⟨v,b,e1,rfl,rfl⟩:=run F σs σh g a w R hs hrd
     refine⟨_,e1,#[j.zero,.bool false],rfl,rfl,fun q c u hc hu=>?_⟩
     match q with
     | 0=>simp at hc hu;subst hc;subst hu;exact rel _ _ _ _
     | 1=>simp at hc hu;subst hc;subst hu;exact .bool _
     | q+2=>simp at hc
    | false=>
     refine⟨_,hk,AY fun F σs σh g a w R hs hrd=>?_⟩
     obtain⟨v,b,e1,rfl,rfl⟩:=run F σs σh g a w R hs hrd
     exact⟨_,e1,rel _ _ _ _⟩
  ·exact hk.elim
 ·exact hk.elim
theorem O7 (hti:BV C.P ti) (t:TypeId) (ho:o.op= .makeMap t none) (hk:GK ti t fresh k):∃out,k out∧Bm C o fresh s h out:=by
 unfold GK at hk
 obtain⟨q,hq,hk⟩:=AZ.1 hk
 split at hk
 ·rename_i kt et hd
  obtain⟨j,hj,hk⟩:=AZ.1 hk
  refine⟨_,hk,?_⟩
  rintro F σs σh a w Q ⟨g,R⟩ hs hrd hF hdst
  have hrun:(execOp a.eval o).run C.P w= .ok (.value (.map (some w.heap.size))) (w.alloc (.map #[] 0)):=by
   simp[execOp,ho,Instr.makeMap]
  obtain⟨g',R',hrel⟩:=R.Rs (T0:=[]) (n:=fresh) (w':=w.alloc (.map #[] 0)) (by simp) (hF 0 (by omega)) ⟨rfl,rfl,rfl,by simp⟩ (fun b hb _=>Below.heap_alloc w _ b hb) (kd:=.fmap (Ax j.desc)) (ag:=true) (sz:=j.size+1) (out:=[])
   (v:=.map (some w.heap.size)) (fun b=>b=w.heap.size) [w.heap.size] (by simp) (fun b hb=>.inr (by omega)) rfl
   (fun Z' g' h' gv gt gg gb _=>RD gt (by omega) gg (heap_alloc_new w _) (by simp) trivial gb)
  unfold Oper.wp
  rw[hrun]
  exact⟨g',(R'.put hdst (v:=.v (.c (.ow (.loc fresh)))) hrel).BH (fun n hn=>⟨hn.1,fun e=>hn.2 (by omega)⟩)⟩
 ·exact hk.elim
theorem LN (hti:BV C.P ti) (t:TypeId) (x y z:Operand) (ho:o.op= .mapUpdate t x y z∨o.op= .insert t x y z) (hd:o.dst=none) (hk:FL C.M ti t (BQ ti s t x) (BQ ti s 0 y) (BQ ti s 0 z) h k):∃out,k out∧Bm C o fresh s h out:=by
 unfold FL at hk
 obtain⟨q,hq,hk⟩:=AZ.1 hk
 split at hk
 ·rename_i kt et hdd
  obtain⟨kk,hkk,hk⟩:=AZ.1 hk
  obtain⟨j,hj,hk⟩:=AZ.1 hk
  split at hk
  ·rename_i key hop
   obtain⟨hkey,hk⟩:=AR.1 hk
   obtain⟨yv,hyv,hk⟩:=DH.1 hk
   split at hk
   ·rename_i d hnorm
    obtain⟨hag,hk⟩:=AR.1 hk
    obtain⟨hcl,hk⟩:=AR.1 hk
    obtain⟨id,e,sz,rows,hk,hid,hrel⟩:=NF hk
    obtain⟨he,hk⟩:=AR.1 hk
    obtain⟨hsz,hk⟩:=AR.1 hk
    obtain rfl:e=Ax j.desc:=by simpa using he
    obtain rfl:=Nat.eq_of_beq_eq_true hsz
    have hcl:=Nat.eq_of_beq_eq_true hcl
    have hag:d.isAgg=Ax j.desc:=by simpa using hag
    obtain⟨rows',hl,hk⟩:=hk
    have hput:=(C.M.lock_iff _).1 hl
    refine⟨_,hk,?_⟩
    rintro F σs σh a w Q ⟨g,R⟩ hs hrd hF hdst
    have hx:=Ai ti t x R (s:=s) (fun t ht=>hs t (by subst ht;rcases ho with ho | ho<;>simp[ho,Op.operands]))
    have hy:=Ai ti 0 y R (s:=s) (fun t ht=>hs t (by subst ht;rcases ho with ho | ho<;>simp[ho,Op.operands]))
    have hz:=Ai ti 0 z R (s:=s) (fun t ht=>hs t (by subst ht;rcases ho with ho | ho<;>simp[ho,Op.operands]))
    rw[hop]at hy
    have hy:Aj w (BN (zone g σh) C.X) key (a.eval y):=hy
    rw[hyv]at hz
    have hz:BE w (BN (zone g σh) C.X) g σh yv (a.eval z):=hz
    have hz:=hz.norm
    rw[hnorm]at hz
    have hz:Aj w (BN (zone g σh) C.X) d (a.eval z):=hz
    have hσ:=hrd id (by simp)
    have hv:=hrel hσ hx
    obtain⟨ht,h0,b,m,clock,g1,g2,g3,g4,_⟩:=Nv (R.heap.objs id _ (hσ.trans hid))
    rw[g1]at hv
    obtain⟨c1,c2⟩:=hz.cellsOf
    have hcells:rowOf (Ax j.desc) d.cells=d:=by
     rw[←hag]
     cases d<;>rfl
    have hnew:∀bn,KA w (BN (zone g σh) C.X) (Ax j.desc) (j.size+1) (.agg (key::d.cells)) ⟨a.eval y,a.eval z,bn⟩:=fun bn=>by
     refine⟨⟨key,d.cells,rfl,by omega,fun c hc=>?_,hy,by rw[hcells];exact hz⟩,?_,by show (a.eval z).cells.size+1=_;rw[c1,hcl]⟩
     ·rcases List.mem_cons.1 hc with rfl | hc
      ·cases c<;>first | rfl | simp[IW]at hkey
      ·obtain⟨q,hq'⟩:=List.mem_iff_getElem?.1 hc
       have hlt:=(List.getElem?_eq_some_iff.1 hq').1
       exact (c2 q c ((a.eval z).cells[q]'(by omega)) hq' (by simp)).2
     ·show Qz (Ax j.desc) (a.eval z)
      rw[←hag]
      cases hda:d.isAgg with
      | true=>
       cases d<;>simp[D.isAgg]at hda
       obtain⟨vs,hvs⟩:=LF (g:=g) (h:=σh) (y:=.d (.agg _)) rfl hz
       exact⟨vs,hvs⟩
      | false=>exact hz.Bw hda
    have e1:=DB hti hq w
    rw[hdd]at e1
    have e2:=DB hti hkk w
    have e4:∀b,(Instr.checkKey b 10000 kt (a.eval y)).run C.P w= .ok () w:=fun b=>GL (hti kt kk hkk).1 hkey hy b 9999
    have e5:=Cj (P:=C.P) g2
    have fin:∀(m':Array MapEntry) (clock':Nat),(∀en∈m',en.born<clock')→Dc w (BN (zone g σh) C.X) (Ax j.desc) (j.size+1) rows' m'.toList→(execOp a.eval o).run C.P w= .ok .skip {w with heap:=w.heap.setIfInBounds b (.map m' clock')}→
      o.wp C.P a w (fun a' w'=>Rel C (fun n=>F n∧¬(fresh≤n∧n<fresh+32)) (DY σs o.dst .u) (BP σh [(id,.tree (.fmap (Ax j.desc)) true (j.size+1) rows' none)]) a' w') Q:=by
     intro m' clock' f1 f2 f3
     unfold Oper.wp
     rw[f3]
     have R':=R.Xb (hσ.trans hid) g1 g2 f1 f2
     exact⟨g,(R'.put (dst:=o.dst) (v:=.u) (u:=undef) (fun d e=>by rw[hd]at e;cases e) trivial).BH (fun n hn=>hn.1)⟩
    rcases RE hkey hy hnew 0 g4 hput with⟨h1,h2⟩ | ⟨q',en,h1,h2,h3,h4⟩
    ·refine fin (m.push ⟨a.eval y,a.eval z,clock⟩) (clock+1) (fun en hen=>?_) (by simpa using h2 clock) ?_
     ·rcases Array.mem_push.1 hen with hen | rfl
      ·have:=g3 en hen;omega
      ·exact Nat.lt_succ_self _
     ·have:=DD (P:=C.P) (.map (m.push ⟨a.eval y,a.eval z,clock⟩) (clock+1)) g2
      rcases ho with ho | ho<;>simp[execOp,ho,Instr.mapUpdate,e1,hv,e5,e4,Instr.findKey,e2,h1,this]
    ·have hlt:=(List.getElem?_eq_some_iff.1 h1).1
     have hlt':q'<m.size:=by simpa using hlt
     have hmod:(m.modify q' fun e=>{e with key:=a.eval y,val:=a.eval z}).toList=m.toList.set q' {en with key:=a.eval y,val:=a.eval z}:=by
      apply List.ext_getElem?
      intro i
      rw[Array.getElem?_toList,Array.getElem?_modify,List.getElem?_set]
      by_cases hi:q'=i
      ·subst hi
       have:m[q']?=some en:=by simpa using h1
       have h9:m[q']=en:=(Array.getElem?_eq_some_iff.1 this).2
       simp[this,hlt',h9]
      ·simp[hi]
     refine fin (m.modify q' fun e=>{e with key:=a.eval y,val:=a.eval z}) clock (fun en' hen=>?_) (by rw[hmod];exact h4) ?_
     ·have hen:=Array.mem_toList_iff.2 hen
      rw[hmod]at hen
      rcases List.mem_or_eq_of_mem_set hen with hen | rfl
      ·exact g3 en' (Array.mem_toList_iff.1 hen)
      ·exact g3 en (Array.mem_toList_iff.1 (List.mem_of_getElem? h1))
     ·have:=DD (P:=C.P) (.map (m.modify q' fun e=>{e with key:=a.eval y,val:=a.eval z}) clock) g2
      have hq'':m[q']?=some en:=by simpa using h1
      simp only[Nat.zero_add]at h2
      rcases ho with ho | ho<;>simp[execOp,ho,Instr.mapUpdate,e1,hv,e5,e4,Instr.findKey,e2,h2,hq'',Instr.keyThatStays,h3,this]
   ·exact hk.elim
  ·exact hk.elim
 ·exact hk.elim
def U5 (P:Program) (n:FuncId):Prop:=∃fn,P.funcs[n]?=some fn∧(fn.name== "runtime.NumGoroutine")=false∧fn.body.isNone=true∧Extern.findNext fn=none∧Extern.find fn=some add64Entry
def Wn (M:BS) (f:AV) (args:List AV) (k:Out→Prop):Prop:=
 match f with
 | .v (.c (.fn n cap))=>match cap with
  | []=>match J6 args with
   | some xs=>match xs with
    | [.d (.int .u64 x),.d (.int .u64 y),.d (.int .u64 c)]=>(M.lock fun _=>U5 M.P n∧0≤x∧0≤y∧0≤c∧c≤1)∧∃z u:Int,(x+y+c) % 18446744073709551616=z∧(x+y+c) / 18446744073709551616=u∧k ⟨.t [.d (.int .u64 z),.d (.int .u64 u)],[],[]⟩
    | _=>False
   | none=>False
  | _=>False
 | _=>False
end
end Go.AM
namespace Go.AM
open Go Go.RowKit
def Bx:List Az→ByteArray→Bool→Int
 | [],_,_=>0
 | x::r,s,b=>if x.1=(s,b)then x.2 else Bx r s b
def E4:List Az→ByteArray→Bool→Int→List Az
 | [],s,b,z=>[((s,b),z)]
 | x::r,s,b,z=>if x.1=(s,b)then (x.1,z)::r else x::E4 r s b z
def IX:List Az→ByteArray×Bool→Nat→Option Nat
 | [],_,_=>none
 | x::r,k,i=>if x.1=k then some i else IX r k (i+1)
theorem S5 {w:World}{Z:Av}{g:Ac}{h:Heap}{kt et:TypeId}{m:List Az}{gv:Value}(r:Bd w Z g h (.map kt et m) gv):
  ∃r ma clock,gv= .map (some r)∧w.heap[r]?=some (.map ma clock)∧ES ma clock∧Cv ma.toList m:=r
theorem Wo {w:World}{Z:Av}{g:Ac}{h:Heap}{kt et:TypeId}{m:List Az}{r:Nat}{ma:Array MapEntry}{clock:Nat}(h2:w.heap[r]?=some (.map ma clock)) (h4:ES ma clock) (hm:Cv ma.toList m):
  Bd w Z g h (.map kt et m) (.map (some r)):=⟨r,ma,clock,rfl,h2,h4,hm⟩
def RI (M:BS) (ti:Types) (kt:TypeId):Prop:=
 BK ti kt fun kk=>match kk.desc with
 | .struct fs=>match fs.toList with
  | [f0,f1]=>(M.lock fun _=>S3 M.P kt [f0,f1])∧Bq (Nat.beq f0.offset 0) (Bq (Nat.beq f1.offset 1) (BK ti f0.type fun j0=>match j0.desc with
   | .string=>BK ti f1.type fun j1=>(match j1.desc with
    | .bool=>True
    | _=>False)
   | _=>False))
  | _=>False
 | _=>False
structure O8 (P:Program) (kt:TypeId):Prop where
 eq:∀(x y:ByteArray×Bool) (w:World),(Op.equal kt (CS x) (CS y)).run P w= .ok (decide (x=y)) w
 ck:∀(x:ByteArray×Bool) (b:Bool) (w:World),(Instr.checkKey b 10000 kt (CS x)).run P w= .ok () w
 st:∃fs,P.underlying kt=some (.struct fs)
theorem O9 {M:BS}{ti:Types}(hti:BV M.P ti) {kt:TypeId}(hk:RI M ti kt):O8 M.P kt:=by
 unfold RI at hk
 obtain⟨kk,hkk,hk⟩:=AZ.1 hk
 split at hk
 rotate_left
 ·exact hk.elim
 rename_i fs hd
 split at hk
 rotate_left
 ·exact hk.elim
 rename_i f0 f1 hfs
 obtain⟨hl,hk⟩:=hk
 obtain⟨p1,p2,p3⟩:=(M.lock_iff _).1 hl
 obtain⟨o0,hk⟩:=AR.1 hk
 obtain⟨o1,hk⟩:=AR.1 hk
 have o0:=Nat.eq_of_beq_eq_true o0
 have o1:=Nat.eq_of_beq_eq_true o1
 obtain⟨j0,hj0,hk⟩:=AZ.1 hk
 split at hk
 rotate_left
 ·exact hk.elim
 rename_i hd0
 obtain⟨j1,hj1,hk⟩:=AZ.1 hk
 split at hk
 rotate_left
 ·exact hk.elim
 rename_i hd1
 have hu:=(hti kt kk hkk).1
 rw[hd]at hu
 have hF:M.P.fieldsOf kt=fs:=by unfold Program.fieldsOf;rw[hu]
 have u0:=(hti _ _ hj0).1
 have u1:=(hti _ _ hj1).1
 rw[hd0]at u0
 rw[hd1]at u1
 have rel:∀(w:World) (x:ByteArray×Bool),Aj w (fun _ _=>False) (.agg [.str x.1,.bool x.2]) (.agg #[.string x.1,.bool x.2]):=fun w x=>by
  refine .agg _ _ rfl ?_ ?_
  ·intro c hc;simp at hc;rcases hc with rfl | rfl<;>rfl
  ·intro q c v hc hv
   match q with
   | 0=>simp at hc hv;subst hc;subst hv;exact .str _
   | 1=>simp at hc hv;subst hc;subst hv;exact .bool _
   | q+2=>simp at hc
 refine⟨fun x y w=>?_,fun x b w=>?_,fs,hu⟩
 ·have he:U4 M ti [.str x.1,.bool x.2] [.str y.1,.bool y.2] fs.toList (fun q=>q=decide (x=y)):=by
   rw[hfs]
   refine AZ.2 ⟨j0,hj0,?_⟩
   rw[FK,FK,o0]
   simp only[List.getElem?_cons_zero,hd0,Xp]
   refine (M.split_iff _ _).2 ?_
   rw[M.eqS_eq]
   by_cases h:x.1=y.1
   ·have:(x.1.toList==y.1.toList)=true:=by rw[h];simp
    rw[this]
    refine AZ.2 ⟨j1,hj1,?_⟩
    rw[FK,FK,o1]
    simp only[List.getElem?_cons_succ,List.getElem?_cons_zero,hd1,Xp,IT]
    by_cases h2:x.2=y.2
    ·have:x=y:=Prod.ext h h2
     subst this
     simp[U4]
    ·have:x≠y:=fun e=>h2 (e▸rfl)
     have e2:(x.2==y.2)=false:=by simpa using h2
     rw[e2]
     simp[this]
   ·have e1:(x.1.toList==y.1.toList)=false:=by
     rw[Bool.eq_false_iff]
     intro e
     refine h ?_
     have e:=eq_of_beq e
     have l1:x.1.data.toList=y.1.data.toList:=by simpa [ByteArray.toList_eq] using e
     cases hx:x.1;cases hy:y.1
     rw[hx,hy]at l1
     congr
     exact Array.ext' l1
    have:x≠y:=fun e=>h (e▸rfl)
    rw[e1]
    simp[this]
  obtain⟨q,rfl,H⟩:=RC hti he (by rw[hfs];exact p3)
  show (Op.equalIn 10000 kt (.agg #[.string x.1,.bool x.2]) (.agg #[.string y.1,.bool y.2])).run M.P w=_
  rw[run_equalIn_struct w 9999 kt _ _ (by rw[hF];exact hu) p1,hF]
  exact H (rel w x) (rel w y) 9998
 ·have hfs':fs=#[f0,f1]:=by apply Array.ext';simpa using hfs
  subst hfs'
  have a0:(isAgg f0.type).run M.P w= .ok false w:=by
   have:=run_underlying u0 w
   unfold isAgg
   simp[this]
  have a1:(isAgg f1.type).run M.P w= .ok false w:=by
   have:=run_underlying u1 w
   unfold isAgg
   simp[this]
  have e0:=run_underlying hu w
  have e1:=run_underlying u0 w
  have e2:=run_underlying u1 w
  have q0:(part f0.type #[.string x.1,.bool x.2] f0.offset).run M.P w= .ok (.string x.1) w:=by simp[part,a0,o0]
  have q1:(part f1.type #[.string x.1,.bool x.2] f1.offset).run M.P w= .ok (.bool x.2) w:=by simp[part,a1,o1]
  have key:∀n:Nat,(Instr.checkKey b (n+2) kt (CS x)).run M.P w= .ok () w:=fun n=>by
   simp[Instr.checkKey,CS,e0,e1,e2,q0,q1]
  exact key 9998
theorem RJ {P:Program}{kt:TypeId}(hK:O8 P kt) (k:ByteArray×Bool) (w:World):∀(m:List Az) (es:List MapEntry) (i:Nat),Cv es m→
  (Instr.findAsking kt (CS k) es i).run P w= .ok ((IX m k i).map fun j=>(j,.int .i64 (Bx m k.1 k.2))) w
 | [],[],i,_=>by simp[Instr.findAsking,IX]
 | [],e::es,_,h=>by simp[Cv]at h
 | x::m,[],_,h=>by simp[Cv]at h
 | x::m,e::es,i,h=>by
  obtain⟨h1,h2⟩:=List.cons.inj h
  obtain⟨h1,h3⟩:=Prod.mk.inj h1
  have e1:=hK.eq k x.1 w
  have h1:e.key=CS x.1:=h1
  have h3:e.val= .int .i64 x.2:=h3
  unfold Instr.findAsking IX Bx
  by_cases hk:x.1=k
  ·subst hk
   simp[h1,e1,h3]
  ·have hne:¬k=x.1:=fun e=>hk e.symm
   have ih:=RJ hK k w m es (i+1) h2
   simp[h1,e1,hne,hk,ih]
theorem IY {P:Program}{kt:TypeId}(hK:O8 P kt) (k:ByteArray×Bool) (w:World) {m:List Az}{es:List MapEntry}(h:Cv es m):
  (Instr.findKey kt (CS k) es).run P w= .ok ((IX m k 0).map fun j=>(j,.int .i64 (Bx m k.1 k.2))) w:=by
 obtain⟨fs,hu⟩:=hK.st
 have e1:=run_underlying hu w
 have h2:=RJ hK k w m es 0 h
 unfold Instr.findKey
 cases es with
 | nil=>
  cases m with
  | nil=>simp[e1,Instr.findNow,IX]
  | cons x m=>simp[Cv]at h
 | cons e es=>
  cases m with
  | nil=>simp[Cv]at h
  | cons x m=>
   have h1:e.key=CS x.1:=(Prod.mk.inj (List.cons.inj h).1).1
   have e2:Instr.findNow (.struct fs) (CS k) (e::es) 0=none:=by
    unfold Instr.findNow
    rw[h1]
    rfl
   simp[e1,e2,h2]
theorem HD {k:ByteArray×Bool}:∀{m:List Az}{i:Nat},IX m k i=none→Bx m k.1 k.2=0∧∀z,E4 m k.1 k.2 z=m++[(k,z)]
 | [],_,_=>⟨rfl,fun _=>rfl⟩
 | x::r,i,h=>by
  unfold IX at h
  by_cases hk:x.1=k
  ·simp[hk]at h
  ·simp only[hk,if_false]at h
   obtain⟨h1,h2⟩:=HD h
   refine⟨by unfold Bx;simp[hk,h1],fun z=>?_⟩
   unfold E4
   simp[hk,h2 z]
theorem NG {k:ByteArray×Bool}:∀{m:List Az}{i j:Nat},IX m k i=some j→i≤j∧m[j - i]?=some (k,Bx m k.1 k.2)∧∀z,E4 m k.1 k.2 z=m.set (j - i) (k,z)
 | [],_,_,h=>by simp[IX]at h
 | x::r,i,j,h=>by
  unfold IX at h
  by_cases hk:x.1=k
  ·simp only[hk,if_true,Option.some.injEq]at h
   subst h
   subst hk
   refine⟨Nat.le_refl _,?_,fun z=>?_⟩
   ·simp[Bx]
   ·simp[E4]
  ·simp only[hk,if_false]at h
   obtain⟨h1,h2,h3⟩:=NG h
   have e:j - i=(j - (i+1))+1:=by omega
   refine⟨by omega,?_,fun z=>?_⟩
   ·rw[e]
    have:Bx (x::r) k.1 k.2=Bx r k.1 k.2:=by
     show (if x.1=(k.1,k.2)then x.2 else Bx r k.1 k.2)=_
     rw[if_neg hk]
    simp only[List.getElem?_cons_succ,h2,this]
   ·rw[e]
    simp only[List.set_cons_succ]
    rw[←h3 z]
    show (if x.1=(k.1,k.2)then (x.1,z)::r else x::E4 r k.1 k.2 z)=_
    rw[if_neg hk]
def RL (x:AV) (h:Heap) (K:Id→TypeId→TypeId→List Az→Prop):Prop:=
 match x with
 | .v (.c (.map i))=>match h i with
  | some (.map kt et es)=>K i kt et es
  | _=>False
 | _=>False
theorem NH {x:AV}{h:Heap}{K:Id→TypeId→TypeId→List Az→Prop}(hk:RL x h K):∃i kt et es,x= .v (.c (.map i))∧h i=some (.map kt et es)∧K i kt et es:=by
 unfold RL at hk
 split at hk
 ·rename_i i
  split at hk
  ·rename_i kt et es hi
   exact⟨i,kt,et,es,rfl,hi,hk⟩
  ·exact hk.elim
 ·exact hk.elim
def U6 (j:TI):Prop:=j.desc= .int .i64∧j.zero= .int .i64 0
def H5 (M:BS) (ti:Types) (t:TypeId) (x key:AV) (h:Heap) (k:Out→Prop):Prop:=
 BK ti t fun q=>match q.desc with
 | .map kt et=>RI M ti kt∧BK ti et fun j=>(M.lock fun _=>U6 j)∧(match key with
  | .v (.d (.agg [.str s,.bool b]))=>RL x h fun i _ _ m=>∃z,Bx m s b=z∧k ⟨.v (.d (.int .i64 z)),[i],[]⟩
  | _=>False)
 | _=>False
def SG (ti:Types) (t:TypeId):Bool:=
 match ti t with
 | some q=>(match q.desc with
  | .map kt _=>(match ti kt with
   | some j=>(match j.desc with
    | .struct _=>true
    | _=>false)
   | none=>false)
  | _=>false)
 | none=>false
def GM (ti:Types) (t:TypeId) (fresh:Nat) (k:Out→Prop):Prop:=
 BK ti t fun q=>match q.desc with
 | .map kt et=>k ⟨.v (.c (.map (.loc fresh))),[],[(.loc fresh,.map kt et [])]⟩
 | _=>False
def ZM:AV→Bool
 | .v (.c (.map _))=>true
 | _=>false
section
variable {C:Cx}{ti:Types}{o:Oper}{fresh:Nat}{s:Af}{h:Heap}{k:Out→Prop}
theorem S6 {w:World}{Z:Av}{s:ByteArray}{b:Bool}{v:Value}(h:Aj w Z (.agg [.str s,.bool b]) v):v=CS (s,b):=by
 cases h with
 | agg _ vs hs _ hr=>
  have:vs.size=2:=hs
  obtain⟨a,b,rfl⟩:∃a b,vs=#[a,b]:=⟨vs[0],vs[1],by
   apply Array.ext
   ·simpa using this
   ·intro i h1 h2
    match i,h2 with
    | 0,_=>rfl
    | 1,_=>rfl⟩
  cases hr 0 _ _ rfl rfl
  cases hr 1 _ _ rfl rfl
  rfl
theorem QL (hti:BV C.P ti) (t:TypeId) (x y:Operand) (ho:o.op= .lookup t x y false) (hk:H5 C.M ti t (BQ ti s t x) (BQ ti s 0 y) h k):∃out,k out∧Bm C o fresh s h out:=by
 unfold H5 at hk
 obtain⟨q,hq,hk⟩:=AZ.1 hk
 split at hk
 rotate_left
 ·exact hk.elim
 rename_i kt et hd
 obtain⟨hK,hk⟩:=hk
 have hK:=O9 hti hK
 obtain⟨j,hj,hn,hk⟩:=AZ.1 hk
 obtain⟨n1,n2⟩:=(C.M.lock_iff _).1 hn
 split at hk
 rotate_left
 ·exact hk.elim
 rename_i sk bk hop
 obtain⟨i,_,_,m,hx0,hi,z,rfl,hk⟩:=NH hk
 refine⟨_,hk,AY fun F σs σh g a w R hs hrd=>?_⟩
 have hx:=Ai ti t x R (s:=s) (fun t ht=>hs t (by subst ht;simp[ho,Op.operands]))
 have hy:=Ai ti 0 y R (s:=s) (fun t ht=>hs t (by subst ht;simp[ho,Op.operands]))
 rw[hop]at hy
 have hy:=S6 (show Aj w _ (.agg [.str sk,.bool bk]) (a.eval y)from hy)
 rw[hx0]at hx
 obtain⟨hx,_⟩:=hx
 have hσ:=hrd i (by simp)
 obtain⟨r,ma,clock,g1,g2,_,g4⟩:=S5 (R.heap.objs i _ (hσ.trans hi))
 rw[g1]at hx
 have e1:=DB hti hq w
 rw[hd]at e1
 obtain⟨ii,i1,i2,i3,i4,i5⟩:=CZ hti hj
 have e3:(zeroValue et).run C.P w= .ok j.zero w:=by simp[zeroValue,typeInfo,i1,i4]
 have e4:∀b,(Instr.checkKey b 10000 kt (CS (sk,bk))).run C.P w= .ok () w:=fun b=>hK.ck _ b w
 have e5:=Cj (P:=C.P) g2
 have e6:=IY hK (sk,bk) w g4
 refine⟨.int .i64 (Bx m sk bk),?_,Aj.int _ _⟩
 cases hp:IX m (sk,bk) 0 with
 | none=>
  obtain⟨h0,_⟩:=HD hp
  have h0:Bx m sk bk=0:=h0
  rw[hp]at e6
  simp[execOp,ho,Instr.lookup,e1,hx,hy,e5,e4,e6,e3,n2,h0]
 | some j'=>
  rw[hp]at e6
  simp[execOp,ho,Instr.lookup,e1,hx,hy,e5,e4,e6]
theorem Ap.allocMap {C:Cx}{F:Nat→Prop}{s:Af}{h:Heap}{g:Ac}{a:Act}{w:World}(R:Ap C F s h g a w) {n:Nat}(hf:F n) (kt et:TypeId):
  Ap C (fun k=>F k∧k≠n) s (AX h (.loc n) (.map kt et [])) (Au g (.loc n) (.map (some w.heap.size))) a (w.alloc (.map #[] 0)):=by
 have hX:∀b o,C.X b o→b<w.heap.size:=fun b o hx=>Nat.lt_of_lt_of_le (R.xs b o hx) R.frame.size
 obtain⟨hgn,hhn⟩:=R.free n hf
 have hne:∀{i:Id} {v:Value},g i=v→v≠undef→i≠ .loc n:=by
  rintro i v hv hu rfl
  exact hu (hv▸hgn)
 have E:IM w (BN (zone g h) C.X) g h (w.alloc (.map #[] 0)) (BN (zone (Au g (.loc n) (.map (some w.heap.size))) (AX h (.loc n) (.map kt et []))) C.X)
   (Au g (.loc n) (.map (some w.heap.size))) (AX h (.loc n) (.map kt et [])):=by
  have now:∀{i:Id},isTu (g i)→i≠ .loc n:=by
   rintro i hi rfl
   rw[hgn]at hi
   exact Be hi
  refine⟨fun b o u hu hz=>?_,fun i b hb=>?_,fun i q hq=>?_,fun i hi=>?_,fun i k sz e' hi hk=>?_,fun i hi=>by simpa [Au,now hi] using hi,
   fun i hi hk=>⟨by simpa [AX,now hi] using hk,by simp[Au,now hi]⟩⟩
  ·have hlt:=World.block_lt_of_cell? w ⟨b,o,none⟩ hu
   refine⟨(World.cell?_alloc_lt w _ ⟨b,o,none⟩ hlt).trans hu,?_⟩
   rintro (⟨i,ob,hi,h1⟩ | hx)
   ·by_cases hin:i= .loc n
    ·subst hin
     simp only[AX,if_true,Option.some.injEq]at hi
     subst hi
     have:=Bi.map (q:=w.heap.size) (by simpa [Au,Bg] using h1)
     simp at hlt
     omega
    ·simp only[AX,Au,if_neg hin]at hi h1
     exact hz (.inl ⟨i,ob,hi,h1⟩)
   ·exact hz (.inr hx)
  ·exact if_neg (hne hb (by simp[undef]))
  ·exact if_neg (hne hq (by simp[undef]))
  ·have:i≠ .loc n:=by rintro rfl;rw[hgn]at hi;exact hi
   simpa [Au,this] using hi
  ·have:i≠ .loc n:=by rintro rfl;rw[hgn]at hi;exact hi
   refine⟨k,Nat.le_refl _,by simpa [AX,this] using hk,fun _=>by simp[Au,this]⟩
 refine R.step (F':=fun k=>F k∧k≠n) (fun i=>i= .loc n) E ?_ ?_ ?_ ?_ ?_ ?_ ?_ ?_
 ·exact⟨rfl,rfl,rfl,by simp,fun b hb _=>Below.heap_alloc w _ b hb,fun b o u hu _=>(World.cell?_alloc_lt w _ ⟨b,o,none⟩ (World.block_lt_of_cell? w ⟨b,o,none⟩ hu)).trans hu⟩
 ·intro i hi
  simp[AX,Au,hi]
 ·intro i o b _ hi hb
  exact Below.heap_alloc w _ b ((R.heap.objs i o hi).lt hb)
 ·rintro i o rfl ho
  simp[AX]at ho
  subst ho
  exact⟨w.heap.size,#[],0,by simp[Au],heap_alloc_new w _,⟨by simp,by simp⟩,rfl⟩
 ·rintro i o b p rfl ho hb
  simp[AX]at ho
  subst ho
  have:=Bi.map (q:=w.heap.size) (by simpa [Au,Bg] using hb)
  exact .inr (by omega)
 ·rintro i j _ _ _ rfl rfl _ _ _ _
  rfl
 ·intro j hj
  exact absurd hj (by simp)
 ·rintro k ⟨hk,hkn⟩
  have:=R.free k hk
  simp[Au,AX,hkn,this]
theorem PA (t:TypeId) (ho:o.op= .makeMap t none) (hk:GM ti t fresh k):∃out,k out∧Bm C o fresh s h out:=by
 unfold GM at hk
 obtain⟨q,hq,hk⟩:=AZ.1 hk
 split at hk
 ·rename_i kt et hd
  refine⟨_,hk,?_⟩
  rintro F σs σh a w Q ⟨g,R⟩ hs hrd hF hdst
  have hrun:(execOp a.eval o).run C.P w= .ok (.value (.map (some w.heap.size))) (w.alloc (.map #[] 0)):=by
   simp[execOp,ho,Instr.makeMap]
  have R':=R.allocMap (n:=fresh) (hF 0 (by omega)) kt et
  unfold Oper.wp
  rw[hrun]
  exact⟨_,(R'.put hdst (v:=.v (.c (.map (.loc fresh)))) ⟨by simp[Au],w.heap.size,by simp[Au]⟩).BH (fun n hn=>⟨hn.1,fun e=>hn.2 (by omega)⟩)⟩
 ·exact hk.elim
end
theorem Ap.Vs {C:Cx}{F:Nat→Prop}{s:Af}{h:Heap}{g:Ac}{a:Act}{w:World}(R:Ap C F s h g a w) {id:Id}{kt et:TypeId}{es m':List Az}(hid:h id=some (.map kt et es)) {b:Nat}
  (hv:g id= .map (some b)) {ma ma':Array MapEntry} {clock clock':Nat} (hh:w.heap[b]?=some (.map ma clock)) (hb:ES ma' clock')
  (he:Cv ma'.toList m'):Ap C F s (AX h id (.map kt et m')) g a {w with heap:=w.heap.setIfInBounds b (.map ma' clock')}:=by
 have hbl:ET (g id) (AQ.map kt et es) b:=by show Bi (g id) b;rw[hv];exact .inl rfl
 have hzb:Bg (g id) (AQ.map kt et es) b 0:=by show Bi (g id) b;rw[hv];exact .inl rfl
 have hlt:b<w.heap.size:=(Array.getElem?_eq_some_iff.1 hh).1
 let w':World:={w with heap:=w.heap.setIfInBounds b (.map ma' clock')}
 have hother:∀b',b'≠b→w'.heap[b']?=w.heap[b']?:=fun b' hb'=>by
  show (w.heap.setIfInBounds b (.map ma' clock'))[b']?=_
  rw[Array.getElem?_setIfInBounds]
  simp[Ne.symm hb']
 have hself:w'.heap[b]?=some (.map ma' clock'):=by
  show (w.heap.setIfInBounds b (.map ma' clock'))[b]?=_
  rw[Array.getElem?_setIfInBounds]
  simp[hlt]
 have hcell:∀b' o u,w.cell? ⟨b',o,none⟩=some u→w'.cell? ⟨b',o,none⟩=some u:=by
  intro b' o u hu
  have hne:b'≠b:=by
   rintro rfl
   simp[World.cell?,hh]at hu
  simpa [World.cell?,hother b' hne] using hu
 have hz:∀b' o,zone g (AX h id (.map kt et m')) b' o→zone g h b' o:=by
  rintro b' o ⟨i,ob,hi,h1⟩
  by_cases hin:i=id
  ·subst hin
   simp[AX]at hi
   subst hi
   exact⟨i,_,hid,h1⟩
  ·simp only[AX,if_neg hin]at hi
   exact⟨i,ob,hi,h1⟩
 have E:IM w (BN (zone g h) C.X) g h w' (BN (zone g (AX h id (.map kt et m'))) C.X) g (AX h id (.map kt et m')):=by
  refine⟨fun b' o u hu hn=>⟨hcell b' o u hu,?_⟩,fun _ _ _=>rfl,fun _ _ _=>rfl,fun _ hi=>hi,fun i k sz' e' _ hk=>?_,fun _ hi=>hi,fun i hi hk=>?_⟩
  ·rintro (hx | hx)
   ·exact hn (.inl (hz b' o hx))
   ·exact hn (.inr hx)
  ·have hin:i≠id:=by rintro rfl;simp[AX]at hk
   exact⟨k,Nat.le_refl _,by simpa [AX,hin] using hk,fun _=>rfl⟩
  ·by_cases hin:i=id
   ·subst hin
    simp[AX,isLive]at hk
   ·exact⟨by simpa [AX,hin] using hk,rfl⟩
 refine R.step (fun i=>i=id) E ⟨rfl,rfl,rfl,by simp,fun b' _ hzn=>hother b' ?_,fun b' o u hu _=>hcell b' o u hu⟩ ?_ ?_ ?_ ?_ ?_ ?_ ?_
 ·rintro rfl
  exact hzn 0 ⟨id,_,hid,hzb⟩
 ·intro i hi
  simp[AX,hi]
 ·intro i o b' hi ho hb'
  refine hother b' ?_
  rintro rfl
  exact hi (R.heap.sep i id o _ _ ho hid hb' hbl)
 ·rintro i o rfl ho
  simp[AX]at ho
  subst ho
  rw[hv]
  exact Wo hself hb he
 ·rintro i o b' p rfl ho hb'
  simp[AX]at ho
  subst ho
  exact .inl ⟨_,_,rfl,hid,hb'⟩
 ·rintro i j _ _ _ rfl rfl _ _ _ _
  rfl
 ·rintro j rfl
  exact .refl _
 ·intro k hk
  obtain⟨h1,h2⟩:=R.free k hk
  have hin:Id.loc k≠id:=by rintro rfl;rw[h2]at hid;simp at hid
  exact⟨h1,by simp[AX,hin,h2]⟩
end Go.AM
namespace Go.AM
open Go Go.RowKit
section
variable {C:Cx}{ti:Types}{o:Oper}{fresh:Nat}{s:Af}{h:Heap}{k:Out→Prop}
def HE (mn:Bool) (x y:AV) (k:Out→Prop):Prop:=
 HN x fun q a=>HN y fun q' b=>Bq (decide (q=q'))<| ∃z:Int,(match mn with
  | true=>if b<a then b else a
  | false=>if b>a then b else a)=z∧k ⟨.v (.d (.int q z)),[],[]⟩
theorem NI (mn:Bool) (t t':TypeId) (x y:Operand) (ho:o.op= .call {callee:=.builtin (if mn then .min else .max),args:=#[x,y],argTypes:=#[t,t']}) (hk:HE mn (BQ ti s t x) (BQ ti s t' y) k):∃out,k out∧Bm C o fresh s h out:=by
 unfold HE at hk
 obtain⟨q,a0,hx,hk⟩:=DI.1 hk
 obtain⟨q',b0,hy,hk⟩:=DI.1 hk
 replace hk:=AR.1 hk
 obtain⟨hq,z,hz,hk⟩:=hk
 have hq:=of_decide_eq_true hq
 subst hq
 refine⟨_,hk,AY fun F σs σh g a w R hs _=>?_⟩
 have hxv:=Ai ti t x R (s:=s) (fun t ht=>hs t (by subst ht;simp[ho,Op.operands,Call.operands]))
 have hyv:=Ai ti t' y R (s:=s) (fun t ht=>hs t (by subst ht;simp[ho,Op.operands,Call.operands]))
 rw[hx]at hxv
 rw[hy]at hyv
 have hxv:=GF hxv
 have hyv:=GF hyv
 refine⟨.int q z,?_,.int _ _⟩
 cases mn with
 | true=>
  subst hz
  have:=run_min_int2 (P:=C.P) (w:=w) #[t,t'] o.type q q a0 b0
  simp[execOp,ho,resolve,hxv,hyv,invoke,builtin,this]
 | false=>
  subst hz
  have:=run_max_int2 (P:=C.P) (w:=w) #[t,t'] o.type q q a0 b0
  simp[execOp,ho,resolve,hxv,hyv,invoke,builtin,this]
end
end Go.AM
namespace Go.AM
open Go Go.RowKit
theorem Mo (ro:Option Nat):(BZ ro).round=ro:=by cases ro<;>rfl
theorem Dd (ro:Option Nat) (f:FuncId):(BZ ro).fn f:=by cases ro<;>trivial
theorem C5 (ro:Option Nat):(BZ ro).depth.isSome=true→1≤(0:Nat):=by cases ro<;>intro h<;>cases h
theorem Ek {ro:Option Nat}{n:Nat}{P:Program}{f:FuncId}{args:Array Value}{w:World}{R:Ending→World→Prop}(h:Calls P f args w R):CallsIn (BZ ro) n P f args w R:=by
 cases ro with
 | none=>exact callsIn_wide.2 h
 | some l=>exact CallsIn.inRound l (callsIn_wide.2 h)
theorem Nw {ro:Option Nat}{n:Nat}{P:Program}{row:String}{args:Array Value}{w:World}{R:Value→World→Prop}(h:Rows P row args w R):RowsIn (BZ ro) n P row args w R:=by
 intro c cs _
 obtain⟨v,w',hr,hs⟩:=h c cs
 refine⟨v,w',hr,?_⟩
 cases ro with
 | none=>exact stepsIn_wide.2 hs
 | some l=>exact stepsIn_wide.2 hs
theorem Mp {ro:Option Nat}{n m:Nat}{P:Program}{l:Nat}{f:FuncId}{tmps:Array Value}{assign body:Code}{w:World}{R:Ending→World→Prop}(h:RoundIn Fence.wide m P l f tmps assign body w R):RoundIn (BZ ro) n P l f tmps assign body w R:=by
 refine⟨Dd ro f,fun c cs _=>?_⟩
 have:=h.2 c cs (room_wide _)
 cases ro with
 | none=>exact this
 | some l=>exact this
theorem E5 {ro:Option Nat}{P:Program}{o:Oper}{a:Act}{w:World}{next:Act→World→Prop}{Q:Exit→Act→World→Prop}(hd:∀c,o.op≠ .defer c) (h:o.wp P a w next Q):o.wpIn (BZ ro) 0 P a w next Q:=by
 refine⟨fun f _=>Dd ro f,?_⟩
 rw[Oper.semAt_eq _ _ _ hd]
 unfold Oper.wp at h
 cases hr:(execOp a.eval o).run P w with
 | ok n w'=>
  rw[hr]at h
  cases n with
  | value v=>exact h
  | skip=>exact h
  | enter f args=>
   refine⟨C5 ro,Ek (h.mono ?_)⟩
   intro e w'' he
   cases e<;>exact he
  | row r args=>exact⟨C5 ro,Nw h⟩
  | defer d=>exact h
  | _=>exact h.elim
 | halt q w'=>
  rw[hr]at h
  cases q with
  | panic v=>exact h
  | _=>exact h.elim
structure De (B:Nat→Prop) (w w':World):Prop where
 os:w'.os=w.os
 tape:w'.tape=w.tape
 output:w'.output=w.output
 size:w.heap.size≤w'.heap.size
 block:∀b,b<w.heap.size→¬B b→w'.heap[b]?=w.heap[b]?
theorem De.cell {B:Nat→Prop}{w w':World}(A:De B w w') {b o:Nat}{u:Value}(h:w.cell? ⟨b,o,none⟩=some u) (hb:¬B b):w'.cell? ⟨b,o,none⟩=some u:=by
 have hlt:=World.block_lt_of_cell? w ⟨b,o,none⟩ h
 have:=A.block b hlt hb
 simp only[World.cell?]at h ⊢
 rw[this];exact h
section
variable {C C':Cx}{F:Nat→Prop}{s:Af}{h h':Heap}{g:Ac}{a a':Act}{w w':World}
theorem Ap.Oe (R:Ap C F s h g a w) {B:Nat→Prop}(A:De B w w') (hM:C'.M=C.M) (hnt:C'.nt=C.nt) (hh0:∀i o,h' i=some o→h i=some o∨o= .gone)
  (hB:∀b o,B b→BN (zone g h) C.X b o) (hBo:∀i ob b,h' i=some ob→ET (g i) ob b→¬B b)
  (hX:∀b o,C'.X b o→BN (zone g h) C.X b o∨w.heap.size≤b) (hX1:∀b o,C'.X b o→b<w'.heap.size) (hX2:∀i ob b o,h' i=some ob→ET (g i) ob b→¬C'.X b o)
  (hw0:C'.w0=w') (hZ0:∀b o,zone g h' b o→C'.Z0 b o) (hg0:∀j,Ce (C'.g0 (.ext j)) (g (.ext j))) (ht:a'.tmps=a.tmps) (hd:a'.defers=C'.D.map GC)
  (hF:∀n,F n→h' (.loc n)=none):Ap C' F s h' g a' w':=by
 have hh:∀i ob b,h' i=some ob→ET (g i) ob b→h i=some ob:=by
  intro i ob b hi hb
  rcases hh0 i ob hi with h1 | rfl
  ·exact h1
  ·exact hb.elim
 have hzs:∀b o,zone g h' b o→zone g h b o:=fun b o ⟨i,ob,hi,hz⟩=>⟨i,ob,hh i ob b hi hz.G4,hz⟩
 have E:IM w (BN (zone g h) C.X) g h w' (BN (zone g h') C'.X) g h':=by
  refine⟨fun b o u hu hn=>⟨A.cell hu (fun hb=>hn (hB b o hb)),?_⟩,fun _ _ _=>rfl,fun _ _ _=>rfl,fun _ h=>h,fun i n sz e _ hi=>⟨n,Nat.le_refl _,(hh0 _ _ hi).resolve_right (by simp),fun _=>rfl⟩,fun _ h=>h,fun i _ hl=>⟨?_,rfl⟩⟩
  ·rintro (hz | hz)
   ·exact hn (.inl (hzs b o hz))
   ·rcases hX b o hz with hz | hz
    ·exact hn hz
    ·have:=World.block_lt_of_cell? w ⟨b,o,none⟩ hu
     simp at this
     omega
  ·cases ho:h' i with
   | none=>rw[ho]at hl;cases hl
   | some ob=>
    rw[ho]at hl
    rcases hh0 i ob ho with h1 | rfl
    ·rw[h1];exact hl
    ·cases hl
 refine⟨by rw[ht,hnt];exact R.size,hd,fun t=>by rw[ht];exact E.Pw (R.slots t),⟨fun i ob hi=>?_,fun i j oi oj b hi hj bi bj=>R.heap.sep i j oi oj b (hh i oi b hi bi) (hh j oj b hj bj) bi bj,hX2⟩,by rw[hw0];exact Bl.refl _ _,hg0,
  fun i ob b o hi hz=>.inl (hZ0 b o ⟨i,ob,hi,hz⟩),by rw[hw0];exact hX1,fun n hn=>⟨(R.free n hn).1,hF n hn⟩⟩
 rcases hh0 i ob hi with h1 | rfl
 ·refine (R.heap.objs i ob h1).Yx E fun b hb=>?_
  exact A.block b ((R.heap.objs i ob h1).lt hb) (hBo i ob b hi hb)
 ·trivial
structure Df (C C':Cx):Prop where
 M:C'.M=C.M
 nt:C'.nt=C.nt
 ro:C'.ro=C.ro
 X:∀b o,C.X b o→C'.X b o
 frame:Bl C.Z0 C.w0 C'.w0
 Z0:∀b o,C'.Z0 b o→C.Z0 b o∨C.w0.heap.size≤b
 ext:∀j,Ce (C.g0 (.ext j)) (C'.g0 (.ext j))
 same:C.ro≠none→C'.D=C.D
 marks:∃ds,C'.D=ds++C.D∧∀r∈ds,C.w0.heap.size≤r∧∀o,C'.X r o
theorem Df.refl (C:Cx):Df C C:=⟨rfl,rfl,rfl,fun _ _ h=>h,Bl.refl _ _,fun _ _ h=>.inl h,fun _=>.refl _,fun _=>rfl,[],rfl,by simp⟩
theorem Bl.then {Z Z':Av}{a b c:World}(h:Bl Z a b) (k:Bl Z' b c) (hz:∀p o,Z' p o→Z p o∨a.heap.size≤p):Bl Z a c:=by
 refine⟨k.os.trans h.os,k.tape.trans h.tape,k.output.trans h.output,Nat.le_trans h.size k.size,fun p hp hn=>?_,fun p o u hu hn=>?_⟩
 ·refine (k.block p (Nat.lt_of_lt_of_le hp h.size) fun o ho=>?_).trans (h.block p hp hn)
  rcases hz p o ho with h1 | h1
  ·exact hn o h1
  ·omega
 ·refine k.cell p o u (h.cell p o u hu hn) fun ho=>?_
  rcases hz p o ho with h1 | h1
  ·exact hn h1
  ·have:=World.block_lt_of_cell? a ⟨p,o,none⟩ hu
   simp at this
   omega
theorem Df.trans {A B C:Cx}(h:Df A B) (k:Df B C):Df A C:=by
 obtain⟨ds,e1,h1⟩:=h.marks
 obtain⟨es,e2,h2⟩:=k.marks
 refine⟨k.M.trans h.M,k.nt.trans h.nt,k.ro.trans h.ro,fun b o hx=>k.X b o (h.X b o hx),h.frame.then k.frame h.Z0,fun b o hz=>?_,fun j=>(h.ext j).trans (k.ext j),fun hr=>(k.same (by rw[h.ro];exact hr)).trans (h.same hr),es++ds,by rw[e2,e1,List.append_assoc],fun r hr=>?_⟩
 ·rcases k.Z0 b o hz with h3 | h3
  ·exact h.Z0 b o h3
  ·exact .inr (Nat.le_trans h.frame.size h3)
 ·rcases List.mem_append.1 hr with h3 | h3
  ·exact⟨Nat.le_trans h.frame.size (h2 r h3).1,(h2 r h3).2⟩
  ·exact⟨(h1 r h3).1,fun o=>k.X r o ((h1 r h3).2 o)⟩
theorem Df.down (L:Df C C') (R:Ap C' F s h g a w):Bl C.Z0 C.w0 w∧(∀j,Ce (C.g0 (.ext j)) (g (.ext j)))∧∀i ob b o,h i=some ob→Bg (g i) ob b o→C.Z0 b o∨C.w0.heap.size≤b:=by
 refine⟨L.frame.then R.frame L.Z0,fun j=>(L.ext j).trans (R.ext j),fun i ob b o hi hz=>?_⟩
 rcases R.within i ob b o hi hz with h1 | h1
 ·exact L.Z0 b o h1
 ·exact .inr (Nat.le_trans L.frame.size h1)
theorem Ap.kept (R:Ap C F s h g a w) {b:Nat}{o:Obj}(hb:C.w0.heap[b]?=some o) (hz:∀p,¬C.Z0 b p):w.heap[b]?=some o∧∀p,¬zone g h b p:=by
 have hlt:b<C.w0.heap.size:=(Array.getElem?_eq_some_iff.1 hb).1
 refine⟨(R.frame.block b hlt hz).trans hb,?_⟩
 rintro p ⟨i,ob,hi,h1⟩
 rcases R.within i ob b p hi h1 with h2 | h2
 ·exact hz p h2
 ·omega
end
theorem CV.Cu (c:CV):c.BW (fun i=>i)=c:=by cases c<;>simp[CV.BW]
theorem map_id' {α:Type}{f:α→α}{l:List α}(h:∀x∈l,f x=x):l.map f=l:=by
 induction l with
 | nil=>rfl
 | cons x l ih=>simp[h x (by simp),ih (fun y hy=>h y (by simp[hy]))]
theorem V1.Cu (c:V1):c.BW (fun i=>i)=c:=by
 cases c with
 | d x=>rfl
 | c x=>simp[V1.BW,CV.Cu]
 | agg cs=>simp only[V1.BW];congr 1;exact map_id' fun x _=>CV.Cu x
theorem AV.Cu (c:AV):c.BW (fun i=>i)=c:=by
 cases c with
 | u=>rfl
 | v y=>simp[AV.BW,V1.Cu]
 | t ys=>simp only[AV.BW];congr 1;exact map_id' fun y _=>V1.Cu y
theorem AQ.Cu (c:AQ):c.BW (fun i=>i)=c:=by
 have hc:∀cs:List CV,cs.map (CV.BW fun i=>i)=cs:=fun cs=>map_id' fun x _=>CV.Cu x
 cases c with
 | cells cs=>simp only[AQ.BW,hc]
 | tok=>rfl
 | map kt et es=>rfl
 | arr=>simp only[AQ.BW,hc]
 | tree kd ag sz rows foc=>cases foc<;>simp[AQ.BW,hc]
 | pmap n1 sz n rows foc=>cases foc<;>simp[AQ.BW]
 | part=>rfl
 | gone=>rfl
 | rnd r sl=>simp only[AQ.BW];congr 1;exact map_id' fun x _=>by simp[AV.Cu]
 | rndX j=>rfl
theorem Ap.Px {C:Cx}{F:Nat→Prop}{s:Af}{h:Heap}{g:Ac}{a:Act}{w:World}(R:Ap C F s h g a w) {n:Nat}(hf:F n) (L:Loop) (r:Unit→RF) (sl:List (Nat×AV))
  (h1:L.state= .ready) (h2:L.pending=none) (h3:L.params=(r ()).params) (h4:L.assign=(r ()).assign) (h5:L.body=(r ()).body) (h6:L.tmps.size=(r ()).nt)
  (h7:∀t,BG w (BN (zone g h) C.X) g h (Ay sl t) (L.tmps.getD t undef)):
  Ap C (fun k=>F k∧k≠n) s (AX h (.loc n) (.rnd r sl)) (Au g (.loc n) (.map (some w.heap.size))) a (w.alloc (.loop L)):=by
 have hX:∀b o,C.X b o→b<w.heap.size:=fun b o hx=>Nat.lt_of_lt_of_le (R.xs b o hx) R.frame.size
 obtain⟨hgn,hhn⟩:=R.free n hf
 have hne:∀{i:Id} {v:Value},g i=v→v≠undef→i≠ .loc n:=by
  rintro i v hv hu rfl
  exact hu (hv▸hgn)
 have E:IM w (BN (zone g h) C.X) g h (w.alloc (.loop L)) (BN (zone (Au g (.loc n) (.map (some w.heap.size))) (AX h (.loc n) (.rnd r sl))) C.X)
   (Au g (.loc n) (.map (some w.heap.size))) (AX h (.loc n) (.rnd r sl)):=by
  have now:∀{i:Id},isTu (g i)→i≠ .loc n:=by
   rintro i hi rfl
   rw[hgn]at hi
   exact Be hi
  refine⟨fun b o u hu hz=>?_,fun i b hb=>?_,fun i q hq=>?_,fun i hi=>?_,fun i k sz e' hi hk=>?_,fun i hi=>by simpa [Au,now hi] using hi,
   fun i hi hk=>⟨by simpa [AX,now hi] using hk,by simp[Au,now hi]⟩⟩
  ·have hlt:=World.block_lt_of_cell? w ⟨b,o,none⟩ hu
   refine⟨(World.cell?_alloc_lt w _ ⟨b,o,none⟩ hlt).trans hu,?_⟩
   rintro (⟨i,ob,hi,h1⟩ | hx)
   ·by_cases hin:i= .loc n
    ·subst hin
     simp only[AX,if_true,Option.some.injEq]at hi
     subst hi
     have:=Bi.map (q:=w.heap.size) (by simpa [Au,Bg] using h1)
     simp at hlt
     omega
    ·simp only[AX,Au,if_neg hin]at hi h1
     exact hz (.inl ⟨i,ob,hi,h1⟩)
   ·exact hz (.inr hx)
  ·exact if_neg (hne hb (by simp[undef]))
  ·exact if_neg (hne hq (by simp[undef]))
  ·have:i≠ .loc n:=by rintro rfl;rw[hgn]at hi;exact hi
   simpa [Au,this] using hi
  ·have:i≠ .loc n:=by rintro rfl;rw[hgn]at hi;exact hi
   refine⟨k,Nat.le_refl _,by simpa [AX,this] using hk,fun _=>by simp[Au,this]⟩
 refine R.step (F':=fun k=>F k∧k≠n) (fun i=>i= .loc n) E ?_ ?_ ?_ ?_ ?_ ?_ ?_ ?_
 ·exact⟨rfl,rfl,rfl,by simp,fun b hb _=>Below.heap_alloc w _ b hb,fun b o u hu _=>(World.cell?_alloc_lt w _ ⟨b,o,none⟩ (World.block_lt_of_cell? w ⟨b,o,none⟩ hu)).trans hu⟩
 ·intro i hi
  simp[AX,Au,hi]
 ·intro i o b _ hi hb
  exact Below.heap_alloc w _ b ((R.heap.objs i o hi).lt hb)
 ·rintro i o rfl ho
  simp[AX]at ho
  subst ho
  exact⟨w.heap.size,L,by simp[Au],heap_alloc_new w _,h1,h2,h3,h4,h5,h6,fun t=>E.Pw (h7 t)⟩
 ·rintro i o b p rfl ho hb
  simp[AX]at ho
  subst ho
  have:=Bi.map (q:=w.heap.size) (by simpa [Au,Bg] using hb)
  exact .inr (by omega)
 ·rintro i j _ _ _ rfl rfl _ _ _ _
  rfl
 ·intro j hj
  exact absurd hj (by simp)
 ·rintro k ⟨hk,hkn⟩
  have:=R.free k hk
  simp[Au,AX,hkn,this]
def EB:Option Nat→Code
 | none=>.ret
 | some id=>.exit id
abbrev Jump:=Option (Option Nat)
structure NJ (l:Nat) (L:Loop) (w:World) (X:Av) (g:Ac) (pre:List AQ) (jump:Jump) (post new:List AQ) (w':World) (g':Ac):Prop where
 heap:Db w' X g' (Bf post new)
 frame:Bl (fun b o=>zone g (BD pre) b o∨b=l) w w'
 record:w'.heap[l]?=some (.loop {L with state:=if jump.isNone then .ready else .done,pending:=jump.map EB})
 ext:∀j,Ce (g (.ext j)) (g' (.ext j))
 within:∀i ob b o,Bf post new i=some ob→Bg (g' i) ob b o→zone g (BD pre) b o∨w.heap.size≤b
 none:∀k,new.length≤k→g' (.loc k)=undef
def Dw (ps:Array Tmp) (vals tmps:Array Value):Array Value:=(ps.zip vals).foldl (fun t (p,v)=>t.setIfInBounds p v) tmps
def Dg (P:Program) (I:Inv) (r:RF) (sl:List (Nat×AV)) (args:List V1) (pre:List AQ) (Q:Jump→List AQ→List AQ→Prop):Prop:=
 args.length=r.params.size∧
 ∀(l:Nat) (L:Loop) w X g (vals:Array Value),(∀b o,X b o→b<w.heap.size)→(∀o,X l o)→w.heap[l]?=some (.loop L)→L.state= .ready→L.pending= .none→L.params=r.params→L.assign=r.assign→L.body=r.body→L.tmps.size=r.nt→
  I.at w (BN (zone g (BD pre)) X)→Db w X g (BD pre)→(∀n,g (.loc n)=undef)→vals.size=args.length→
  (∀(j:Nat) x v,args[j]?=some x→vals[j]?=some v→BE w (BN (zone g (BD pre)) X) g (BD pre) x v)→
  (∀t,BG w (BN (zone g (BD pre)) X) g (BD pre) (Ay sl t) (L.tmps.getD t undef))→
  RoundIn Fence.wide 0 P l L.fn (Dw L.params vals L.tmps) L.assign L.body w fun e w'=>
   ∃jump g' post new,Q jump post new∧e= .returned (.bool jump.isNone)∧NJ l L w X g pre jump post new w' g'
def Dh (j:Jump) (r:Unit→RF) (sl:List (Nat×AV)):AQ:=
 match j with
 | none=>.rnd r sl
 | some x=>.rndX x
theorem QM {P:Program}{I:Inv}{r:Unit→RF}{sl:List (Nat×AV)}{args:List V1}{pre:List AQ}{Q:Jump→List AQ→List AQ→Prop}(hK:Dg P I (r ()) sl args pre Q)
  (hQ:∀j post new,Q j post new→CF pre post∧new.length≤31) {w:World} {X:Av} {g:Ac} {vals:Array Value} (hX:∀b o,X b o→b<w.heap.size)
  (hI:I.at w (BN (zone g (BD (pre++[.rnd r sl]))) X)) (RH:Db w X g (BD (pre++[.rnd r sl]))) (hgl:∀n,g (.loc n)=undef) (hsz:vals.size=args.length)
  (hargs:∀(j:Nat) x v,args[j]?=some x→vals[j]?=some v→BE w (BN (zone g (BD (pre++[.rnd r sl]))) X) g (BD (pre++[.rnd r sl])) x v):
  ∃l L,g (.ext pre.length)= .map (some l)∧w.heap[l]?=some (.loop L)∧L.params.size=args.length∧
   RoundIn Fence.wide 0 P l L.fn (Dw L.params vals L.tmps) L.assign L.body w fun e w'=>
    ∃v g' res post new,(∃j post0,Q j post0 new∧res= .v (.d (.bool j.isNone))∧post=post0++[Dh j r sl])∧e= .returned v∧E1 w X g (pre++[.rnd r sl]) res post new v w' g':=by
 let n:=pre.length
 let hs:Heap:=BD pre
 let hb:Heap:=BD (pre++[.rnd r sl])
 have hrec:hb (.ext n)=some (.rnd r sl):=by
  show (pre++[AQ.rnd r sl])[n]?=_
  simp[n]
 obtain⟨l,L,hv,hl,l1,l2,l3,l4,l5,l6,l7⟩:=RH.objs _ _ hrec
 have sub:∀i o,hs i=some o→hb i=some o∧i≠ .ext n:=by
  intro i o hi
  cases i with
  | loc k=>simp[hs,BD]at hi
  | ext j=>
   have hi:pre[j]?=some o:=hi
   have hlt:=(List.getElem?_eq_some_iff.1 hi).1
   refine⟨?_,by simp[n];omega⟩
   show (pre++_)[j]?=some o
   rw[List.getElem?_append_left hlt];exact hi
 have cas:∀i o,hb i=some o→hs i=some o∨(i= .ext n∧o= .rnd r sl):=by
  intro i o hi
  cases i with
  | loc k=>simp[hb,BD]at hi
  | ext j=>
   have hi:(pre++[AQ.rnd r sl])[j]?=some o:=hi
   by_cases hj:j<n
   ·rw[List.getElem?_append_left hj]at hi;exact .inl hi
   ·rw[List.getElem?_append_right (by omega)]at hi
    have:j - pre.length=0:=by
     rcases Nat.eq_zero_or_pos (j - pre.length)with h | h
     ·exact h
     ·rw[List.getElem?_eq_none (by simp;omega)]at hi;cases hi
    rw[this]at hi
    exact .inr ⟨by congr 1;omega,by simpa using hi.symm⟩
 have lz:∀b,Bi (g (.ext n)) b↔b=l:=fun b=>by
  rw[hv]
  exact⟨fun h=>h.map.symm,fun h=>by subst h;exact .inl rfl⟩
 let X2:Av:=fun b o=>X b o∨b=l
 have zs:∀b o,zone g hs b o→zone g hb b o:=fun b o ⟨i,ob,hi,h1⟩=>⟨i,ob,(sub i ob hi).1,h1⟩
 have z1:∀b o,BN (zone g hs) X2 b o→BN (zone g hb) X b o:=by
  rintro b o (h | h | h)
  ·exact .inl (zs b o h)
  ·exact .inr h
  ·exact .inl ⟨.ext n,_,hrec,(lz b).2 h⟩
 have z2:∀b o,BN (zone g hb) X b o→BN (zone g hs) X2 b o:=by
  rintro b o (⟨i,ob,hi,h1⟩ | h)
  ·rcases cas i ob hi with hi | ⟨rfl,rfl⟩
   ·exact .inl ⟨i,ob,hi,h1⟩
   ·exact .inr (.inr ((lz b).1 h1))
  ·exact .inr (.inl h)
 have tk:∀i k sz e,hs i=some (.tok k sz e)→hb i=some (.tok k sz e):=fun i k sz e hi=>(sub i _ hi).1
 have live:∀i,isLive (hs i)=true→isLive (hb i)=true:=fun i hi=>by
  cases hc:hs i with
  | none=>rw[hc]at hi;cases hi
  | some o=>rw[(sub i o hc).1];rw[hc]at hi;exact hi
 have notl:∀i o b,hs i=some o→ET (g i) o b→b≠l:=by
  rintro i o b hi hb rfl
  exact (sub i o hi).2 (RH.sep i (.ext n) o _ b (sub i o hi).1 hrec hb ((lz b).2 rfl))
 have RS:Db w X2 g hs:=by
  refine⟨fun i o hi=>?_,fun i j oi oj b hi hj bi bj=>RH.sep i j oi oj b (sub i oi hi).1 (sub j oj hj).1 bi bj,fun i oi b o hi bi hx=>?_⟩
  ·exact Bd.pull (r:=fun i=>i) (g:=g) (h:=hb) z1 (fun _=>rfl) tk live (by rw[AQ.Cu];exact RH.objs i o (sub i o hi).1)
  ·rcases hx with hx | hx
   ·exact RH.apart i oi b o (sub i oi hi).1 bi hx
   ·exact notl i oi b hi bi hx
 refine⟨l,L,hv,hl,by rw[l3];exact hK.1.symm,?_⟩
 refine (hK.2 l L w X2 g vals (fun b o hx=>?_) (fun o=>.inr rfl) hl l1 l2 l3 l4 l5 l6 (hI.mono z1) RS hgl hsz (fun j x v hx hvv=>?_) (fun t=>?_)).mono ?_
 ·rcases hx with hx | rfl
  ·exact hX b o hx
  ·exact (Array.getElem?_eq_some_iff.1 hl).1
 ·exact BE.pull (r:=fun i=>i) (g:=g) (h:=hb) z1 (fun _=>rfl) tk live (by rw[V1.Cu];exact hargs j x v hx hvv)
 ·exact BG.pull (r:=fun i=>i) (g:=g) (h:=hb) z1 (fun _=>rfl) tk live (by rw[AV.Cu];exact l7 t)
 rintro e w' ⟨jump,g',post,new,hq,rfl,RP⟩
 obtain⟨hk,hnew⟩:=hQ jump post new hq
 have plen:post.length=pre.length:=Du hk
 have hgn:g' (.ext n)= .map (some l):=by
  rw[(RP.ext n).eq (by rw[hv];rintro⟨_,_,h,_⟩;cases h)];exact hv
 let hs2:Heap:=Bf post new
 let hb2:Heap:=Bf (post++[Dh jump r sl]) new
 have hrec2:hb2 (.ext n)=some (Dh jump r sl):=by
  show (post++[Dh jump r sl])[n]?=_
  simp[n,plen]
 have sub2:∀i o,hs2 i=some o→hb2 i=some o∧i≠ .ext n:=by
  intro i o hi
  cases i with
  | loc k=>exact⟨hi,by simp⟩
  | ext j=>
   have hi:post[j]?=some o:=hi
   have hlt:=(List.getElem?_eq_some_iff.1 hi).1
   refine⟨?_,by simp[n];omega⟩
   show (post++_)[j]?=some o
   rw[List.getElem?_append_left hlt];exact hi
 have cas2:∀i o,hb2 i=some o→hs2 i=some o∨(i= .ext n∧o=Dh jump r sl):=by
  intro i o hi
  cases i with
  | loc k=>exact .inl hi
  | ext j=>
   have hi:(post++[Dh jump r sl])[j]?=some o:=hi
   by_cases hj:j<n
   ·rw[List.getElem?_append_left (by omega)]at hi;exact .inl hi
   ·rw[List.getElem?_append_right (by omega)]at hi
    have:j - post.length=0:=by
     rcases Nat.eq_zero_or_pos (j - post.length)with h | h
     ·exact h
     ·rw[List.getElem?_eq_none (by simp;omega)]at hi;cases hi
    rw[this]at hi
    exact .inr ⟨by congr 1;omega,by simpa using hi.symm⟩
 have lz2:∀b o,Bg (g' (.ext n)) (Dh jump r sl) b o↔b=l:=fun b o=>by
  have:Bg (g' (.ext n)) (Dh jump r sl) b o↔Bi (g' (.ext n)) b:=by cases jump<;>exact Iff.rfl
  rw[this,hgn]
  exact⟨fun h=>h.map.symm,fun h=>by subst h;exact .inl rfl⟩
 have ob2:∀b,ET (g' (.ext n)) (Dh jump r sl) b↔b=l:=fun b=>by
  have:ET (g' (.ext n)) (Dh jump r sl) b↔Bi (g' (.ext n)) b:=by cases jump<;>exact Iff.rfl
  rw[this,hgn]
  exact⟨fun h=>h.map.symm,fun h=>by subst h;exact .inl rfl⟩
 have y1:∀b o,BN (zone g' hs2) X2 b o→BN (zone g' hb2) X b o:=by
  rintro b o (⟨i,ob,hi,h1⟩ | h | h)
  ·exact .inl ⟨i,ob,(sub2 i ob hi).1,h1⟩
  ·exact .inr h
  ·exact .inl ⟨.ext n,_,hrec2,(lz2 b o).2 h⟩
 have y2:∀b o,BN (zone g' hb2) X b o→BN (zone g' hs2) X2 b o:=by
  rintro b o (⟨i,ob,hi,h1⟩ | h)
  ·rcases cas2 i ob hi with hi | ⟨rfl,rfl⟩
   ·exact .inl ⟨i,ob,hi,h1⟩
   ·exact .inr (.inr ((lz2 b o).1 h1))
  ·exact .inr (.inl h)
 have tk2:∀i k sz e,hb2 i=some (.tok k sz e)→hs2 i=some (.tok k sz e):=by
  intro i k sz e hi
  rcases cas2 i _ hi with h | ⟨_,h⟩
  ·exact h
  ·cases jump<;>cases h
 have live2:∀i,isLive (hb2 i)=true→isLive (hs2 i)=true:=by
  intro i hi
  cases hc:hb2 i with
  | none=>rw[hc]at hi;cases hi
  | some o=>
   rw[hc]at hi
   rcases cas2 i o hc with h | ⟨_,rfl⟩
   ·rw[h];exact hi
   ·cases jump<;>cases hi
 have gext:∀i,¬isTu (g i)→g i≠undef→g' i=g i:=by
  intro i ht hu
  cases i with
  | ext j=>exact (RP.ext j).eq ht
  | loc k=>exact absurd (hgl k) hu
 have E:IM w (BN (zone g hb) X) g hb w' (BN (zone g' hb2) X) g' hb2:=by
  refine⟨fun b o u hu hn=>⟨RP.frame.cell b o u hu ?_,fun hy=>?_⟩,fun i b hb=>gext i (fun ht=>Ou (hb▸ht)) (by rw[hb];simp[undef]),fun i q hq=>gext i (fun ht=>Ov (hq▸ht)) (by rw[hq];simp[undef]),fun i hi=>?_,fun i k sz e hi hn=>?_,fun i hi=>?_,fun i hi hn=>?_⟩
  ·rintro (h | rfl)
   ·exact hn (.inl (zs b o h))
   ·exact hn (z1 _ _ (.inr (.inr rfl)))
  ·rcases y2 b o hy with⟨i,ob,hi,h1⟩ | h1
   ·rcases RP.within i ob b o hi h1 with h2 | h2
    ·exact hn (.inl (zs b o h2))
    ·have:=World.block_lt_of_cell? w ⟨b,o,none⟩ hu
     simp at this
     omega
   ·exact hn (z1 _ _ (.inr h1))
  ·rw[gext i (Dm hi) (by rintro e;rw[e]at hi;exact hi)];exact hi
  ·have hgi:=gext i (Dm hi) (by rintro e;rw[e]at hi;exact hi)
   have hn:=tk2 i k sz e hn
   cases i with
   | loc q=>rw[hgl q]at hi;exact hi.elim
   | ext j=>
    obtain⟨o0,h6,h7⟩:=DP hk hn
    cases o0<;>simp[sameKind]at h7
    obtain⟨rfl,rfl,rfl⟩:=h7
    exact⟨_,Nat.le_refl _,(sub (.ext j) _ h6).1,fun _=>hgi⟩
  ·cases i with
   | ext j=>exact (RP.ext j).isTu hi
   | loc q=>rw[hgl q]at hi;exact (Be hi).elim
  ·cases i with
   | loc q=>rw[hgl q]at hi;exact (Be hi).elim
   | ext j=>
    refine⟨?_,(RP.ext j).gval⟩
    have hn:=live2 _ hn
    cases ho:hs2 (.ext j)with
    | none=>rw[ho]at hn;cases hn
    | some ob=>
     rw[ho]at hn
     obtain⟨o0,h6,h7⟩:=DP hk ho
     rw[(sub (.ext j) _ h6).1]
     exact IU h7 hn
 have frame:Bl (zone g hb) w w':=RP.frame.weaken fun b o h=>by
  rcases h with h | rfl
  ·exact zs b o h
  ·exact⟨.ext n,_,hrec,(lz _).2 rfl⟩
 have outl:∀i ob b,hs2 i=some ob→ET (g' i) ob b→b≠l:=by
  rintro i ob b hi hb rfl
  exact RP.heap.apart i ob b 0 hi hb (.inr rfl)
 refine⟨.bool jump.isNone,g',_,_,new,⟨jump,post,hq,rfl,rfl⟩,rfl,⟨⟨fun i o hi=>?_,fun i j oi oj b hi hj bi bj=>?_,fun i oi b o hi bi hx=>?_⟩,Aj.bool _,frame,fun j=>RP.ext j,fun i ob b o hi hz=>?_,RP.none⟩⟩
 ·rcases cas2 i o hi with h | ⟨rfl,rfl⟩
  ·exact Bd.pull (r:=fun i=>i) (g:=g') (h:=hs2) y2 (fun _=>rfl) tk2 live2 (by rw[AQ.Cu];exact RP.heap.objs i o h)
  ·have hloop:=RP.record
   cases jump with
   | none=>exact⟨l,_,hgn,hloop,rfl,rfl,l3,l4,l5,l6,fun t=>E.Pw (l7 t)⟩
   | some x=>exact⟨l,_,hgn,hloop,rfl,by cases x<;>rfl⟩
 ·rcases cas2 i oi hi with h1 | ⟨rfl,rfl⟩<;>rcases cas2 j oj hj with h2 | ⟨rfl,rfl⟩
  ·exact RP.heap.sep i j oi oj b h1 h2 bi bj
  ·exact absurd ((ob2 b).1 bj) (outl i oi b h1 bi)
  ·exact absurd ((ob2 b).1 bi) (outl j oj b h2 bj)
  ·rfl
 ·rcases cas2 i oi hi with h1 | ⟨rfl,rfl⟩
  ·exact RP.heap.apart i oi b o h1 bi (.inl hx)
  ·have:=(ob2 b).1 bi
   subst this
   exact RH.apart (.ext n) _ b o hrec ((lz b).2 rfl) hx
 ·rcases cas2 i ob hi with h1 | ⟨rfl,rfl⟩
  ·rcases RP.within i ob b o h1 hz with h2 | h2
   ·exact .inl (zs b o h2)
   ·exact .inr h2
  ·have:=(lz2 b o).1 hz
   subst this
   exact .inl ⟨.ext n,_,hrec,(lz _).2 rfl⟩
end Go.AM
namespace Go.AM
open Go Go.RowKit
section
variable {C:Cx}{F:Nat→Prop}{s:Af}{h:Heap}{g:Ac}{a:Act}{w:World}{ti:Types}
theorem U7 {Z:Av}{ag:Bool}{sz:Nat}{rows:List D}{gv:Value}(ht:isTu gv) (h0:0<sz) (hf:∀r∈rows,r.fits ag sz) {xs:List Value}(hx:Holds w .flat sz (gval gv) rows.length xs)
  (hc:∀(i:Nat) r (j:Nat) c,rows[i]?=some r→r.cells[j]?=some c→∃u,xs[i*sz+j]?=some u∧Aj w Z c u) (hb:∀b,Bi gv b↔blk (gval gv)=some b):Bd w Z g h (.tree .flat ag sz rows none) gv:=by
 refine⟨ht,h0,hf,xs,hx,(fun _ _ h=>by cases h),fun i j=>xs.getD (i*sz+j) undef,fun _ _ _=>False,fun i r j c _ hr hj=>?_,(fun _ _ _ h=>h.elim),(fun _ _ _ h=>h.elim),(fun _ _ _ _ _ h=>h.elim),fun b=>?_⟩
 ·obtain⟨u,hu,hd⟩:=hc i r j c hr hj
  have e1:xs.getD (i*sz+j) undef=u:=by simp[hu]
  show xs[i*sz+j]?=some (xs.getD (i*sz+j) undef)∧C0 w Z .flat c (xs.getD (i*sz+j) undef) _
  rw[e1]
  exact⟨hu,(C0.fz rfl).2 ⟨⟨hd,(hf r (List.mem_of_getElem? hr)).2.2 c (List.mem_of_getElem? hj)⟩,fun _ h=>h⟩⟩
 ·rw[hb]
  exact⟨.inl,fun h=>h.elim id fun⟨_,_,h⟩=>h.elim⟩
end
def V0 (h:Heap) (i:Id):Bool:=
 match h i with
 | some (.tree kd _ _ _ _)=>match kd with
  | .flat=>true
  | _=>false
 | _=>false
def QN (x:AV) (h:Heap):Bool:=
 match x with
 | .v (.c (.op i _ _ _))=>V0 h i
 | .v (.c (.ow i))=>V0 h i
 | _=>false
section
variable {C:Cx}{ti:Types}{o:Oper}{fresh:Nat}{s:Af}{h:Heap}{k:Out→Prop}
theorem Holds.Y0 {w:World}{sz:Nat}{v:Value}{n:Nat}{xs:List Value}(h:Holds w .flat sz v n xs):Holds w .row sz v n xs:=h
end
end Go.AM
namespace Go.AM
open Go Go.RowKit
def LO (z:Int):Nat→List Mi→Option (Nat×Mi)
 | _,[]=>none
 | k,r::rs=>if r.1=z then some (k,r)else LO z (k+1) rs
theorem PB {kk:IntKind}{z:Int}:∀{rows:List Mi}{ms:List MapEntry}(i:Nat),ms.length=rows.length→(∀(k:Nat) x e,rows[k]?=some x→ms[k]?=some e→e.key= .int .i64 x.1)→
  (LO z i rows=none∧Instr.findNow (.int kk) (.int .i64 z) ms i=some none)∨
   ∃(q:Nat) (row:Mi) (e:MapEntry),LO z i rows=some (i+q,row)∧rows[q]?=some row∧ms[q]?=some e∧Instr.findNow (.int kk) (.int .i64 z) ms i=some (some (i+q,e.val))
 | [],[],i,_,_=>.inl ⟨rfl,rfl⟩
 | r::rs,m::ms,i,hl,h=>by
  have hk:=h 0 r m rfl rfl
  by_cases he:r.1=z
  ·refine .inr ⟨0,r,m,by simp[LO,he],rfl,rfl,?_⟩
   simp[Instr.findNow,Instr.sameNow,hk,he]
  ·have hne:(z==r.1)=false:=beq_eq_false_iff_ne.2 fun e=>he e.symm
   rcases PB (kk:=kk) (z:=z) (rows:=rs) (ms:=ms) (i+1) (by simpa using hl) (fun k x e h1 h2=>h (k+1) x e (by simpa using h1) (by simpa using h2))with⟨h1,h2⟩ | ⟨q,row,e,h1,h2,h3,h4⟩
   ·exact .inl ⟨by simp[LO,he,h1],by simp[Instr.findNow,Instr.sameNow,hk,hne,h2]⟩
   ·refine .inr ⟨q+1,row,e,?_,by simpa using h2,by simpa using h3,?_⟩
    ·rw[LO,if_neg he,h1];congr 2;omega
    ·simp only[Instr.findNow,Instr.sameNow,hk,if_true,hne,h4]
     congr 3;omega
 | [],_::_,_,h,_=>by simp at h
 | _::_,[],_,h,_=>by simp at h
section
variable {C:Cx}{F:Nat→Prop}{s:Af}{h h':Heap}{g:Ac}{a:Act}{w w':World}
theorem Ap.Wb (R:Ap C F s h g a w) {i:Id}{n1 sz n:Nat}{rows rows':List Mi}(hi:h i=some (.pmap n1 sz n rows none)) {T0:List Id}(hT0:∀j∈T0,j≠i∧∃ob,h j=some ob∧(∀b,Bi (g j) b→∀o,Bg (g j) ob b o)∧¬GB (g j))
  {r:Nat} {m m':Array MapEntry} {clock clock':Nat} (hv:gval (g i)= .map (some r)) (hh:w.heap[r]?=some (.map m clock)) (P:Nat→Prop) (hP:∀b,P b→Bi (g i) b∨∃j∈T0,Bi (g j) b)
  (hrel:∀(w':World) (Z':Av) (g':Ac) (h':Heap) (gv:Value),isTu gv→gval gv=gval (g i)→(∀b,Bi gv b↔P b)→w'.heap[r]?=some (.map m' clock')→(∀b,b≠r→w'.heap[b]?=w.heap[b]?)→
   (∀{x:D} {u:Value},Aj w (BN (zone g h) C.X) x u→Aj w' Z' x u)→Bd w' Z' g' h' (.pmap n1 sz n rows' none) gv):
  ∃g',Ap C F s (AX (BP h (BO T0)) i (.pmap n1 sz n rows' none)) g' a {w with heap:=w.heap.setIfInBounds r (.map m' clock')}:=by
 obtain⟨ht,r0,m0,clock0,B,hv0,hh0,_,_,_,_,_,_,_,h6⟩:=R.heap.objs i _ hi
 rw[hv]at hv0
 cases hv0
 have hri:Bi (g i) r:=(h6 r).2 (.inl rfl)
 obtain⟨l1,hl1⟩:=Bi.fin (g i)
 obtain⟨l2,hl2⟩:=Bi.Qv (g:=g) T0
 obtain⟨gv,gt,gg,gb⟩:=Rv (gval (g i)) (l1++l2) P (fun b hb=>by
  rcases hP b hb with hb | ⟨j,hj,hb⟩
  ·exact List.mem_append.2 (.inl (hl1 b hb))
  ·exact List.mem_append.2 (.inr (hl2 j hj b hb)))
 have hiT:i∉T0:=fun hm=>(hT0 i hm).1 rfl
 let h':Heap:=AX (BP h (BO T0)) i (.pmap n1 sz n rows' none)
 let g':Ac:=Au g i gv
 have hh':∀x,h' x=if x=i then some (.pmap n1 sz n rows' none)else if x∈T0 then some .gone else h x:=fun x=>by
  show (if x=i then _ else BP h (BO T0) x)=_
  rw[Jp]
 have gi:g' i=gv:=by simp[g',Au]
 have go:∀x,x≠i→g' x=g x:=fun x hx=>by simp[g',Au,hx]
 have hlt:r<w.heap.size:=(Array.getElem?_eq_some_iff.1 hh).1
 let w':World:={w with heap:=w.heap.setIfInBounds r (.map m' clock')}
 have hother:∀b,b≠r→w'.heap[b]?=w.heap[b]?:=fun b hb=>by
  show (w.heap.setIfInBounds r (.map m' clock'))[b]?=_
  rw[Array.getElem?_setIfInBounds]
  simp[Ne.symm hb]
 have hself:w'.heap[r]?=some (.map m' clock'):=by
  show (w.heap.setIfInBounds r (.map m' clock'))[r]?=_
  rw[Array.getElem?_setIfInBounds]
  simp[hlt]
 have hcell:∀b o u,w.cell? ⟨b,o,none⟩=some u→w'.cell? ⟨b,o,none⟩=some u:=by
  intro b o u hu
  have hne:b≠r:=by
   rintro rfl
   simp[World.cell?,hh]at hu
  simpa [World.cell?,hother b hne] using hu
 have hPz:∀b o,P b→zone g h b o:=by
  intro b o hb
  rcases hP b hb with hb | ⟨j,hj,hb⟩
  ·exact⟨i,_,hi,hb⟩
  ·obtain⟨_,ob,o1,o2,_⟩:=hT0 j hj
   exact⟨j,ob,o1,o2 b hb o⟩
 have hz:∀b o,zone g' h' b o→zone g h b o:=by
  rintro b o ⟨x,ob,hx,h1⟩
  rw[hh']at hx
  by_cases hxi:x=i
  ·subst hxi
   rw[if_pos rfl]at hx
   cases hx
   rw[gi]at h1
   exact hPz b o ((gb b).1 h1)
  ·rw[if_neg hxi]at hx
   by_cases hxT:x∈T0
   ·rw[if_pos hxT]at hx
    cases hx
    exact h1.elim
   ·rw[if_neg hxT]at hx
    rw[go x hxi]at h1
    exact⟨x,ob,hx,h1⟩
 have tn:∀{x:Id} {v:Value},g x=v→(∀vs,v≠ .tuple vs)→x≠i:=by
  rintro x v hx hn rfl
  obtain⟨vs,_,h,_⟩:=ht
  exact hn vs (hx▸h)
 have E:IM w (BN (zone g h) C.X) g h w' (BN (zone g' h') C.X) g' h':=by
  refine⟨fun b o u hu hn=>⟨hcell b o u hu,?_⟩,fun x b hb=>go x (tn hb (by simp)),fun x q hq=>go x (tn hq (by simp)),fun x hx=>?_,fun x k sz' e' hx hk=>?_,fun x hx=>?_,fun x hx hl=>?_⟩
  ·rintro (hx | hx)
   ·exact hn (.inl (hz b o hx))
   ·exact hn (.inr hx)
  ·have:x≠i:=by rintro rfl;exact Dm hx ht
   rw[go x this];exact hx
  ·rw[hh']at hk
   by_cases hxi:x=i
   ·rw[if_pos hxi]at hk;cases hk
   ·rw[if_neg hxi]at hk
    by_cases hxT:x∈T0
    ·rw[if_pos hxT]at hk;cases hk
    ·rw[if_neg hxT]at hk
     exact⟨k,Nat.le_refl _,hk,fun _=>go x hxi⟩
  ·by_cases hxi:x=i
   ·rw[hxi,gi];exact gt
   ·rw[go x hxi];exact hx
  ·rw[hh']at hl
   by_cases hxi:x=i
   ·subst hxi
    exact⟨by rw[hi];rfl,by rw[gi,gg]⟩
   ·rw[if_neg hxi]at hl
    by_cases hxT:x∈T0
    ·rw[if_pos hxT]at hl;cases hl
    ·rw[if_neg hxT]at hl
     exact⟨hl,by rw[go x hxi]⟩
 refine⟨g',R.step (fun x=>x=i∨x∈T0) E ⟨rfl,rfl,rfl,by simp,fun b _ hzn=>hother b ?_,fun b o u hu _=>hcell b o u hu⟩ ?_ ?_ ?_ ?_ ?_ ?_ ?_⟩
 ·rintro rfl
  exact hzn 0 ⟨i,_,hi,hri⟩
 ·intro x hx
  simp only[not_or]at hx
  exact⟨by rw[show AX (BP h (BO T0)) i (.pmap n1 sz n rows' none) x=_ from hh' x,if_neg hx.1,if_neg hx.2],go x hx.1⟩
 ·intro x o b hx ho hb
  simp only[not_or]at hx
  refine hother b ?_
  rintro rfl
  exact hx.1 (R.heap.sep x i o _ _ ho hi hb hri)
 ·rintro x o tx ho
  replace ho:=(hh' x).symm.trans ho
  by_cases hxi:x=i
  ·rw[if_pos hxi]at ho
   cases ho
   subst hxi
   rw[gi]
   exact hrel w' _ _ _ gv gt gg gb hself hother E.G5
  ·rw[if_neg hxi]at ho
   rcases tx with tx | tx
   ·exact absurd tx hxi
   ·rw[if_pos tx]at ho
    cases ho
    trivial
 ·rintro x ob b o tx ho h1
  replace ho:=(hh' x).symm.trans ho
  by_cases hxi:x=i
  ·rw[if_pos hxi]at ho
   cases ho
   subst hxi
   rw[gi]at h1
   rcases hP b ((gb b).1 h1)with hb | ⟨j,hj,hb⟩
   ·exact .inl ⟨x,_,.inl rfl,hi,hb⟩
   ·obtain⟨_,ob',o1,o2,_⟩:=hT0 j hj
    exact .inl ⟨j,ob',.inr hj,o1,o2 b hb o⟩
  ·rw[if_neg hxi]at ho
   rcases tx with tx | tx
   ·exact absurd tx hxi
   ·rw[if_pos tx]at ho
    cases ho
    exact h1.elim
 ·rintro x x' ox ox' b tx tx' ho ho' hb hb'
  replace ho:=(hh' x).symm.trans ho
  replace ho':=(hh' x').symm.trans ho'
  by_cases hxi:x=i
  ·by_cases hxi':x'=i
   ·rw[hxi,hxi']
   ·rw[if_neg hxi']at ho'
    rcases tx' with tx' | tx'
    ·exact absurd tx' hxi'
    ·rw[if_pos tx']at ho'
     cases ho'
     exact hb'.elim
  ·rw[if_neg hxi]at ho
   rcases tx with tx | tx
   ·exact absurd tx hxi
   ·rw[if_pos tx]at ho
    cases ho
    exact hb.elim
 ·intro j tj
  by_cases hj:Id.ext j=i
  ·rw[hj]
   exact .inr ⟨ht,by rw[gi];exact gt,by rw[gi,gg]⟩
  ·rw[go _ hj]
   exact .refl _
 ·intro x hx
  have h7:=R.free x hx
  have e1:Id.loc x≠i:=by rintro rfl;rw[h7.2]at hi;cases hi
  have e2:Id.loc x∉T0:=by
   intro hm
   obtain⟨_,ob,o1,_⟩:=hT0 _ hm
   rw[h7.2]at o1
   cases o1
  exact⟨(go _ e1).trans h7.1,by rw[show AX (BP h (BO T0)) i (.pmap n1 sz n rows' none) (.loc x)=_ from hh' _,if_neg e1,if_neg e2];exact h7.2⟩
end
end Go.AM
namespace Go.AM
open Go Go.RowKit
section
variable {C:Cx}{F:Nat→Prop}{s:Af}{h h':Heap}{g:Ac}{a:Act}{w w':World}
end
section
variable {C:Cx}{ti:Types}{o:Oper}{fresh:Nat}{s:Af}{h:Heap}{k:Out→Prop}
def Wp (x:AV) (h:Heap):Bool:=
 match x with
 | .v (.c (.ow i))=>(match h i with
  | some (.pmap ..)=>true
  | _=>false)
 | _=>false
def QO (x:AV) (h:Heap) (K:Id→Nat→Nat→Nat→List Mi→Prop):Prop:=
 match x with
 | .v (.c (.ow id))=>(match h id with
  | some (.pmap n1 sz n rows foc)=>(match foc with
   | none=>K id n1 sz n rows
   | some _=>False)
  | _=>False)
 | _=>False
theorem QP {x:AV}{K:Id→Nat→Nat→Nat→List Mi→Prop}(hk:QO x h K):∃id n1 sz n rows,K id n1 sz n rows∧h id=some (.pmap n1 sz n rows none)∧
  ∀{w:World} {Z:Av} {g:Ac} {σh:Heap} {u:Value},σh id=h id→BG w Z g σh x u→u=gval (g id):=by
 unfold QO at hk
 split at hk
 ·rename_i id
  split at hk
  ·rename_i n1 sz n rows foc hid
   split at hk
   ·exact⟨id,n1,sz,n,rows,hk,hid,fun hσ hr=>hr.2.2 (by rw[hσ,hid];rfl)⟩
   ·exact hk.elim
  ·exact hk.elim
 ·exact hk.elim
def QQ (ti:Types) (kt:TypeId) (key:AV) (K:Int→Prop):Prop:=
 BK ti kt fun kk=>match kk.desc with
 | .int _=>(match key with
  | .v (.d (.int q z))=>(match q with
   | .i64=>K z
   | _=>False)
  | _=>False)
 | _=>False
theorem QR {kt:TypeId}{key:AV}{K:Int→Prop}(hk:QQ ti kt key K):∃kk q z,ti kt=some kk∧kk.desc= .int q∧key= .v (.d (.int .i64 z))∧K z:=by
 unfold QQ at hk
 obtain⟨kk,hkk,hk⟩:=AZ.1 hk
 split at hk
 ·rename_i q hd
  split at hk
  ·split at hk
   ·exact⟨kk,q,_,hkk,hd,rfl,hk⟩
   ·exact hk.elim
  ·exact hk.elim
 ·exact hk.elim
theorem Xq {w:World}{Z:Av}{q:IntKind}{z:Int}{v:Value}(hy:Aj w Z (.int q z) v):v= .int q z:=by cases hy;rfl
def Wq (ti:Types) (t:TypeId):Bool:=
 match ti t with
 | some q=>(match q.desc with
  | .map _ et=>(match ti et with
   | some j=>(match j.desc with
    | .pointer _=>true
    | _=>false)
   | none=>false)
  | _=>false)
 | none=>false
def eraseP (z:Int) (rows:List Mi):List Mi:=
 match LO z 0 rows with
 | some kr=>rows.eraseIdx kr.1
 | none=>rows
def H6 (M:BS) (ti:Types) (t:TypeId) (x key:AV) (h:Heap) (k:Out→Prop):Prop:=
 BK ti t fun q=>match q.desc with
 | .map kt _=>QQ ti kt key fun z=>QO x h fun id n1 sz n rows=>∃rows',(M.lock fun _=>eraseP z rows=rows')∧k ⟨.u,[id],[(id,.pmap n1 sz n rows' none)]⟩
 | _=>False
theorem QS (hti:BV C.P ti) (t t':TypeId) (x y:Operand) (ho:o.op= .call {callee:=.builtin .delete,args:=#[x,y],argTypes:=#[t,t']}) (hk:H6 C.M ti t (BQ ti s t x) (BQ ti s t' y) h k):∃out,k out∧Bm C o fresh s h out:=by
 unfold H6 at hk
 obtain⟨q,hq,hk⟩:=AZ.1 hk
 split at hk
 rotate_left
 ·exact hk.elim
 rename_i kt et hdd
 obtain⟨kk,qi,zz,hkk,hkd,hop,hk⟩:=QR hk
 obtain⟨id,n1,sz,n,rows,hk,hid,hrel⟩:=QP hk
 obtain⟨rows',hlk,hk⟩:=hk
 have her:=(C.M.lock_iff _).1 hlk
 refine⟨_,hk,?_⟩
 rintro F σs σh a w Q ⟨g,R⟩ hs hrd hF hdst
 have hx:=Ai ti t x R (s:=s) (fun t ht=>hs t (by subst ht;simp[ho,Op.operands,Call.operands]))
 have hy:=Ai ti t' y R (s:=s) (fun t ht=>hs t (by subst ht;simp[ho,Op.operands,Call.operands]))
 rw[hop]at hy
 have hy:Aj w (BN (zone g σh) C.X) (.int .i64 zz) (a.eval y):=hy
 have hyv:=Xq hy
 have hσ:=(hrd id (by simp)).trans hid
 have hv:=hrel (hrd id (by simp)) hx
 obtain⟨ht,r,m,clock,B,g1,g2,g3,g4,g5,_,g6,g7,g8,g9⟩:=R.heap.objs id _ hσ
 rw[g1]at hv
 have e1:=DB hti hq w
 rw[hdd]at e1
 have e2:=DB hti hkk w
 have e4:∀b,(Instr.checkKey b 10000 kt (a.eval y)).run C.P w= .ok () w:=fun b=>GL (hti kt kk hkk).1 (by rw[hkd];rfl) hy b 9999
 have e5:=Cj (P:=C.P) g2
 have fin:∀(m':Array MapEntry),(execOp a.eval o).run C.P w= .ok (.value (.tuple #[])) {w with heap:=w.heap.setIfInBounds r (.map m' clock)}→
   (∃g',Ap C F σs (AX (BP σh (BO [])) id (.pmap n1 sz n rows' none)) g' a {w with heap:=w.heap.setIfInBounds r (.map m' clock)})→
   o.wp C.P a w (fun a' w'=>Rel C (fun n=>F n∧¬(fresh≤n∧n<fresh+32)) (DY σs o.dst .u) (BP σh [(id,.pmap n1 sz n rows' none)]) a' w') Q:=by
  rintro m' f1 ⟨g',R'⟩
  unfold Oper.wp
  rw[f1]
  exact⟨g',(R'.put hdst (v:=.u) (u:=.tuple #[]) trivial).BH (fun n hn=>hn.1)⟩
 rcases PB (kk:=qi) (z:=zz) (rows:=rows) (ms:=m.toList) 0 (by simpa using g3) (fun k x e hx he=>(g5 k x e hx (by simpa using he)).1)with⟨h1,h2⟩ | ⟨q',row,e,h1,h2,h3,h4⟩
 ·have hr:rows'=rows:=by rw[←her,eraseP,h1]
  subst hr
  have hset:=DD (P:=C.P) (.map m clock) g2
  refine fin m (by
   rw[←hkd]at h2
   simp[execOp,ho,resolve,invoke,builtin,Builtin.delete_,e1,hv,e5,e4,Instr.findKey,e2,hyv▸h2,hset]) ?_
  exact R.Wb hσ (T0:=[]) (by simp) g1 g2 (fun b=>Bi (g id) b) (fun b hb=>.inl hb) (fun w' Z' g' h' gv gt gg gb hw1 hw2 ED=>by
   refine⟨gt,r,_,_,B,by rw[gg];exact g1,hw1,g3,g4,g5,by simp,fun k x hx _=>?_,g7,g8,fun b=>by rw[gb,g9]⟩
   exact (g6 k x hx (by simp)).mono (hw2 _ (g8 k (List.getElem?_eq_some_iff.1 hx).1)) ED)
 ·simp only[Nat.zero_add]at h1 h4
  have hr:rows'=rows.eraseIdx q':=by rw[←her,eraseP,h1]
  subst hr
  have hlt:=(List.getElem?_eq_some_iff.1 h2).1
  have hlen:(rows.eraseIdx q').length=rows.length - 1:=by rw[List.length_eraseIdx,if_pos hlt]
  have hset:=DD (P:=C.P) (.map (m.eraseIdxIfInBounds q') clock) g2
  have hget:∀i,(m.eraseIdxIfInBounds q')[i]?=m[if i<q' then i else i+1]?:=by
   intro i
   rw[←Array.getElem?_toList,Array.toList_eraseIdxIfInBounds,List.getElem?_eraseIdx]
   split<;>simp
  have hgetr:∀i,(rows.eraseIdx q')[i]?=rows[if i<q' then i else i+1]?:=by
   intro i
   rw[List.getElem?_eraseIdx]
   split<;>rfl
  let f:Nat→Nat:=fun i=>if i<q' then i else i+1
  have f1:∀i,i<(rows.eraseIdx q').length→f i<rows.length∧f i≠q':=fun i hi=>by
   show (if i<q' then i else i+1)<rows.length∧(if i<q' then i else i+1)≠q'
   rw[hlen]at hi
   split<;>omega
  have f2:∀i k,f i=f k→i=k:=fun i k h=>by
   have h:(if i<q' then i else i+1)=(if k<q' then k else k+1):=h
   split at h<;>split at h<;>omega
  refine fin (m.eraseIdxIfInBounds q') (by
   rw[←hkd]at h4
   simp[execOp,ho,resolve,invoke,builtin,Builtin.delete_,e1,hv,e5,e4,Instr.findKey,e2,hyv▸h4,hset]) ?_
  exact R.Wb hσ (T0:=[]) (by simp) g1 g2 (fun b=>b=r∨∃k,k<(rows.eraseIdx q').length∧b=B (f k)) (fun b hb=>by
    rcases hb with rfl | ⟨k,hk,rfl⟩
    ·exact .inl ((g9 _).2 (.inl rfl))
    ·exact .inl ((g9 _).2 (.inr ⟨f k,(f1 k hk).1,by simp,rfl⟩))) (fun w' Z' g' h' gv gt gg gb hw1 hw2 ED=>by
   refine⟨gt,r,_,_,fun k=>B (f k),by rw[gg];exact g1,hw1,?_,fun en hen=>?_,fun k x en hx he=>?_,by simp,fun k x hx _=>?_,fun i k hi hk he=>f2 i k (g7 _ _ (f1 i hi).1 (f1 k hk).1 he),fun k hk=>g8 _ (f1 k hk).1,fun b=>?_⟩
   ·have:(m.eraseIdxIfInBounds q').toList.length=(rows.eraseIdx q').length:=by
     rw[Array.toList_eraseIdxIfInBounds,List.length_eraseIdx,List.length_eraseIdx]
     simp[g3]
    rw[←Array.length_toList]
    exact this
   ·have hen:=Array.mem_toList_iff.2 hen
    rw[Array.toList_eraseIdxIfInBounds]at hen
    exact g4 en (Array.mem_toList_iff.1 (List.mem_of_mem_eraseIdx hen))
   ·rw[hgetr]at hx
    rw[hget]at he
    exact g5 _ x en hx he
   ·have hk:=(List.getElem?_eq_some_iff.1 hx).1
    rw[hgetr]at hx
    exact (g6 _ x hx (by simp)).mono (hw2 _ (g8 _ (f1 k hk).1)) ED
   ·rw[gb]
    simp)
def S7 (x:AV) (h:Heap):Bool:=
 match x with
 | .v (.c (.ptr i _))=>(match h i with
  | some (.arr ..)=>true
  | _=>false)
 | .v (.c (.ap i _ _ _ _))=>(match h i with
  | some (.arr ..)=>true
  | _=>false)
 | _=>false
end
end Go.AM
namespace Go.AM
open Go Go.RowKit
def Wr:AV→Bool
 | .v (.d (.str _))=>true
 | _=>false
section
variable {C:Cx}{ti:Types}{o:Oper}{fresh:Nat}{s:Af}{h:Heap}{k:Out→Prop}
end
end Go.AM
namespace Go.AM
open Go Go.RowKit
section
variable {C:Cx}{ti:Types}{o:Oper}{fresh:Nat}{s:Af}{h:Heap}{k:Out→Prop}
theorem DJ {F:Nat→Prop}{σs:Af}{σh:Heap}{g:Ac}{a:Act}{w:World}(R:Ap C F σs σh g a w):
  ∀(l:List Operand) (ts:List TypeId) (xs:List V1),(∀t,Operand.tmp t∈l→σs t=s t)→J6 (C8 ti s l ts)=some xs→
   xs.length=l.length∧∀(j:Nat) x p,xs[j]?=some x→l[j]?=some p→BE w (BN (zone g σh) C.X) g σh x (a.eval p)
 | [],ts,xs,_,he=>by
  have:xs=[]:=by cases ts<;>simpa [C8,J6] using he.symm
  subst this
  exact⟨rfl,by simp⟩
 | p::l,ts,xs,hs,he=>by
  have main:∀(t:TypeId) (ts':List TypeId),J6 (BQ ti s t p::C8 ti s l ts')=some xs→
    xs.length=(p::l).length∧∀(j:Nat) x q,xs[j]?=some x→(p::l)[j]?=some q→BE w (BN (zone g σh) C.X) g σh x (a.eval q):=by
   intro t ts' he
   unfold J6 at he
   split at he
   ·rename_i e;simp at e
   ·rename_i y r e
    simp at e
    obtain⟨e1,rfl⟩:=e
    split at he
    ·rename_i l' hl'
     simp at he
     subst he
     obtain⟨h1,h2⟩:=DJ R l ts' l' (fun t ht=>hs t (List.mem_cons_of_mem _ ht)) hl'
     refine⟨by simp[h1],fun j x q hx hq=>?_⟩
     match j with
     | 0=>
      simp at hx hq
      subst hx;subst hq
      have:=Ai ti t p R (s:=s) (fun k hk=>hs k (by simp[hk]))
      rw[e1]at this
      exact BE.norm this
     | j+1=>simp at hx hq;exact h2 j x q hx hq
    ·simp at he
   ·simp at he
  match ts with
  | []=>exact main 0 [] he
  | t::ts'=>exact main t ts' he
theorem ZN (c:Call) (f:Operand) (ho:o.op= .call c) (hc:c.callee= .value f)
  (hk:Wn C.M (BQ ti s 0 f) (C8 ti s c.args.toList c.argTypes.toList) k):∃out,k out∧Bm C o fresh s h out:=by
 unfold Wn at hk
 split at hk
 ·rename_i n cap hop
  split at hk
  ·split at hk
   ·rename_i xs hxs
    split at hk
    ·rename_i x y cc
     obtain⟨hl,z,u,rfl,rfl,hk⟩:=hk
     obtain⟨⟨fn,f1,f2,f3,f4,f5⟩,b1,b2,b3,b4⟩:=(C.M.lock_iff _).1 hl
     refine⟨_,hk,AY fun F σs σh g a w R hs _=>?_⟩
     have hf:=Ai ti 0 f R (s:=s) (fun k hk=>hs k (by subst hk;simp[ho,hc,Op.operands,Call.operands]))
     rw[hop]at hf
     obtain⟨hfv,_⟩:=hf
     obtain⟨h1,h2⟩:=DJ (ti:=ti) R c.args.toList c.argTypes.toList _ (fun t ht=>hs t (by simp[ho,hc,Op.operands,Call.operands];right;simpa using ht)) hxs
     have hsz:c.args.size=3:=by simpa using h1.symm
     obtain⟨p0,p1,p2,hargs⟩:∃p0 p1 p2,c.args=#[p0,p1,p2]:=by
      refine⟨c.args[0],c.args[1],c.args[2],?_⟩
      apply Array.ext
      ·simpa using hsz
      ·intro i h3 h4
       match i,h4 with
       | 0,_=>rfl
       | 1,_=>rfl
       | 2,_=>rfl
     rw[hargs]at h2
     have q0:a.eval p0= .int .u64 x:=by have:Aj w _ _ _:=h2 0 _ p0 rfl rfl;exact GF (g:=g) (h:=σh) this
     have q1:a.eval p1= .int .u64 y:=by have:Aj w _ _ _:=h2 1 _ p1 rfl rfl;exact GF (g:=g) (h:=σh) this
     have q2:a.eval p2= .int .u64 cc:=by have:Aj w _ _ _:=h2 2 _ p2 rfl rfl;exact GF (g:=g) (h:=σh) this
     refine⟨.tuple #[.int .u64 ((x+y+cc) % 18446744073709551616),.int .u64 ((x+y+cc) / 18446744073709551616)],?_,#[.int .u64 _,.int .u64 _],rfl,rfl,fun q c u hc hu=>?_⟩
     ·have hx:=run_callFunc_extern (P:=C.P) f1 f2 f3 f4 f5 #[.int .u64 x,.int .u64 y,.int .u64 cc] w
      rw[run_add64 x y cc b1 b2 b3 b4 w]at hx
      simp[execOp,ho,resolve,hc,hfv,Deferred.ofValue,invoke,hargs,q0,q1,q2,hx,Result.andThen]
     ·match q with
      | 0=>simp at hc hu;subst hc;subst hu;exact .int _ _
      | 1=>simp at hc hu;subst hc;subst hu;exact .int _ _
      | q+2=>simp at hc
    ·exact hk.elim
   ·exact hk.elim
  ·exact hk.elim
 ·exact hk.elim
theorem U8 (c:Call) (f:Operand) (ho:o.op= .call c) (hc:c.callee= .value f)
  (hk:K5 C.M (BQ ti s 0 f) (C8 ti s c.args.toList c.argTypes.toList) fresh h k):∃out,k out∧Bm C o fresh s h out:=by
 unfold K5 at hk
 split at hk
 ·rename_i n cap hop
  unfold withArgs at hk
  split at hk
  ·rename_i xs hxs
   obtain⟨m,targs,pre,res,post,new,htrip,hargs,hlen,hnd,hpre,hkinds,hnew,hk⟩:=(C.M.lock_iff _).1 hk
   refine⟨_,hk,?_⟩
   rintro F σs σh a w Q ⟨g,R⟩ hs hrd hF hd
   have hf:=Ai ti 0 f R (s:=s) (fun k hk=>hs k (by subst hk;simp[ho,hc,Op.operands,Call.operands]))
   rw[hop]at hf
   obtain⟨hfv,hcap⟩:=hf
   obtain⟨h1,h2⟩:=DJ (ti:=ti) R c.args.toList c.argTypes.toList xs (fun t ht=>hs t (by simp[ho,hc,Op.operands,Call.operands];right;simpa using ht)) hxs
   obtain⟨fn,body,hfn,hb,hname⟩:=htrip.1
   have hrun:(execOp a.eval o).run C.P w= .ok (.enter n (c.args.map a.eval++(cap.map (fun i=>DG (g i) 0)).toArray)) w:=by
    have hn':¬fn.name= "runtime.NumGoroutine" :=by simpa using hname
    simp[execOp,ho,resolve,hc,hfv,Deferred.ofValue,invoke,callFunc,hfn,hb,hn']
   have hpre':∀(j:Nat) i o,m[j]?=some i→pre[j]?=some o→σh i=some (o.BW (Bh m fresh)):=fun j i o' hm hp=>
    (hrd i (List.mem_of_getElem? hm)).trans (hpre j i o' hm hp)
   unfold Oper.wp
   rw[hrun,Oper.upon_enter]
   refine Calls.mono (HC (Qp:=fun r p n=>r=res∧p=post∧n=new) (Run:=fun p=>Calls C.P n (c.args.map a.eval++(cap.map (fun i=>DG (g i) 0)).toArray) w p) (vals:=c.args.map a.eval++(cap.map (fun i=>DG (g i) 0)).toArray) (dst:=o.dst) (Q:=Q) R (fun hpq hp=>hp.mono hpq) (fun X g1 _ k1 k2 k3 k4 k6=>htrip.2 w X g1 _ k1 k2 k3 k4 ?_ k6) hlen hnd hpre' ?_ hF hd (targs:=targs) ?_) ?_
   ·have:=congrArg List.length hargs
    simp[h1]at this
    simp
    omega
   ·rintro _ _ _ ⟨rfl,rfl,rfl⟩;exact⟨hkinds,hnew⟩
   rotate_left
   ·intro e w' he
    cases e with
    | returned v=>obtain⟨_,_,_,⟨rfl,rfl,rfl⟩,g2,_,he⟩:=he;exact⟨g2,he⟩
    | panicked ch=>exact he
    | outgrown=>exact he
   ·intro j x v hx hv
    rw[←hargs]at hx
    simp only[Array.getElem?_append,Array.size_map,List.getElem?_toArray]at hv
    by_cases hj:j<c.args.size
    ·rw[if_pos hj]at hv
     rw[List.getElem?_append_left (by rw[h1];simpa using hj)]at hx
     simp only[Array.getElem?_map,Option.map_eq_some_iff]at hv
     obtain⟨p,hp,rfl⟩:=hv
     exact h2 j x p hx (by simpa using hp)
    ·rw[if_neg hj]at hv
     rw[List.getElem?_append_right (by rw[h1];simpa using hj),h1]at hx
     simp only[List.getElem?_map,Option.map_eq_some_iff,Array.length_toList]at hx hv
     obtain⟨i,hi,rfl⟩:=hx
     obtain⟨i',hi',rfl⟩:=hv
     rw[hi]at hi'
     obtain rfl:i=i':=by simpa using hi'
     obtain⟨b,hb'⟩:=hcap i (List.mem_of_getElem? hi)
     exact⟨⟨b,hb'⟩,rfl⟩
  ·exact hk.elim
 ·rename_i n i0 hop
  unfold withArgs at hk
  split at hk
  ·rename_i xs hxs
   obtain⟨m,targs,pre,res,post,new,htrip,hargs,hlen,hnd,hpre,hkinds,hnew,hk⟩:=(C.M.lock_iff _).1 hk
   refine⟨_,hk,?_⟩
   rintro F σs σh a w Q ⟨g,R⟩ hs hrd hF hd
   have hf:=Ai ti 0 f R (s:=s) (fun k hk=>hs k (by subst hk;simp[ho,hc,Op.operands,Call.operands]))
   rw[hop]at hf
   obtain⟨⟨b0,hb0⟩,hfv⟩:=hf
   obtain⟨h1,h2⟩:=DJ (ti:=ti) R c.args.toList c.argTypes.toList xs (fun t ht=>hs t (by simp[ho,hc,Op.operands,Call.operands];right;simpa using ht)) hxs
   obtain⟨fn,body,hfn,hb,hname⟩:=htrip.1
   have hrun:(execOp a.eval o).run C.P w= .ok (.enter n (#[DG (g i0) 0]++c.args.map a.eval)) w:=by
    have hn':¬fn.name= "runtime.NumGoroutine" :=by simpa using hname
    simp[execOp,ho,resolve,hc,hfv,Deferred.ofValue,invoke,callFunc,hfn,hb,hn']
   have hpre':∀(j:Nat) i o,m[j]?=some i→pre[j]?=some o→σh i=some (o.BW (Bh m fresh)):=fun j i o' hm hp=>
    (hrd i (List.mem_of_getElem? hm)).trans (hpre j i o' hm hp)
   unfold Oper.wp
   rw[hrun,Oper.upon_enter]
   refine Calls.mono (HC (Qp:=fun r p n=>r=res∧p=post∧n=new) (Run:=fun p=>Calls C.P n (#[DG (g i0) 0]++c.args.map a.eval) w p) (vals:=#[DG (g i0) 0]++c.args.map a.eval) (dst:=o.dst) (Q:=Q) R (fun hpq hp=>hp.mono hpq) (fun X g1 _ k1 k2 k3 k4 k6=>htrip.2 w X g1 _ k1 k2 k3 k4 ?_ k6) hlen hnd hpre' ?_ hF hd (targs:=targs) ?_) ?_
   ·have:=congrArg List.length hargs
    simp[h1]at this
    simp
    omega
   ·rintro _ _ _ ⟨rfl,rfl,rfl⟩;exact⟨hkinds,hnew⟩
   rotate_left
   ·intro e w' he
    cases e with
    | returned v=>obtain⟨_,_,_,⟨rfl,rfl,rfl⟩,g2,_,he⟩:=he;exact⟨g2,he⟩
    | panicked ch=>exact he
    | outgrown=>exact he
   ·intro j x v hx hv
    rw[←hargs]at hx
    cases j with
    | zero=>
     rw[Array.getElem?_append_left (by simp)]at hv
     simp at hx hv
     subst hx
     subst hv
     exact⟨⟨b0,hb0⟩,rfl⟩
    | succ j=>
     simp only[List.getElem?_cons_succ]at hx
     simp only[Array.getElem?_append,Array.size_map]at hv
     rw[if_neg (by simp)]at hv
     simp only[Array.getElem?_map,Option.map_eq_some_iff]at hv
     obtain⟨p,hp,rfl⟩:=hv
     exact h2 j x p hx (by simpa using hp)
  ·exact hk.elim
 ·exact hk.elim
theorem BU (hti:BV C.P ti) (h1:Bo ti) (hst:∀t x y,o.op= .store t x y→o.dst=none) (hk:CM C.M ti o fresh s h k):∃out,k out∧Bm C o fresh s h out:=by
 unfold CM at hk
 split at hk
 ·rename_i x ho;exact⟨_,hk,Q6 x (.inl ho)⟩
 ·rename_i x ho;exact⟨_,hk,Q6 x (.inr ho)⟩
 ·rename_i c x y ho
  obtain⟨q,hq,hk⟩:=M5.1 hk
  exact⟨_,hk,Uy c x y ho hq⟩
 ·rename_i t ho
  obtain⟨i,hi,hk⟩:=AZ.1 hk
  exact⟨_,hk,Sr hti t ho hi⟩
 ·rename_i t x ho
  obtain⟨y,hy,hk⟩:=DH.1 hk
  exact⟨_,hk,Wd t x ho hy⟩
 ·rename_i t x ho;exact Uz hti h1 t x ho hk
 ·rename_i t x y ho;exact Sv hti t x y ho (hst t x y ho) hk
 ·rename_i t x f ho;exact Sw hti t x f ho hk
 ·rename_i t x y ho;exact Sx hti t x y ho hk
 ·rename_i x ho
  split at hk
  ·rename_i i q hop;exact⟨_,hk,Om x ho hop⟩
  ·exact hk.elim
 ·rename_i op t x y t' ho;exact Wf hti op t t' x y ho hk
 ·rename_i op t x ho;exact Xo op t x ho hk
 ·rename_i fn first captured ho
  split at hk
  ·rename_i f hfi
   split at hk
   ·rename_i l hl;exact⟨_,hk,Oo _ first captured ho rfl hfi hl⟩
   ·exact hk.elim
  ·rename_i f x hfi
   split at hk
   ·rename_i i hcap hx;exact⟨_,hk,Rx _ first captured ho rfl hfi hcap hx⟩
   ·exact hk.elim
  ·exact hk.elim
 ·rename_i t parts ho;exact S0 hti t parts ho hk
 ·rename_i t len parts ho
  obtain⟨c,hk⟩:=hk
  cases c with
  | true=>exact Mn hti t len parts ho hk
  | false=>exact LK hti t len parts ho hk
 ·rename_i t x i ok ho;exact SE hti t x i ok ho hk
 ·rename_i t x lo hi mx ho;exact R8 hti t x lo hi mx ho hk
 ·rename_i t x i ho;exact R9 hti h1 t x i ho hk
 ·rename_i t x f ho;exact R7 hti h1 t x f ho hk
 ·rename_i x i ho;exact QH x i ho hk
 ·rename_i a b x ho;exact QI hti a b x ho hk
 ·rename_i c ho
  split at hk
  ·rename_i hc
   split at hk
   ·rename_i x t hx ht
    refine We hti t x ?_ hk
    obtain⟨callee,args,argTypes⟩:=c
    have e1:args=#[x]:=by apply Array.ext';simpa using hx
    have e2:argTypes=#[t]:=by apply Array.ext';simpa using ht
    subst e1;subst e2
    simp only[]at hc
    subst hc
    exact ho
   ·exact hk.elim
  ·rename_i hc
   split at hk
   ·rename_i x y t t' hx ht
    replace hk:=AR.1 hk
    obtain⟨htt,hk⟩:=hk
    have htt:=Nat.eq_of_beq_eq_true htt
    subst htt
    refine SC hti t x y ?_ hk
    obtain⟨callee,args,argTypes⟩:=c
    have e1:args=#[x,y]:=by apply Array.ext';simpa using hx
    have e2:argTypes=#[t,t]:=by apply Array.ext';simpa using ht
    subst e1;subst e2
    simp only[]at hc
    subst hc
    exact ho
   ·exact hk.elim
  ·rename_i f hc;exact U8 c f ho hc hk
  ·exact hk.elim
 ·exact hk.elim
def PC (h:Heap) (ids rd:List Id):List (Id×AQ)→(List (Id×AQ)→Prop)→Prop
 | [],K=>K []
 | x::r,K=>match Mk x.1 ids with
  | true=>(match Mk x.1 rd with
   | true=>h x.1=some x.2∧PC h ids rd r K
   | false=>False)
  | false=>PC h ids rd r fun wr=>K (x::wr)
theorem LP {ids rd:List Id}:∀{wr:List (Id×AQ)}{K:List (Id×AQ)→Prop},PC h ids rd wr K→∃wr',K wr'∧∀σh:Heap,(∀i∈rd,Mk i ids=true→σh i=h i)→BP σh wr'=BP σh wr
 | [],K,hk=>⟨[],hk,fun _ _=>rfl⟩
 | x::r,K,hk=>by
  simp only[PC]at hk
  split at hk
  ·rename_i hi
   split at hk
   ·rename_i hr
    obtain⟨hx,hk⟩:=hk
    obtain⟨wr',h1,h2⟩:=LP hk
    refine⟨wr',h1,fun σh hσ=>?_⟩
    have e:AX σh x.1 x.2=σh:=by
     funext y
     simp only[AX]
     split
     ·rename_i hy
      rw[hy,hσ x.1 (IQ.1 hr) hi,hx]
     ·rfl
    show BP σh wr'=BP (AX σh x.1 x.2) r
    rw[e]
    exact h2 σh hσ
   ·exact hk.elim
  ·rename_i hi
   obtain⟨wr',h1,h2⟩:=LP hk
   refine⟨x::wr',h1,fun σh hσ=>?_⟩
   show BP (AX σh x.1 x.2) wr'=BP (AX σh x.1 x.2) r
   refine h2 _ fun i hr hi'=>?_
   have hne:i≠x.1:=by rintro rfl;rw[hi]at hi';cases hi'
   rw[show AX σh x.1 x.2 i=σh i by simp[AX,hne]]
   exact hσ i hr hi'
theorem SH {out:Out}{wr':List (Id×AQ)}{ids:List Id}(hok:Bm C o fresh s h out) (hsame:∀σh:Heap,(∀i∈out.rd,Mk i ids=true→σh i=h i)→BP σh wr'=BP σh out.wr):Bm C o fresh s h ⟨out.val,out.rd,wr'⟩:=by
 intro F σs σh a w Q R hs hrd hF hd
 have:=hok F σs σh a w Q R hs hrd hF hd
 rw[←hsame σh (fun i hi _=>hrd i hi)]at this
 exact this
def U9 (M:BS) (ti:Types) (o:Oper) (fresh:Nat) (s:Af) (h:Heap) (k:Out→Prop):Prop:=
 ∃ids:List Id,CM M ti o fresh s h fun out=>PC h ids out.rd out.wr fun wr=>k ⟨out.val,out.rd,wr⟩
def Fk (M:BS) (ti:Types) (o:Oper) (fresh:Nat) (s:Af) (h:Heap) (k:Out→Prop):Prop:=
 match o.op with
 | .load t x=>(match Ur (BQ ti s 0 x)with
  | true=>(match QN (BQ ti s 0 x) h with
   | true=>False
   | false=>Ol ti t (BQ ti s 0 x) fresh h k)
  | false=>(match S7 (BQ ti s 0 x) h with
   | true=>False
   | false=>CM M ti o fresh s h k))
 | .store t x y=>(match Ur (BQ ti s 0 x)with
  | true=>(match QN (BQ ti s 0 x) h with
   | true=>False
   | false=>False)
  | false=>(match S7 (BQ ti s 0 x) h with
   | true=>False
   | false=>CM M ti o fresh s h k))
 | .fieldAddr t x f=>(match Ur (BQ ti s 0 x)with
  | true=>(match QN (BQ ti s 0 x) h with
   | true=>False
   | false=>False)
  | false=>CM M ti o fresh s h k)
 | .indexAddr t x i=>(match Ur (BQ ti s t x)with
  | true=>(match QN (BQ ti s t x) h with
   | true=>False
   | false=>Jq M ti t (BQ ti s t x) (BQ ti s 3 i) h k)
  | false=>CM M ti o fresh s h k)
 | .nilCheck x=>(match Ur (BQ ti s 0 x)with
  | true=>(match QN (BQ ti s 0 x) h with
   | true=>False
   | false=>False)
  | false=>CM M ti o fresh s h k)
 | .buildSlice t len parts=>∃c:Bool,(match c with
  | true=>GJ ti s t len parts.toList fresh h k
  | false=>CM M ti o fresh s h k)
 | .slice t x lo hi mx=>(match Ur (BQ ti s t x)with
  | true=>False
  | false=>CM M ti o fresh s h k)
 | .call c=>(match c.callee with
  | .builtin .len=>(match c.args.toList,c.argTypes.toList with
   | [x],[t]=>(match Ur (BQ ti s t x)with
    | true=>(match QN (BQ ti s t x) h with
     | true=>False
     | false=>∃b:Bool,(match b with
      | true=>False
      | false=>Nr M ti t (BQ ti s t x) h k))
    | false=>CM M ti o fresh s h k)
   | _,_=>False)
  | .builtin .append=>(match c.args.toList,c.argTypes.toList with
   | [x,y],[t,t']=>∃b:Bool,(match b with
    | true=>Bq (Nat.beq t t') (∃c:Bool,(match c with
     | true=>LL M ti t (BQ ti s t x) (BQ ti s t y) fresh h k
     | false=>False))
    | false=>(match Wr (BQ ti s t' y)with
     | true=>False
     | false=>CM M ti o fresh s h k))
   | _,_=>False)
  | .value f=>Wn M (BQ ti s 0 f) (C8 ti s c.args.toList c.argTypes.toList) k∨(LB h (fun h'=>CM M ti o fresh s h') k∨U9 M ti o fresh s h k)
  | .builtin .min=>(match c.args.toList,c.argTypes.toList with
   | [x,y],[t,t']=>HE true (BQ ti s t x) (BQ ti s t' y) k
   | _,_=>False)
  | .builtin .delete=>(match c.args.toList,c.argTypes.toList with
   | [x,y],[t,t']=>H6 M ti t (BQ ti s t x) (BQ ti s t' y) h k
   | _,_=>False)
  | .builtin .max=>(match c.args.toList,c.argTypes.toList with
   | [x,y],[t,t']=>HE false (BQ ti s t x) (BQ ti s t' y) k
   | _,_=>False)
  | _=>False)
 | .makeSlice t x y=>False
 | .lookup t x y ok=>(match Ur (BQ ti s t x)with
  | true=>(match Wp (BQ ti s t x) h with
   | true=>False
   | false=>H4 M ti t (BQ ti s t x) (BQ ti s 0 y) ok h k)
  | false=>(match ZM (BQ ti s t x)with
   | true=>(match ok with
    | true=>False
    | false=>H5 M ti t (BQ ti s t x) (BQ ti s 0 y) h k)
   | false=>CM M ti o fresh s h k))
 | .mapUpdate t x y z=>(match Wp (BQ ti s t x) h with
  | true=>False
  | false=>FL M ti t (BQ ti s t x) (BQ ti s 0 y) (BQ ti s 0 z) h k)
 | .insert t x y z=>FL M ti t (BQ ti s t x) (BQ ti s 0 y) (BQ ti s 0 z) h k
 | .makeMap t r=>(match r with
  | none=>(match Wq ti t with
   | true=>False
   | false=>(match SG ti t with
    | true=>GM ti t fresh k
    | false=>GK ti t fresh k))
  | some _=>False)
 | .binOp op t x y _=>(match Wj (BQ ti s t x)with
  | true=>False
  | false=>(match Ur (BQ ti s t x)with
   | true=>(match Wp (BQ ti s t x) h with
    | true=>False
    | false=>False)
   | false=>CM M ti o fresh s h k))
 | .convert a b x=>(match Wl (BQ ti s a x)with
  | true=>CM M ti o fresh s h k
  | false=>False)
 | _=>CM M ti o fresh s h k
theorem GN (hti:BV C.P ti) (h1:Bo ti) (hst:∀t x y,o.op= .store t x y→o.dst=none) (hst2:∀t x y z,(o.op= .mapUpdate t x y z∨o.op= .insert t x y z)→o.dst=none) (hk:Fk C.M ti o fresh s h k):∃out,k out∧Bm C o fresh s h out:=by
 unfold Fk at hk
 split at hk
 ·rename_i t x ho
  split at hk
  ·split at hk
   ·contradiction
   ·exact Sz hti h1 t x ho hk
  ·split at hk
   ·contradiction
   ·exact BU hti h1 hst hk
 ·rename_i t x y ho
  split at hk
  ·split at hk
   ·contradiction
   ·contradiction
  ·split at hk
   ·contradiction
   ·exact BU hti h1 hst hk
 ·rename_i t x f ho
  split at hk
  ·split at hk
   ·contradiction
   ·contradiction
  ·exact BU hti h1 hst hk
 ·rename_i t x y ho
  split at hk
  ·split at hk
   ·contradiction
   ·exact R5 hti t x y ho hk
  ·exact BU hti h1 hst hk
 ·rename_i x ho
  split at hk
  ·split at hk
   ·contradiction
   ·contradiction
  ·exact BU hti h1 hst hk
 ·rename_i t len parts ho
  obtain⟨c,hk⟩:=hk
  cases c with
  | true=>exact LM hti h1 t len parts ho hk
  | false=>exact BU hti h1 hst hk
 ·rename_i t x lo hi mx ho
  split at hk
  ·contradiction
  ·exact BU hti h1 hst hk
 ·rename_i c ho
  split at hk
  ·rename_i hc
   split at hk
   ·rename_i x t hx ht
    split at hk
    ·have ho':o.op= .call {callee:=.builtin .len,args:=#[x],argTypes:=#[t]}:=by
      obtain⟨callee,args,argTypes⟩:=c
      have e1:args=#[x]:=by apply Array.ext';simpa using hx
      have e2:argTypes=#[t]:=by apply Array.ext';simpa using ht
      subst e1;subst e2
      simp only[]at hc
      subst hc
      exact ho
     split at hk
     ·contradiction
     obtain⟨b,hk⟩:=hk
     cases b with
     | true=>contradiction
     | false=>exact U0 hti t x ho' hk
    ·exact BU hti h1 hst hk
   ·exact hk.elim
  ·rename_i hc
   split at hk
   ·rename_i x y t t' hx ht
    obtain⟨b,hk⟩:=hk
    cases b with
    | true=>
     replace hk:=AR.1 hk
     obtain⟨htt,hk⟩:=hk
     have htt:=Nat.eq_of_beq_eq_true htt
     subst htt
     have ho':o.op= .call {callee:=.builtin .append,args:=#[x,y],argTypes:=#[t,t]}:=by
      obtain⟨callee,args,argTypes⟩:=c
      have e1:args=#[x,y]:=by apply Array.ext';simpa using hx
      have e2:argTypes=#[t,t]:=by apply Array.ext';simpa using ht
      subst e1;subst e2
      simp only[]at hc
      subst hc
      exact ho
     obtain⟨c',hk⟩:=hk
     cases c' with
     | true=>exact QJ hti h1 t x y ho' hk
     | false=>contradiction
    | false=>
     have ho':o.op= .call {callee:=.builtin .append,args:=#[x,y],argTypes:=#[t,t']}:=by
      obtain⟨callee,args,argTypes⟩:=c
      have e1:args=#[x,y]:=by apply Array.ext';simpa using hx
      have e2:argTypes=#[t,t']:=by apply Array.ext';simpa using ht
      subst e1;subst e2
      simp only[]at hc
      subst hc
      exact ho
     have hz:=hk
     dsimp only at hz
     split at hz
     ·contradiction
     ·exact BU hti h1 hst hz
   ·exact hk.elim
  ·rename_i f hc
   rcases hk with hk | ⟨gs,hk⟩ | ⟨ids,hk⟩
   ·exact ZN c f ho hc hk
   ·exact EW hk (fun h' k' hk'=>BU hti h1 hst hk')
   ·obtain⟨out,hk,hok⟩:=BU hti h1 hst hk
    obtain⟨wr',hk,hsame⟩:=LP hk
    exact⟨_,hk,SH hok hsame⟩
  ·rename_i hc
   split at hk
   ·rename_i x y t t' hx ht
    refine NI true t t' x y ?_ hk
    obtain⟨callee,args,argTypes⟩:=c
    have e1:args=#[x,y]:=by apply Array.ext';simpa using hx
    have e2:argTypes=#[t,t']:=by apply Array.ext';simpa using ht
    subst e1;subst e2
    simp only[]at hc
    subst hc
    exact ho
   ·exact hk.elim
  ·rename_i hc
   split at hk
   ·rename_i x y t t' hx ht
    refine QS hti t t' x y ?_ hk
    obtain⟨callee,args,argTypes⟩:=c
    have e1:args=#[x,y]:=by apply Array.ext';simpa using hx
    have e2:argTypes=#[t,t']:=by apply Array.ext';simpa using ht
    subst e1;subst e2
    simp only[]at hc
    subst hc
    exact ho
   ·exact hk.elim
  ·rename_i hc
   split at hk
   ·rename_i x y t t' hx ht
    refine NI false t t' x y ?_ hk
    obtain⟨callee,args,argTypes⟩:=c
    have e1:args=#[x,y]:=by apply Array.ext';simpa using hx
    have e2:argTypes=#[t,t']:=by apply Array.ext';simpa using ht
    subst e1;subst e2
    simp only[]at hc
    subst hc
    exact ho
   ·exact hk.elim
  ·exact hk.elim
 ·rename_i t x y ho
  contradiction
 ·rename_i t x y ok ho
  split at hk
  ·split at hk
   ·contradiction
   ·exact QK hti t x y ok ho hk
  ·split at hk
   ·cases ok with
    | true=>exact hk.elim
    | false=>exact QL hti t x y ho hk
   ·exact BU hti h1 hst hk
 ·rename_i t x y z ho
  split at hk
  ·contradiction
  ·exact LN hti t x y z (.inl ho) (hst2 t x y z (.inl ho)) hk
 ·rename_i t x y z ho
  exact LN hti t x y z (.inr ho) (hst2 t x y z (.inr ho)) hk
 ·rename_i t r ho
  split at hk
  ·split at hk
   ·contradiction
   ·split at hk
    ·exact PA t ho hk
    ·exact O7 hti t ho hk
  ·exact hk.elim
 ·rename_i op t x y t' ho
  split at hk
  ·contradiction
  ·split at hk
   ·split at hk
    ·contradiction
    ·contradiction
   ·exact BU hti h1 hst hk
 ·rename_i a b x ho
  split at hk
  ·exact BU hti h1 hst hk
  ·contradiction
 ·exact BU hti h1 hst hk
end
end Go.AM
