/- MachineNil. No condition. (Part 10.) -/
import Derived.Test.YtaomkgkdfafiiaaGreatDoorNilI
set_option linter.unusedVariables false
set_option linter.unusedSimpArgs false
noncomputable section
namespace Go.Proofs.YtaomkgkdfafiiaaGreatDoor
open Go Go.AM
noncomputable def eqIs (a b:Int):Bool:=match a,b with
 | .ofNat m,.ofNat n=>Nat.beq m n
 | .negSucc m,.negSucc n=>Nat.beq m n
 | _,_=>false
theorem eqIs_ok {a b:Int}(h:eqIs a b=true):a=b:=by
 unfold eqIs at h
 split at h
 ·rw[Nat.eq_of_beq_eq_true h]
 ·rw[Nat.eq_of_beq_eq_true h]
 ·cases h
noncomputable def eqLs (e:D→D→Bool):List D→List D→Bool
 | [],[]=>true
 | a::l,b::m=>(match e a b with
  | true=>eqLs e l m
  | false=>false)
 | _,_=>false
theorem eqLs_ok {e:D→D→Bool}(he:∀a b,e a b=true→a=b):∀{l m:List D},eqLs e l m=true→l=m
 | [],[],_=>rfl
 | a::l,b::m,h=>by
  unfold eqLs at h
  split at h
  ·rename_i hab;rw[he _ _ hab,eqLs_ok he h]
  ·cases h
 | [],_::_,h=>by simp[eqLs]at h
 | _::_,[],h=>by simp[eqLs]at h
noncomputable def eqDs:Nat→D→D→Bool
 | 0,_,_=>false
 | n+1,a,b=>(match a,b with
  | .int q x,.int q' y=>decide (q=q')&&eqIs x y
  | .bool x,.bool y=>x==y
  | .str x,.str y=>decide (x.data.toList=y.data.toList)
  | .agg l,.agg m=>eqLs (eqDs n) l m
  | .list ag sz l,.list ag' sz' m=>(ag==ag'&&Nat.beq sz sz')&&eqLs (eqDs n) l m
  | _,_=>false)
theorem eqDs_ok:∀(n:Nat) (a b:D),eqDs n a b=true→a=b
 | 0,_,_,h=>by cases h
 | n+1,a,b,h=>by
  unfold eqDs at h
  split at h
  ·simp only[Bool.and_eq_true,decide_eq_true_eq]at h
   rw[h.1,eqIs_ok h.2]
  ·rw[eq_of_beq h]
  ·rename_i x y
   have h:=of_decide_eq_true h
   congr 1
   apply ByteArray.ext
   exact Array.ext' h
  ·rw[eqLs_ok (eqDs_ok n) h]
  ·simp only[Bool.and_eq_true]at h
   obtain⟨⟨h1,h2⟩,h3⟩:=h
   rw[eq_of_beq h1,Nat.eq_of_beq_eq_true h2,eqLs_ok (eqDs_ok n) h3]
  ·cases h
noncomputable def pickR (rows:List D):Option En:=
 match eqLs (eqDs 5) rows rowsa with
 | true=>some (.ret reta)
 | false=>(match eqLs (eqDs 5) rows rowsb with
  | true=>some (.ret retb)
  | false=>(match eqLs (eqDs 5) rows rowsc with
   | true=>some (.ret retc)
   | false=>(match eqLs (eqDs 5) rows rowsd with
    | true=>some (.ret retd)
    | false=>none)))
noncomputable def ranL (x:V1):Option En:=
 match x.norm with
 | .d (.list ag sz rows)=>evR ag<| evR (Nat.beq sz 9)<| pickR rows
 | _=>none
noncomputable def extY:CallZ:=fun f args pre=>match Nat.beq f 30 with
 | true=>(match args,pre with
  | [x],[]=>ranL x
  | _,_=>none)
 | false=>extZ f args pre
theorem pickR_ok {rows:List D}{e:En}(h:pickR rows=some e):e.ok Tryz.prog inv 30 [.d (.list true 9 rows)] []:=by
 unfold pickR at h
 split at h
 ·rename_i he;cases h;rw[eqLs_ok (eqDs_ok 5) he];exact trip_a
 ·split at h
  ·rename_i he;cases h;rw[eqLs_ok (eqDs_ok 5) he];exact trip_b
  ·split at h
   ·rename_i he;cases h;rw[eqLs_ok (eqDs_ok 5) he];exact trip_c
   ·split at h
    ·rename_i he;cases h;rw[eqLs_ok (eqDs_ok 5) he];exact trip_d
    ·cases h
theorem extY_ok:∀f args pre e,extY f args pre=some e→e.ok Tryz.prog inv f args pre:=by
 intro f args pre e h
 unfold extY at h
 split at h
 ·rename_i hf
  have hf:=Nat.eq_of_beq_eq_true hf
  subst hf
  split at h
  ·rename_i x
   unfold ranL at h
   split at h
   ·rename_i ag sz rows hx
    obtain⟨h1,h⟩:=evR_some h
    obtain⟨h2,h⟩:=evR_some h
    have h2:=Nat.eq_of_beq_eq_true h2
    subst h1
    subst h2
    have:=pickR_ok h
    cases e with
    | ret y=>exact norm1 hx this
    | pan v p n=>
     refine⟨this.1,fun w X g vals k1 k2 k3 k4 k5 k6=>this.2 w X g vals k1 k2 k3 k4 k5 fun j y v hy hv=>?_⟩
     match j with
     | 0=>
      simp at hy
      subst hy
      have:=(k6 0 x v rfl hv).norm
      rw[hx]at this
      exact this
     | j+1=>simp at hy
   ·cases h
  ·cases h
 ·exact extZ_ok _ _ _ _ h
noncomputable def W8:RunZ:={W7 with ext:=extY}
theorem W8_ok:W8.ok Tryz.prog inv tab:=⟨W7_ok.fns,extY_ok,W7_ok.sok⟩
set_option maxRecDepth 1000000 in
theorem run_awake:runZ W8 tab 30 13 [] []=some (.ret ⟨.v (.d (.bool true)),[],[]⟩):=by kernel_rfl
noncomputable def extX:CallZ:=fun f args pre=>match Nat.beq f 13 with
 | true=>(match args,pre with
  | [],[]=>some (.ret ⟨.v (.d (.bool true)),[],[]⟩)
  | _,_=>none)
 | false=>extZ f args pre
theorem extX_ok:∀f args pre e,extX f args pre=some e→e.ok Tryz.prog inv f args pre:=by
 intro f args pre e h
 unfold extX at h
 split at h
 ·rename_i hf
  have hf:=Nat.eq_of_beq_eq_true hf
  subst hf
  split at h
  ·cases h;exact runZ_ok tab_ok tab_one fol W8_ok 30 13 _ _ _ run_awake
  ·cases h
 ·exact extZ_ok _ _ _ _ h
noncomputable def W9:RunZ:={W7 with ext:=extX,nf:=false}
theorem W9_ok:W9.ok Tryz.prog inv tab:=⟨W7_ok.fns,extX_ok,W7_ok.sok⟩
set_option maxRecDepth 1000000 in
theorem run_nil (n:Int):runZ W9 tab 30 3 [.d (.int .i64 n)] []=some (.ret ⟨.v (.d (.bool true)),[],[]⟩):=by kernel_rfl
theorem machine_nil_trip (n:Int):Trip Tryz.prog inv 3 [.d (.int .i64 n)] [] (.v (.d (.bool true))) [] []:=runZ_ok tab_ok tab_one fol W9_ok 30 3 _ _ _ (run_nil n)
end Go.Proofs.YtaomkgkdfafiiaaGreatDoor
end
namespace Go.AM
open Go
def Ev {α:Type}(A:Nat→Option α) (r:α):Prop:=∃N,∀n,N≤n→A n=some r
section
variable {α β γ:Type}
theorem Ev.ret {r:α}:Ev (fun _=>some r) r:=⟨0,fun _ _=>rfl⟩
theorem Ev.of {A:Nat→Option α}{r:α}(h:∀n,A n=some r):Ev A r:=⟨0,fun n _=>h n⟩
theorem Ev.succ {A:Nat→Option α}{r:α}(h:Ev (fun n=>A (n+1)) r):Ev A r:=by
 obtain⟨N,h⟩:=h
 refine⟨N+1,fun n hn=>?_⟩
 obtain⟨m,rfl⟩:∃m,n=m+1:=⟨n - 1,by omega⟩
 exact h m (by omega)
theorem Ev.congr {A B:Nat→Option α}{r:α}(h:Ev A r) (e:∀n,A n=B n):Ev B r:=by
 obtain⟨N,h⟩:=h
 exact⟨N,fun n hn=>(e n)▸h n hn⟩
theorem Ev.run {A:Nat→Option α}{r:α}(h:Ev A r):∃n,A n=some r:=let ⟨N,h⟩:=h;⟨N,h N (Nat.le_refl _)⟩
theorem down {P:Nat→Prop}(N:Nat) (h0:P N) (h:∀i,i<N→P (i+1)→P i):∀i,i≤N→P i:=by
 intro i hi
 obtain⟨d,hd⟩:∃d,d=N - i:=⟨_,rfl⟩
 induction d generalizing i with
 | zero=>
      obtain rfl:i=N:=by omega
      exact h0
 | succ d ih=>exact h i (by omega) (ih (i+1) (by omega) (by omega))
end
section
variable {γ:Type}
end
def RowS (ti:Types) (e:TypeId) (x:D):Prop:=Shape ti e x.cells∧∀y,ti e=some y→x.isAgg=rowD y.desc
def ListS (ti:Types) (e:TypeId) (L:List D):Prop:=L.length≤maxLen∧∀x∈L,RowS ti e x
theorem ListS.get {ti:Types}{e:TypeId}{L:List D}{i:Nat}(h:ListS ti e L) (hi:i<L.length):∃x,L[i]?=some x∧x∈L∧RowS ti e x:=
 ⟨L[i],List.getElem?_eq_getElem hi,List.getElem_mem hi,h.2 _ (List.getElem_mem hi)⟩
def flatFs (ti:Types) (rec:TypeId→Option (List TypeId)):Nat→List Field→Option (List TypeId)
 | _,[]=>some []
 | off,f::r=>match Nat.beq f.offset off with
  | false=>none
  | true=>match ti f.type with
   | none=>none
   | some y=>match rec f.type with
    | none=>none
    | some l=>match Nat.beq l.length y.size with
     | false=>none
     | true=>match flatFs ti rec (off+y.size) r with
      | none=>none
      | some l'=>some (l++l')
def flatT (ti:Types):Nat→TypeId→Option (List TypeId)
 | 0,_=>none
 | n+1,t=>match ti t with
  | none=>none
  | some x=>match x.desc with
   | .struct fs=>match flatFs ti (flatT ti n) 0 fs.toList with
    | none=>none
    | some l=>match Nat.beq l.length x.size with
     | true=>some l
     | false=>none
   | .array ..=>none
   | _=>some [t]
theorem Shape.one {ti:Types}{t:TypeId}{x:TI}{ds:List D}(h:Shape ti t ds) (hx:ti t=some x) (hd:∀fs,x.desc≠ .struct fs):∃c,ds=[c]:=by
 cases h with
 | struct ds h1 h2=>rw[hx]at h1;obtain rfl:=Option.some.inj h1;exact absurd h2 (hd _)
 | _=>exact⟨_,rfl⟩
theorem flatFs_ok {ti:Types}{rec:TypeId→Option (List TypeId)}{ds:List D}
  (hrec:∀t ls cs,rec t=some ls→Shape ti t cs→cs.length=ls.length∧∀(j:Nat) c tl,cs[j]?=some c→ls[j]?=some tl→Shape ti tl [c]):
  ∀(fs:List Field) (off:Nat) (ls:List TypeId),flatFs ti rec off fs=some ls→(∀f∈fs,∀y,ti f.type=some y→Shape ti f.type ((ds.drop f.offset).take y.size))→
   ∀(j:Nat) c tl,ds[off+j]?=some c→ls[j]?=some tl→Shape ti tl [c]
 | [],off,ls,h,_,j,c,tl,_,hl=>by
  cases h;simp at hl
 | f::fs,off,ls,h,hs,j,c,tl,hc,hl=>by
  unfold flatFs at h
  split at h
  ·cases h
  ·rename_i ho
   have ho:=Nat.eq_of_beq_eq_true ho
   split at h
   ·cases h
   ·rename_i y hy
    split at h
    ·cases h
    ·rename_i l hr
     split at h
     ·cases h
     ·rename_i hb
      have hb:=Nat.eq_of_beq_eq_true hb
      split at h
      ·cases h
      ·rename_i l' hl'
       cases h
       obtain⟨h1,h2⟩:=hrec _ _ _ hr (hs f (by simp) y hy)
       by_cases hj:j<l.length
       ·rw[List.getElem?_append_left hj]at hl
        refine h2 j c tl ?_ hl
        rw[List.getElem?_take,if_pos (by omega),List.getElem?_drop,ho]
        exact hc
       ·rw[List.getElem?_append_right (by omega)]at hl
        refine flatFs_ok hrec fs _ l' hl' (fun f' hf'=>hs f' (List.mem_cons_of_mem _ hf')) (j - l.length) c tl ?_ hl
        rw[←hc];congr 1;omega
theorem Shape.flat {ti:Types}:
  ∀(n:Nat) (t:TypeId) (ls:List TypeId) (ds:List D),flatT ti n t=some ls→Shape ti t ds→ds.length=ls.length∧∀(j:Nat) c tl,ds[j]?=some c→ls[j]?=some tl→Shape ti tl [c]
 | 0,t,ls,ds,h,_=>by cases h
 | n+1,t,ls,ds,h,hs=>by
  unfold flatT at h
  split at h
  ·cases h
  ·rename_i x hx
   have single:(∀fs,x.desc≠ .struct fs)→ls=[t]→ds.length=ls.length∧∀(j:Nat) c tl,ds[j]?=some c→ls[j]?=some tl→Shape ti tl [c]:=by
    rintro hd rfl
    obtain⟨c,rfl⟩:=hs.one hx hd
    refine⟨rfl,fun j c' tl h1 h2=>?_⟩
    match j with
    | 0=>simp at h1 h2;subst h1;subst h2;exact hs
    | j+1=>simp at h1
   split at h
   ·rename_i fs hd
    obtain⟨h1,_,h3⟩:=hs.struct_inv hx hd
    split at h
    ·cases h
    ·rename_i l hl
     split at h
     ·rename_i hb
      cases h
      refine⟨h1.trans (Nat.eq_of_beq_eq_true hb).symm,fun j c tl h4 h5=>?_⟩
      exact flatFs_ok (fun t ls cs h6 h7=>Shape.flat n t ls cs h6 h7) fs.toList 0 ls hl h3 j c tl (by simpa using h4) h5
     ·cases h
   ·cases h
   ·rename_i h1 h2
    cases h
    exact single h1 rfl
theorem RowS.agg {ti:Types}{e:TypeId}{x:D}{y:TI}(h:RowS ti e x) (hy:ti e=some y) (hr:rowD y.desc=true):∃cs,x= .agg cs∧Shape ti e cs:=by
 have h1:=(h.2 y hy).trans hr
 cases x<;>simp[D.isAgg]at h1
 exact⟨_,rfl,h.1⟩
theorem RowS.flat1 {ti:Types}{e:TypeId}{x:D}{y:TI}(h:RowS ti e x) (hy:ti e=some y) (hr:rowD y.desc=false):Shape ti e [x]:=by
 have h1:=(h.2 y hy).trans hr
 have h0:=h.1
 cases x<;>simp_all [D.isAgg,D.cells]
theorem Shape.intS {ti:Types}{t:TypeId}{x:TI}{k:IntKind}{c:D}(h:Shape ti t [c]) (hx:ti t=some x) (hd:x.desc= .int k):∃n,c= .int k n∧(Lit.int k n).wf=true:=by
 obtain⟨n,e,hw⟩:=h.int_inv hx hd
 exact⟨n,(List.cons.inj e).1,hw⟩
end Go.AM
set_option linter.unusedVariables false
noncomputable section
namespace Go.Proofs.YtaomkgkdfafiiaaGreatDoor
open Go Go.AM
theorem rs3 {x:D}(h:RowS tab 3 x):∃a0,x= .int .i64 a0∧(Lit.int .i64 a0).wf=true:=by
 have hs:=h.flat1 (y:=tyD tab 3) (by kernel_rfl) rfl
 have hl:=hs.flat 9 3 [3] [x] (by kernel_rfl)
 obtain⟨a0,rfl,w0⟩:=(hl.2 0 x 3 rfl rfl).intS (x:=tyD tab 3) (by kernel_rfl) rfl
 exact⟨_,rfl,w0⟩
end Go.Proofs.YtaomkgkdfafiiaaGreatDoor
end
namespace Go.AM
open Go Go.RowKit Go.ChangeShapes Go.WideShapes
def Shapes (ti:Types):List TypeId→List D→Prop
 | [],[]=>True
 | t::ts,x::xs=>Shape ti t x.cells∧(∀y,ti t=some y→x.isAgg=rowD y.desc)∧Shapes ti ts xs
 | _,_=>False
theorem Shapes.length {ti:Types}:∀{ts:List TypeId}{xs:List D},Shapes ti ts xs→xs.length=ts.length
 | [],[],_=>rfl
 | _::_,_::_,h=>by simp[Shapes.length h.2.2]
 | [],_::_,h=>h.elim
 | _::_,[],h=>h.elim
section
variable {H:Type}{enc:TypeId×Value→H}{P:Program}{ti:Types}{T:List TypeId}{w:World}
theorem conv_arg (hti:TIok P ti) (hT:plainB ti T=true) {Z:Zone}(hZ:∀b o,¬Z b o) {base base':Nat}{spare:Nat→Bool}{held:Bool}{r:Reach}{t:TypeId}{v:Value}{d:DataW H}{ps:List MemPlace}(ht:t∈T)
  (hok:Value.okWide P w r base' t v) (h:DataW.Trod enc P w base spare held t v d ps):∃x:D,Shape ti t x.cells∧(∀y,ti t=some y→x.isAgg=rowD y.desc)∧RelD w Z x v:=by
 obtain⟨fuel,h⟩:=h
 obtain⟨ds,hs,h1,h2,h3⟩:=conv hti hT (Z:=Z) hZ fuel t _ _ _ ht h
 have hp:=List.all_eq_true.1 hT t ht
 split at hp
 ·rename_i y hy
  have hu:=(hti t y hy).1
  have single:rowD y.desc=false→v.cells.toList=[v]→∃x:D,Shape ti t x.cells∧(∀y,ti t=some y→x.isAgg=rowD y.desc)∧RelD w Z x v:=by
   intro hr hv
   rw[hv]at h1 h3
   obtain⟨c,rfl⟩:=List.length_eq_one_iff.1 h1
   have hc:=h2 c (by simp)
   have e:c.cells=[c]:=by cases c<;>first | rfl | simp[D.isAgg]at hc
   refine⟨c,by rw[e];exact hs,fun y' hy'=>?_,h3 0 c v rfl rfl⟩
   rw[hy]at hy'
   obtain rfl:y=y':=by simpa using hy'
   rw[hc,hr]
  split at hp
  ·rename_i hd
   rw[hd]at hu
   obtain⟨b,rfl⟩:=okWide_bool hu hok
   exact single (by rw[hd];rfl) rfl
  ·rename_i k hd
   rw[hd]at hu
   obtain⟨b,rfl⟩:=okWide_int hu hok
   exact single (by rw[hd];rfl) rfl
  ·rename_i hd
   rw[hd]at hu
   obtain⟨b,rfl⟩:=okWide_string hu hok
   exact single (by rw[hd];rfl) rfl
  ·rename_i e hd
   rw[hd]at hu
   obtain⟨a,l,c,rfl⟩:=okWide_slice hu hok
   exact single (by rw[hd];rfl) rfl
  ·rename_i fs hd
   rw[hd]at hu
   obtain⟨cs,rfl,_⟩:=okWide_struct hu hok
   refine⟨.agg ds,hs,fun y' hy'=>?_,.agg ds cs (by simpa [Value.cells] using h1.symm) h2 (fun j c u hc hu'=>h3 j c u hc (by simpa [Value.cells] using hu'))⟩
   rw[hy]at hy'
   obtain rfl:y=y':=by simpa using hy'
   rw[hd];rfl
  ·simp at hp
 ·simp at hp
theorem conv_args (hti:TIok P ti) (hT:plainB ti T=true) {Z:Zone}(hZ:∀b o,¬Z b o) {base base':Nat}{spare:Nat→Bool}{held:Bool}{r:Reach}:
  ∀(ts:List TypeId) (vs:List Value) (ds:List (DataW H)) (ps:List MemPlace),(∀t∈ts,t∈T)→DataW.TrodAll enc P w base spare held ts vs ds ps→
   (∀(j:Nat) t v,ts[j]?=some t→vs[j]?=some v→Value.okWide P w r base' t v)→
   ∃xs,Shapes ti ts xs∧∀(j:Nat) x v,xs[j]?=some x→vs[j]?=some v→RelD w Z x v
 | [],vs,ds,ps,_,h,_=>⟨[],trivial,by simp⟩
 | t::ts,vs,ds,ps,ht,h,hok=>by
  obtain⟨v,vs1,d,ds1,a,b,rfl,rfl,rfl,h1,h2⟩:=trodAll_cons h
  obtain⟨x,k1,k2,k3⟩:=conv_arg hti hT hZ (ht t (by simp)) (hok 0 t v rfl rfl) h1
  obtain⟨xs,k4,k5⟩:=conv_args hti hT hZ ts vs1 ds1 b (fun t ht'=>ht t (by simp[ht'])) h2 (fun j t v h1 h2=>hok (j+1) t v (by simpa using h1) (by simpa using h2))
  refine⟨x::xs,⟨k1,k2,k4⟩,fun j x' v' hx hv=>?_⟩
  match j with
  | 0=>simp at hx hv;subst hx;subst hv;exact k3
  | j+1=>simp at hx hv;exact k5 j x' v' hx hv
theorem again_all (hl:laidOutB P=true) {W W':World}(hb:Below W.heap.size W W'):∀(ts:List TypeId) (vs:List Value) (ds:List (DataW H)) (ps:List MemPlace),
  (∀t∈ts,P.readableRec t=true∧t<P.types.size)→DataW.TrodAll enc P W 0 (fun _=>true) true ts vs ds ps→(∀x∈ps,x.block<W.heap.size)→
  DataW.TrodAll enc P W' 0 (fun b=>decide (b<W.heap.size)) true ts vs ds ps
 | [],vs,ds,ps,_,h,_=>by
  obtain⟨rfl,rfl,rfl⟩:=trodAll_nil h
  exact rfl
 | t::ts,vs,ds,ps,ht,h,hlt=>by
  obtain⟨v,vs1,d,ds1,a,b,rfl,rfl,rfl,h1,h2⟩:=trodAll_cons h
  have ht1:=ht t (by simp)
  exact⟨a,b,Below.trod hl ht1.1 ht1.2 h1 hb (fun x hx=>hlt x (by simp[hx])),again_all hl hb ts vs1 ds1 b (fun t ht'=>ht t (by simp[ht'])) h2 (fun x hx=>hlt x (by simp[hx])),rfl⟩
theorem law_calls {I:Inv}(hti:TIok P ti) (hT:plainB ti T=true) {s:ChangeSpec}{fn:Func}{f:FuncId}{ts:List TypeId}{bt:TypeId}
  (hp:fn.params.toList=ts) (hv:s.vars=[]) (hr:fn.resultTypes=#[bt]) (hb:P.underlying bt=some .bool) (htT:∀t∈ts,t∈T)
  (hs:∀ds:List (DataW H),ds.length=ts.length→(s.fn H ds).results=[.lit (.bool true)]∧(s.fn H ds).args=ds∧(s.fn H ds).vars=[])
  (hl:laidOutB P=true) (hrec:∀t∈ts,P.readableRec t=true∧t<P.types.size)
  (hc:∀xs:List D,Shapes ti ts xs→Trip P I f (xs.map V1.d) [] (.v (.d (.bool true))) [] [])
  {W:World} {base:Nat} {args:Array Value} {ds gs:List (DataW H)} {before:List MemPlace}
  (hI:I.at W fun _ _=>False) (hval:∀(j:Nat) t v,fn.params[j]?=some t→args[j]?=some v→Value.okWide P W .any base t v)
  (hW:DataW.Whole enc P fn.params.toList s.vars false W args.toList ds gs before):
  Calls P f args W fun e W'=>∃v,e= .returned v∧s.post enc P fn false true false false W args v W':=by
 have hW':=hW
 obtain⟨p,q,hA,hV,rfl,_,_⟩:=hW
 rw[hv]at hV
 obtain⟨rfl,rfl⟩:gs=[]∧q=[]:=by
  cases gs with
  | nil=>exact⟨rfl,hV⟩
  | cons _ _=>exact hV.elim
 rw[hp]at hA
 obtain⟨hlen,hdl⟩:=trodAll_length hA
 obtain⟨xs,hsh,hrel⟩:=conv_args hti hT (Z:=fun _ _=>False) (fun _ _ h=>h) (r:=.any) (base':=base) ts args.toList ds p htT hA (fun j t v h1 h2=>hval j t v (by
  rw[←Array.getElem?_toList,hp];exact h1) (by simpa using h2))
 have hxl:=hsh.length
 have hcall:=hc xs hsh
 have hheap:∀i o,heapOf [] i=some o→False:=by
  intro i o h
  cases i<;>simp[heapOf]at h
 have hzone:∀(g:Ghost) b o,¬zone g (heapOf []) b o:=by
  rintro g b o ⟨i,ob,h,_⟩
  exact hheap i ob h
 refine (hcall.calls (w:=W) (X:=fun _ _=>False) (g:=fun _=>undef) (vals:=args) (fun _ _ h=>h.elim) (hI.mono fun b o hz=>hz.elim (hzone _ b o) id) ⟨fun i o h=>(hheap i o h).elim,fun i _ _ _ _ h=>(hheap i _ h).elim,fun i _ _ _ h=>(hheap i _ h).elim⟩ (fun _=>rfl)
  (by simp at hlen;simp;omega) (fun j x v hx hvv=>?_)).mono ?_
 ·simp only[List.getElem?_map,Option.map_eq_some_iff]at hx
  obtain⟨d,hd,rfl⟩:=hx
  exact (hrel j d v hd (by simpa using hvv)).mono (fun b o u hu _=>⟨hu,fun hz=>hz.elim (hzone _ b o) id⟩)
 ·rintro e W' ⟨v,g',rfl,hpost⟩
  obtain rfl:v= .bool true:=by cases (show RelD _ _ (.bool true) v from hpost.res);rfl
  have hbel:Below W.heap.size W W':=⟨hpost.frame.os,hpost.frame.tape,hpost.frame.output,hpost.frame.size,fun k hk=>hpost.frame.block k hk (fun o=>hzone _ k o)⟩
  obtain⟨s1,s2,s3⟩:=hs (ds++[]) (by simp[hdl])
  refine⟨_,rfl,ds,[],p++[],[],p,[],hW',?_,?_,?_,hbel.frame _,fun h=>by cases h⟩
  ·rw[s1,hr]
   exact trodAll_mk1 (shut_bool hb true)
  ·rw[s2,hp,List.append_nil]
   exact again_all hl hbel ts args.toList ds p hrec hA (fun x hx=>hW'.lt x (by simp[hx]))
  ·rw[s3,hv];rfl
end
end Go.AM
namespace Go.Proofs.YtaomkgkdfafiiaaGreatDoor
open Go Go.AM
theorem machine_nil_law:∀xs:List D,Shapes tab [3] xs→Trip Tryz.prog inv 3 (xs.map V1.d) [] (.v (.d (.bool true))) [] []:=by
 intro xs h
 match xs,h with
 | [p],⟨p1,p2,_⟩=>
  obtain⟨n,rfl,_⟩:=rs3 ⟨p1,p2⟩
  exact machine_nil_trip n
end Go.Proofs.YtaomkgkdfafiiaaGreatDoor
namespace Go.Proofs.YtaomkgkdfafiiaaGreatDoor
open Go Go.ChangeShapes Go.WideShapes Go.ChangeAt Go.RowKit Go.AM
theorem machine_nil_reads:∀t∈[3],Tryz.prog.readableRec t=true∧t<Tryz.prog.types.size:=by
 have h:([3].all fun t=>Tryz.prog.readableRec t&&decide (t<Tryz.prog.types.size))=true:=by kernel_rfl
 intro t ht
 have:=List.all_eq_true.1 h t ht
 simpa using this
theorem machine_nil_inv {W:World}(h:laidMet Tryz.prog Rows.machineNilRow.laid W):inv.at W fun _ _=>False:=⟨trivial,fun b hb=>hb.elim⟩
set_option maxRecDepth 100000 in
theorem machine_nil_lifted (os:Os) (started:os.Started) (H:Type) (enc:TypeId×Value→H):
  ReturnsInHanded {} Tryz.checked os 3 .any (fun w args=>(Rows.machineNilSpec.pre enc Tryz.prog Tryz.f3 Rows.machineNilRow.domain false w args∧laidMetH Tryz.prog Rows.machineNilRow.laid w)∧sizedMet enc Tryz.prog Tryz.f3 (OpenSpec.ofChange Rows.machineNilSpec) false w args)
   (Rows.machineNilSpec.post enc Tryz.prog Tryz.f3 false true false false):=by
 refine returnsInHanded_of_change_and (C:=Tryz.checked) (X:=fun w _=>laidMetH Tryz.prog Rows.machineNilRow.laid w) (fun _ _ _ hh h=>h.of_heap hh) (by kernel_rfl) started (by kernel_rfl) Tryz.func3
  (ChangeSpec.witness_shaped (enc:=enc) (C:=Tryz.checked) (os:=os) (X:=fun w _=>laidMetH Tryz.prog Rows.machineNilRow.laid w) false (World.laidAll Tryz.prog os Rows.machineNilRow.laid) #[.int .i64 0] 8 (World.laidAll_os _ _ _)
   (World.shaped_of_ZipB (by kernel_rfl) (by kernel_rfl)) (by kernel_rfl) (by kernel_rfl) (by kernel_rfl)
   (by rw[MakeChecks.laidMetH_plain _ _ _ (by kernel_rfl)];exact laidMet_laidAll _ (by kernel_rfl) (by kernel_rfl))) ?_
 intro W base args ds gs before hval0 hW _ _ hL _
 rw[MakeChecks.laidMetH_plain _ _ _ (by kernel_rfl)]at hL
 refine law_calls (ti:=tab) (T:=[3]) tab_ok (by kernel_rfl) (ts:=[3]) (bt:=4) rfl rfl rfl (by kernel_rfl) (by decide) ?_ (by kernel_rfl) machine_nil_reads machine_nil_law (machine_nil_inv hL) hval0 hW
 intro ds h
 match ds,h with
 | [_],_=>exact⟨rfl,rfl,rfl⟩
theorem machine_nil_row:Rows.MachineNilSaid:=
 OpenClaim.holds_of_wide 3 Tryz.f3 rfl rfl rfl rfl rfl rfl rfl ⟨rfl,rfl,rfl,rfl,rfl⟩ rfl rfl rfl rfl rfl (by kernel_rfl) Tryz.func3 (by kernel_rfl)
  (of_decide_eq_true (by kernel_rfl)) (by unfold Func.isWrapper;first | (rw[if_pos (by decide+kernel)];kernel_rfl) | (rw[if_neg (by decide+kernel)];exact⟨rfl,rfl⟩))
  (fun os started H enc _=>machine_nil_lifted os started H enc)
theorem machine_nil:Rows.MachineNilCardSaid:=
 Claim7.holds_tied_plain_at .later [] [.data,.data,.data] true Rows.machineNilCard.stood.harness true machine_nil_row (fun _ h=>by cases h) (by kernel_rfl) (fun _ h=>by cases h) machineNil_row_tie rfl ⟨rfl,rfl⟩ (by kernel_rfl) rfl
  (fun f fn hf hfn=>by
   obtain rfl:f=3:=Option.some.inj ((show Tryz.prog.funcNamed "weftway/weftwaylaw28.MachineNil" =some 3 by kernel_rfl).symm.trans hf) |>.symm
   obtain rfl:fn=Tryz.f3:=(Option.some.inj (Tryz.func3.symm.trans hfn)).symm
   exact⟨by kernel_rfl,fun j t ht=>by
    have hm:t∈[3]:=by
     have hp:Tryz.f3.params.toList=[3]:=rfl
     rw[←hp];simpa using Array.mem_of_getElem? ht
    have hall:([3].all fun u=>!Tryz.prog.wantsStandIn u)=true:=by kernel_rfl
    exact (show Tryz.prog.wantsStandIn t=false by simpa using List.all_eq_true.1 hall t hm)⟩)
  (by kernel_rfl)
end Go.Proofs.YtaomkgkdfafiiaaGreatDoor
