/- MachineNil. No condition. (Part 6.) -/
import Derived.RecoverIn
import Derived.Carry
import Derived.ChangeSame
import Derived.ChangeOld
import Derived.ChangeCalls
import Derived.WideShapes
import Derived.Test.YtaomkgkdfafiiaaGreatDoorRows
import Derived.Test.YtaomkgkdfafiiaaGreatDoorTie
import Derived.Test.YtaomkgkdfafiiaaGreatDoorCards
import Derived.JoinedOf
import Derived.JoinedAt
import Derived.RowKit
import Derived.RowKit2
import Derived.ReadAgain
import Derived.ChangeAlike
import Derived.Lay
import Derived.Handed
import Derived.LaidSub
import Derived.LaidLaws
import Derived.LaidHandle
import Derived.MakeChecks
import Derived.SevenTiedAt
import Derived.Lib.LaidTab
import Derived.Lib.LaidU8
import Derived.Test.YtaomkgkdfafiiaaGreatDoorNilE
set_option linter.unusedVariables false
set_option linter.unusedSimpArgs false
namespace Go.AM
open Go Go.RowKit
noncomputable def idQ (i j:Id):Bool:=Id.rec (motive:=fun _=>Bool) (fun a=>Id.rec (motive:=fun _=>Bool) (fun b=>Nat.beq a b) (fun _=>false) j) (fun a=>Id.rec (motive:=fun _=>Bool) (fun _=>false) (fun b=>Nat.beq a b) j) i
theorem idQ_eq (i j:Id):idQ i j=Id.beq i j:=by cases i<;>cases j<;>rfl
theorem idQ_iff {i j:Id}:idQ i j=true↔i=j:=by rw[idQ_eq];exact Id.beq_iff
section
variable {γ:Type}{r:γ}
abbrev Nk (γ:Type):=Id→(Id→Option γ)→Option γ
def Nk.bk (f:Nk γ) (r:γ) (g:Id→Id):Prop:=∀i k,f i k=some r→∃i',i=g i'∧k i'=some r
def Nk.fw (f:Nk γ) (r:γ) (g:Id→Id):Prop:=∀i k,f i k=some r→k (g i)=some r
noncomputable def rqL {α:Type}(f:α→(α→Option γ)→Option γ) (l:List α) (k:List α→Option γ):Option γ:=
 List.rec (motive:=fun _=>(List α→Option γ)→Option γ) (fun k=>k []) (fun x _ ih k=>f x fun y=>ih fun ys=>k (y::ys)) l k
theorem rqL_bk {α:Type}{f:α→(α→Option γ)→Option γ}{g:α→α}(hf:∀x k,f x k=some r→∃y,x=g y∧k y=some r):∀(l:List α) (k:List α→Option γ),rqL f l k=some r→∃ys,l=ys.map g∧k ys=some r
 | [],k,h=>⟨[],rfl,h⟩
 | x::l,k,h=>by
  obtain⟨y,rfl,h1⟩:=hf x _ (show f x (fun y=>rqL f l fun ys=>k (y::ys))=some r from h)
  obtain⟨ys,rfl,h2⟩:=rqL_bk hf l _ h1
  exact⟨y::ys,rfl,h2⟩
theorem rqL_fw {α:Type}{f:α→(α→Option γ)→Option γ}{g:α→α}(hf:∀x k,f x k=some r→k (g x)=some r):∀(l:List α) (k:List α→Option γ),rqL f l k=some r→k (l.map g)=some r
 | [],k,h=>h
 | x::l,k,h=>by
  have h:=hf x _ (show f x (fun y=>rqL f l fun ys=>k (y::ys))=some r from h)
  exact rqL_fw hf l (fun ys=>k (g x::ys)) h
def cvT:CV→Bool
 | .un=>true
 | .d _=>true
 | .ptr _ _=>false
 | .row _ _ _=>true
 | .rp _=>true
 | .nilp=>true
 | .fn _ _=>false
 | .nilf=>true
 | .nils _ _=>true
 | .tl _ _ _=>true
 | .lst _ _ _ _=>false
 | .sl _ _=>false
 | .map _=>false
 | .nilm=>true
 | .ap _ _ _ _ _=>false
 | .ow _=>false
 | .op _ _ _ _=>false
 | .yl _=>false
 | .bm _ _=>false
 | .fz _ _=>false
 | .fb _=>false
 | .kv _=>true
theorem cvT_ren {c:CV}(h:cvT c=true) (g:Id→Id):c.ren g=c:=by cases c<;>first | rfl | cases h
def rqF (f:Nk γ) (c:FC) (k:FC→Option γ):Option γ:=match c with
 | .p i=>f i fun i=>k (.p i)
 | .d x=>k (.d x)
 | .h=>k .h
theorem rqF_bk {f:Nk γ}{g:Id→Id}(hf:f.bk r g) (c:FC) (k:FC→Option γ) (h:rqF f c k=some r):∃c',c=FC.ren g c'∧k c'=some r:=by
 cases c with
 | p i=>obtain⟨i',rfl,hh⟩:=hf i _ h;exact⟨.p i',rfl,hh⟩
 | d x=>exact⟨.d x,rfl,h⟩
 | h=>exact⟨.h,rfl,h⟩
theorem rqF_fw {f:Nk γ}{g:Id→Id}(hf:f.fw r g) (c:FC) (k:FC→Option γ) (h:rqF f c k=some r):k (FC.ren g c)=some r:=by
 cases c with
 | p i=>exact hf i _ h
 | d x=>exact h
 | h=>exact h
noncomputable def rqC' (f:Nk γ) (c:CV) (k:CV→Option γ):Option γ:=match c with
 | .ptr i o=>f i fun i=>k (.ptr i o)
 | .fn n cap=>rqL f cap fun cap=>k (.fn n cap)
 | .lst i ag sz rows=>f i fun i=>k (.lst i ag sz rows)
 | .sl i n=>f i fun i=>k (.sl i n)
 | .map i=>f i fun i=>k (.map i)
 | .ap i b sz q o=>f i fun i=>k (.ap i b sz q o)
 | .ow i=>f i fun i=>k (.ow i)
 | .op i sz q o=>f i fun i=>k (.op i sz q o)
 | .yl i=>f i fun i=>k (.yl i)
 | .bm n i=>f i fun i=>k (.bm n i)
 | .fz n cs=>rqL (rqF f) cs fun cs=>k (.fz n cs)
 | .fb i=>f i fun i=>k (.fb i)
 | _=>none
noncomputable def rqC (f:Nk γ) (c:CV) (k:CV→Option γ):Option γ:=Bool.rec (motive:=fun _=>Option γ) (rqC' f c k) (k c) (cvT c)
theorem rqC_bk {f:Nk γ}{g:Id→Id}(hf:f.bk r g) (c:CV) (k:CV→Option γ) (h:rqC f c k=some r):∃c',c=c'.ren g∧k c'=some r:=by
 unfold rqC at h
 cases ht:cvT c with
 | true=>rw[ht]at h;exact⟨c,(cvT_ren ht g).symm,h⟩
 | false=>
  rw[ht]at h
  replace h:rqC' f c k=some r:=h
  cases c with
  | ptr i o=>obtain⟨i',rfl,hh⟩:=hf i _ h;exact⟨.ptr i' o,rfl,hh⟩
  | fn n cap=>obtain⟨l,rfl,hh⟩:=rqL_bk hf cap _ h;exact⟨.fn n l,rfl,hh⟩
  | lst i ag sz rows=>obtain⟨i',rfl,hh⟩:=hf i _ h;exact⟨.lst i' ag sz rows,rfl,hh⟩
  | sl i n=>obtain⟨i',rfl,hh⟩:=hf i _ h;exact⟨.sl i' n,rfl,hh⟩
  | map i=>obtain⟨i',rfl,hh⟩:=hf i _ h;exact⟨.map i',rfl,hh⟩
  | ap i b sz q o=>obtain⟨i',rfl,hh⟩:=hf i _ h;exact⟨.ap i' b sz q o,rfl,hh⟩
  | ow i=>obtain⟨i',rfl,hh⟩:=hf i _ h;exact⟨.ow i',rfl,hh⟩
  | op i sz q o=>obtain⟨i',rfl,hh⟩:=hf i _ h;exact⟨.op i' sz q o,rfl,hh⟩
  | yl i=>obtain⟨i',rfl,hh⟩:=hf i _ h;exact⟨.yl i',rfl,hh⟩
  | bm n i=>obtain⟨i',rfl,hh⟩:=hf i _ h;exact⟨.bm n i',rfl,hh⟩
  | fz n cs=>obtain⟨l,rfl,hh⟩:=rqL_bk (rqF_bk hf) cs _ h;exact⟨.fz n l,rfl,hh⟩
  | fb i=>obtain⟨i',rfl,hh⟩:=hf i _ h;exact⟨.fb i',rfl,hh⟩
  | _=>cases ht
theorem rqC_fw {f:Nk γ}{g:Id→Id}(hf:f.fw r g) (c:CV) (k:CV→Option γ) (h:rqC f c k=some r):k (c.ren g)=some r:=by
 unfold rqC at h
 cases ht:cvT c with
 | true=>rw[ht]at h;rw[cvT_ren ht g];exact h
 | false=>
  rw[ht]at h
  replace h:rqC' f c k=some r:=h
  cases c with
  | ptr i o=>exact hf i _ h
  | fn n cap=>exact rqL_fw hf cap _ h
  | lst i ag sz rows=>exact hf i _ h
  | sl i n=>exact hf i _ h
  | map i=>exact hf i _ h
  | ap i b sz q o=>exact hf i _ h
  | ow i=>exact hf i _ h
  | op i sz q o=>exact hf i _ h
  | yl i=>exact hf i _ h
  | bm n i=>exact hf i _ h
  | fz n cs=>exact rqL_fw (rqF_fw hf) cs _ h
  | fb i=>exact hf i _ h
  | _=>cases ht
noncomputable def rqV (f:Nk γ) (x:V1) (k:V1→Option γ):Option γ:=match x with
 | .d x=>k (.d x)
 | .c x=>rqC f x fun x=>k (.c x)
 | .agg cs=>rqL (rqC f) cs fun cs=>k (.agg cs)
theorem rqV_bk {f:Nk γ}{g:Id→Id}(hf:f.bk r g) (c:V1) (k:V1→Option γ) (h:rqV f c k=some r):∃c',c=c'.ren g∧k c'=some r:=by
 cases c with
 | d x=>exact⟨.d x,rfl,h⟩
 | c x=>obtain⟨y,rfl,hh⟩:=rqC_bk hf x _ h;exact⟨.c y,rfl,hh⟩
 | agg cs=>obtain⟨l,rfl,hh⟩:=rqL_bk (rqC_bk hf) cs _ h;exact⟨.agg l,rfl,hh⟩
theorem rqV_fw {f:Nk γ}{g:Id→Id}(hf:f.fw r g) (c:V1) (k:V1→Option γ) (h:rqV f c k=some r):k (c.ren g)=some r:=by
 cases c with
 | d x=>exact h
 | c x=>exact rqC_fw hf x _ h
 | agg cs=>exact rqL_fw (rqC_fw hf) cs _ h
noncomputable def rqA (f:Nk γ) (x:AV) (k:AV→Option γ):Option γ:=match x with
 | .u=>k .u
 | .v x=>rqV f x fun x=>k (.v x)
 | .t xs=>rqL (rqV f) xs fun xs=>k (.t xs)
 | .df n cs rows=>rqL (rqF f) cs fun cs=>k (.df n cs rows)
theorem rqA_bk {f:Nk γ}{g:Id→Id}(hf:f.bk r g) (c:AV) (k:AV→Option γ) (h:rqA f c k=some r):∃c',c=c'.ren g∧k c'=some r:=by
 cases c with
 | u=>exact⟨.u,rfl,h⟩
 | v x=>obtain⟨y,rfl,hh⟩:=rqV_bk hf x _ (show rqV f x (fun x=>k (.v x))=some r from h);exact⟨.v y,rfl,hh⟩
 | t xs=>obtain⟨l,rfl,hh⟩:=rqL_bk (rqV_bk hf) xs _ h;exact⟨.t l,rfl,hh⟩
 | df n cs rows=>obtain⟨l,rfl,hh⟩:=rqL_bk (rqF_bk hf) cs _ h;exact⟨.df n l rows,rfl,hh⟩
theorem rqA_fw {f:Nk γ}{g:Id→Id}(hf:f.fw r g) (c:AV) (k:AV→Option γ) (h:rqA f c k=some r):k (c.ren g)=some r:=by
 cases c with
 | u=>exact h
 | v x=>exact rqV_fw hf x _ (show rqV f x (fun x=>k (.v x))=some r from h)
 | t xs=>exact rqL_fw (rqV_fw hf) xs _ h
 | df n cs rows=>exact rqL_fw (rqF_fw hf) cs _ h
noncomputable def rqS (f:Nk γ) (x:Nat×AV) (k:Nat×AV→Option γ):Option γ:=rqA f x.2 fun v=>k (x.1,v)
theorem rqS_bk {f:Nk γ}{g:Id→Id}(hf:f.bk r g) (c:Nat×AV) (k:Nat×AV→Option γ) (h:rqS f c k=some r):∃c',c=(c'.1,c'.2.ren g)∧k c'=some r:=by
 obtain⟨v,hv,h⟩:=rqA_bk hf c.2 _ h
 exact⟨(c.1,v),by rw[←hv],h⟩
theorem rqS_fw {f:Nk γ}{g:Id→Id}(hf:f.fw r g) (c:Nat×AV) (k:Nat×AV→Option γ) (h:rqS f c k=some r):k (c.1,c.2.ren g)=some r:=rqA_fw hf c.2 _ h
noncomputable def rqO (f:Nk γ) (x:AObj) (k:AObj→Option γ):Option γ:=match x with
 | .cells cs=>rqL (rqC f) cs fun cs=>k (.cells cs)
 | .tok n sz e=>k (.tok n sz e)
 | .map kt et es=>k (.map kt et es)
 | .arr cs1 ag sz rows cs2=>rqL (rqC f) cs1 fun cs1=>rqL (rqC f) cs2 fun cs2=>k (.arr cs1 ag sz rows cs2)
 | .tree kd ag sz rows foc=>(match foc with
  | none=>k (.tree kd ag sz rows none)
  | some x=>rqL (rqC f) x.2 fun cs=>k (.tree kd ag sz rows (some (x.1,cs))))
 | .pmap n1 sz n rows foc=>(match foc with
  | none=>k (.pmap n1 sz n rows none)
  | some x=>f x.2 fun i=>k (.pmap n1 sz n rows (some (x.1,i))))
 | .part c ag sz rows=>k (.part c ag sz rows)
 | .fnl n cs rows=>rqL (rqF f) cs fun cs=>k (.fnl n cs rows)
 | .gone=>k .gone
 | .rnd rf sl=>rqL (rqS f) sl fun sl=>k (.rnd rf sl)
 | .rndX j=>k (.rndX j)
theorem rqO_bk {f:Nk γ}{g:Id→Id}(hf:f.bk r g) (c:AObj) (k:AObj→Option γ) (h:rqO f c k=some r):∃c',c=c'.ren g∧k c'=some r:=by
 cases c with
 | cells cs=>obtain⟨l,rfl,hh⟩:=rqL_bk (rqC_bk hf) cs _ h;exact⟨.cells l,rfl,hh⟩
 | arr cs1 ag sz rows cs2=>obtain⟨l,rfl,hh⟩:=rqL_bk (rqC_bk hf) cs1 _ h;obtain⟨l2,rfl,hh2⟩:=rqL_bk (rqC_bk hf) cs2 _ hh;exact⟨.arr l ag sz rows l2,rfl,hh2⟩
 | tree kd ag sz rows foc=>
  cases foc with
  | none=>exact⟨.tree kd ag sz rows none,rfl,h⟩
  | some x=>obtain⟨l,hl,h⟩:=rqL_bk (rqC_bk hf) x.2 _ h;exact⟨.tree kd ag sz rows (some (x.1,l)),by simp[AObj.ren,←hl],h⟩
 | pmap n1 sz n rows foc=>
  cases foc with
  | none=>exact⟨.pmap n1 sz n rows none,rfl,h⟩
  | some x=>obtain⟨i,hi,h⟩:=hf x.2 _ h;exact⟨.pmap n1 sz n rows (some (x.1,i)),by simp[AObj.ren,←hi],h⟩
 | fnl n cs rows=>obtain⟨l,rfl,hh⟩:=rqL_bk (rqF_bk hf) cs _ h;exact⟨.fnl n l rows,rfl,hh⟩
 | rnd rf sl=>obtain⟨l,rfl,hh⟩:=rqL_bk (rqS_bk hf) sl _ h;exact⟨.rnd rf l,rfl,hh⟩
 | tok n sz e=>exact⟨.tok n sz e,rfl,h⟩
 | map kt et es=>exact⟨.map kt et es,rfl,h⟩
 | part c ag sz rows=>exact⟨.part c ag sz rows,rfl,h⟩
 | gone=>exact⟨.gone,rfl,h⟩
 | rndX j=>exact⟨.rndX j,rfl,h⟩
theorem rqO_fw {f:Nk γ}{g:Id→Id}(hf:f.fw r g) (c:AObj) (k:AObj→Option γ) (h:rqO f c k=some r):k (c.ren g)=some r:=by
 cases c with
 | cells cs=>exact rqL_fw (rqC_fw hf) cs _ h
 | arr cs1 ag sz rows cs2=>exact rqL_fw (rqC_fw hf) cs2 (fun l=>k (.arr (cs1.map (CV.ren g)) ag sz rows l)) (rqL_fw (rqC_fw hf) cs1 _ h)
 | tree kd ag sz rows foc=>
  cases foc with
  | none=>exact h
  | some x=>exact rqL_fw (rqC_fw hf) x.2 _ h
 | pmap n1 sz n rows foc=>
  cases foc with
  | none=>exact h
  | some x=>exact hf x.2 _ h
 | fnl n cs rows=>exact rqL_fw (rqF_fw hf) cs _ h
 | rnd rf sl=>exact rqL_fw (rqS_fw hf) sl _ h
 | _=>exact h
noncomputable def getK {δ:Type}(h:List (Id×AObj)) (i:Id) (no:δ) (yes:AObj→δ):δ:=
 List.rec (motive:=fun _=>δ) no (fun x _ ih=>Bool.rec (motive:=fun _=>δ) ih (yes x.2) (idQ x.1 i)) h
theorem getK_some {h:List (Id×AObj)}{i:Id}{yes:AObj→Option γ}(e:getK h i none yes=some r):∃o,getH h i=some o∧yes o=some r:=by
 induction h with
 | nil=>cases e
 | cons x h ih=>
  obtain⟨j,o⟩:=x
  replace e:Bool.rec (motive:=fun _=>Option γ) (getK h i none yes) (yes o) (idQ j i)=some r:=e
  cases hq:idQ j i with
  | true=>
   rw[hq]at e
   exact⟨o,by show (match Id.beq j i with | true=>some o | false=>getH h i)=some o;rw[←idQ_eq,hq],e⟩
  | false=>
   rw[hq]at e
   obtain⟨o',h1,h2⟩:=ih e
   exact⟨o',by show (match Id.beq j i with | true=>some o | false=>getH h i)=some o';rw[←idQ_eq,hq];exact h1,h2⟩
noncomputable def rqObjs (h:List (Id×AObj)) (f:Nk γ) (m:List Id) (k:List AObj→Option γ):Option γ:=
 List.rec (motive:=fun _=>(List AObj→Option γ)→Option γ) (fun k=>k []) (fun i _ ih k=>getK h i none fun o=>rqO f o fun o'=>ih fun l=>k (o'::l)) m k
def ObjsIs (h:Heap) (g:Id→Id) (m:List Id) (pre:List AObj):Prop:=m.length=pre.length∧∀(j:Nat) i o,m[j]?=some i→pre[j]?=some o→h i=some (o.ren g)
theorem rqObjs_bk {h:List (Id×AObj)}{f:Nk γ}{g:Id→Id}(hf:f.bk r g):∀(m:List Id) (k:List AObj→Option γ),rqObjs h f m k=some r→∃pre,ObjsIs (getH h) g m pre∧k pre=some r
 | [],k,e=>⟨[],⟨rfl,by simp⟩,e⟩
 | i::m,k,e=>by
  obtain⟨o,h1,e⟩:=getK_some (show getK h i none (fun o=>rqO f o fun o'=>rqObjs h f m fun l=>k (o'::l))=some r from e)
  obtain⟨o',rfl,e2⟩:=rqO_bk hf o _ e
  obtain⟨pre,⟨h2,h3⟩,e3⟩:=rqObjs_bk hf m _ e2
  refine⟨o'::pre,⟨by simp[h2],fun j i' o hj ho=>?_⟩,e3⟩
  cases j with
  | zero=>simp at hj ho;subst hj;subst ho;exact h1
  | succ j=>simp at hj ho;exact h3 j i' o hj ho
theorem ObjsIs.post {h:Heap}{g:Id→Id}:∀{n j:Nat}{pre:List AObj},ObjsIs h g (extsL j n) pre→postOK h g pre j
 | 0,j,pre,hp=>by
  cases pre with
  | nil=>trivial
  | cons o l=>have:=hp.1;simp[extsL]at this
 | n+1,j,pre,hp=>by
  cases pre with
  | nil=>have:=hp.1;simp[extsL]at this
  | cons o l=>
   obtain⟨h1,h2⟩:=hp
   have rest:postOK h g l (j+1):=ObjsIs.post ⟨by simpa [extsL] using h1,fun q i o hq ho=>h2 (q+1) i o (by simpa [extsL] using hq) (by simpa using ho)⟩
   unfold postOK
   split
   ·exact rest
   ·exact⟨h2 0 _ _ rfl rfl,rest⟩
theorem ObjsIs.new {h:Heap}{g:Id→Id}:∀{m:List Id}{pre:List AObj},ObjsIs h g m pre→newOK h g pre m
 | [],[],_=>trivial
 | [],_::_,hp=>by have:=hp.1;simp at this
 | _::_,[],hp=>by have:=hp.1;simp at this
 | i::m,o::pre,hp=>⟨hp.2 0 i o rfl rfl,ObjsIs.new ⟨by simpa using hp.1,fun j i' o' hj ho=>hp.2 (j+1) i' o' (by simpa using hj) (by simpa using ho)⟩⟩
def exts:List Id:=[.ext 0,.ext 1,.ext 2,.ext 3,.ext 4,.ext 5,.ext 6,.ext 7,.ext 8,.ext 9,.ext 10,.ext 11,.ext 12,.ext 13,.ext 14,.ext 15,.ext 16,.ext 17,.ext 18,.ext 19,.ext 20,.ext 21,.ext 22,.ext 23,.ext 24,.ext 25,.ext 26,.ext 27,.ext 28,.ext 29,.ext 30,.ext 31,.ext 32,.ext 33,.ext 34,.ext 35,.ext 36,.ext 37,.ext 38,.ext 39,.ext 40,.ext 41,.ext 42,.ext 43,.ext 44,.ext 45,.ext 46,.ext 47,.ext 48,.ext 49,.ext 50,.ext 51,.ext 52,.ext 53,.ext 54,.ext 55,.ext 56,.ext 57,.ext 58,.ext 59,.ext 60,.ext 61,.ext 62,.ext 63]
def locs:List Id:=[.loc 0,.loc 1,.loc 2,.loc 3,.loc 4,.loc 5,.loc 6,.loc 7,.loc 8,.loc 9,.loc 10,.loc 11,.loc 12,.loc 13,.loc 14,.loc 15,.loc 16,.loc 17,.loc 18,.loc 19,.loc 20,.loc 21,.loc 22,.loc 23,.loc 24,.loc 25,.loc 26,.loc 27,.loc 28,.loc 29,.loc 30,.loc 31,.loc 32,.loc 33,.loc 34,.loc 35,.loc 36,.loc 37,.loc 38,.loc 39,.loc 40,.loc 41,.loc 42,.loc 43,.loc 44,.loc 45,.loc 46,.loc 47,.loc 48,.loc 49,.loc 50,.loc 51,.loc 52,.loc 53,.loc 54,.loc 55,.loc 56,.loc 57,.loc 58,.loc 59,.loc 60,.loc 61,.loc 62,.loc 63]
theorem exts_get {j:Nat}{x:Id}(h:exts[j]?=some x):x= .ext j:=by
 have e:exts=(List.range 64).map Id.ext:=rfl
 rw[e,List.getElem?_map,Option.map_eq_some_iff]at h
 obtain⟨n,hn,rfl⟩:=h
 obtain⟨hlt,hn⟩:=List.getElem?_eq_some_iff.1 hn
 simp at hn
 rw[hn]
theorem locs_get {j:Nat}{x:Id}(h:locs[j]?=some x):x= .loc j:=by
 have e:locs=(List.range 64).map Id.loc:=rfl
 rw[e,List.getElem?_map,Option.map_eq_some_iff]at h
 obtain⟨n,hn,rfl⟩:=h
 obtain⟨hlt,hn⟩:=List.getElem?_eq_some_iff.1 hn
 simp at hn
 rw[hn]
noncomputable def posQ (i:Id) (m e:List Id) (k:Id→Option γ):Option γ:=
 List.rec (motive:=fun _=>List Id→Option γ) (fun _=>none) (fun j _ ih e=>List.rec (motive:=fun _=>Option γ) none (fun e0 er _=>Bool.rec (motive:=fun _=>Option γ) (ih er) (k e0) (idQ j i)) e) m e
theorem posQ_ok {i:Id}{k:Id→Option γ}:∀(m e:List Id),posQ i m e k=some r→∃(j:Nat) (x:Id),m[j]?=some i∧e[j]?=some x∧k x=some r
 | [],_,h=>by cases h
 | _::_,[],h=>by cases h
 | j::m,e0::e,h=>by
  replace h:Bool.rec (motive:=fun _=>Option γ) (posQ i m e k) (k e0) (idQ j i)=some r:=h
  cases hq:idQ j i with
  | true=>rw[hq]at h;exact⟨0,e0,by simp[idQ_iff.1 hq],rfl,h⟩
  | false=>
   rw[hq]at h
   obtain⟨q,x,h1,h2,h3⟩:=posQ_ok m e h
   exact⟨q+1,x,by simpa using h1,by simpa using h2,h3⟩
noncomputable def inQ (m:List Id):Nk γ:=fun i k=>posQ i m exts k
theorem inQ_bk (m:List Id) (fresh:Nat):(inQ m:Nk γ).bk r (renM m fresh):=by
 intro i k h
 obtain⟨j,x,h1,h2,h3⟩:=posQ_ok m exts h
 have:=exts_get h2
 subst this
 exact⟨.ext j,by simp[renM,h1],h3⟩
noncomputable def backQ (m:List Id) (fresh:Nat):Nk γ:=fun i k=>
 Id.rec (motive:=fun _=>Option γ) (fun n=>Bool.rec (motive:=fun _=>Option γ) none (nfN (Nat.add fresh n) fun q=>k (.loc q)) (Nat.blt n 31)) (fun n=>posQ (.ext n) exts m k) i
theorem backQ_fw (m:List Id) (fresh:Nat):(backQ m fresh:Nk γ).fw r (renM m fresh):=by
 intro i k h
 cases i with
 | loc n=>
  replace h:Bool.rec (motive:=fun _=>Option γ) none (nfN (Nat.add fresh n) fun q=>k (.loc q)) (Nat.blt n 31)=some r:=h
  cases hb:Nat.blt n 31 with
  | false=>rw[hb]at h;cases h
  | true=>
   rw[hb]at h
   replace h:nfN (Nat.add fresh n) (fun q=>k (.loc q))=some r:=h
   rw[nfN_eq]at h
   have:n<31:=by simp[Nat.blt]at hb;omega
   show k (renM m fresh (.loc n))=some r
   simp only[renM,if_pos this]
   exact h
 | ext n=>
  replace h:posQ (.ext n) exts m k=some r:=h
  obtain⟨j,x,h1,h2,h3⟩:=posQ_ok exts m h
  have:=exts_get h1
  simp at this
  subst this
  show k (renM m fresh (.ext n))=some r
  simp only[renM,h2]
  exact h3
noncomputable def outQ (nm:List Id):Nk γ:=fun i k=>Id.rec (motive:=fun _=>Option γ) (fun n=>posQ (.loc n) nm locs k) (fun n=>k (.ext n)) i
theorem outQ_bk (nm:List Id) (N:Nat):(outQ nm:Nk γ).bk r (renN nm N):=by
 intro i k h
 cases i with
 | loc n=>
  obtain⟨j,x,h1,h2,h3⟩:=posQ_ok nm locs (show posQ (.loc n) nm locs k=some r from h)
  have:=locs_get h2
  subst this
  exact⟨.loc j,by simp[renN,h1],h3⟩
 | ext n=>exact⟨.ext n,rfl,h⟩
noncomputable def memQ (i:Id) (l:List Id):Bool:=List.rec (motive:=fun _=>Bool) false (fun j _ ih=>Bool.rec (motive:=fun _=>Bool) ih true (idQ j i)) l
noncomputable def pushCs (cs:List CV) (t:List Id):List Id:=List.rec (motive:=fun _=>List Id) t (fun c _ ih=>Bool.rec (motive:=fun _=>List Id) (idsC2 c++ih) ih (cvT c)) cs
noncomputable def pushO (o:AObj) (t:List Id):List Id:=match o with
 | .cells cs=>pushCs cs t
 | .tree _ _ _ _ foc=>(match foc with
  | some x=>pushCs x.2 t
  | none=>t)
 | .fnl _ cs _=>idsFC cs++t
 | .rnd _ sl=>idsS2 sl++t
 | _=>t
noncomputable def reachQ (h:List (Id×AObj)) (n:Nat) (todo acc:List Id):List Id:=
 Nat.rec (motive:=fun _=>List Id→List Id→List Id) (fun _ acc=>acc) (fun _ ih todo acc=>List.rec (motive:=fun _=>List Id) acc (fun i t _=>Bool.rec (motive:=fun _=>List Id) (ih (getK h i t fun o=>pushO o t) (i::acc)) (ih t acc) (memQ i acc)) todo) n todo acc
noncomputable def lst (l:List Id) (k:List Id→Option γ):Option γ:=rqL (fun i k=>nfId i k) l k
theorem lst_eq {l:List Id}{k:List Id→Option γ}(h:lst l k=some r):k l=some r:=by
 have:=rqL_fw (g:=id) (fun x k h=>by rw[nfId_eq]at h;exact h) l k h
 simpa using this
noncomputable def nodupQ (l:List Id):Bool:=List.rec (motive:=fun _=>Bool) true (fun i t ih=>Bool.rec (motive:=fun _=>Bool) ih false (memQ i t)) l
theorem memQ_iff {i:Id}:∀{l:List Id},memQ i l=true↔i∈l
 | []=>by simp[memQ]
 | j::l=>by
  have e:memQ i (j::l)=Bool.rec (motive:=fun _=>Bool) (memQ i l) true (idQ j i):=rfl
  rw[e]
  cases hq:idQ j i with
  | true=>simp[idQ_iff.1 hq]
  | false=>
   have:i≠j:=fun e=>by subst e;rw[idQ_iff.2 rfl]at hq;cases hq
   simp only[List.mem_cons,this,false_or]
   exact memQ_iff
theorem nodupQ_ok:∀{l:List Id},nodupQ l=true→l.Nodup
 | [],_=>by simp
 | i::l,h=>by
  have e:nodupQ (i::l)=Bool.rec (motive:=fun _=>Bool) (nodupQ l) false (memQ i l):=rfl
  rw[e]at h
  cases hm:memQ i l with
  | true=>rw[hm]at h;cases h
  | false=>
   rw[hm]at h
   refine List.nodup_cons.2 ⟨fun hi=>?_,nodupQ_ok h⟩
   rw[memQ_iff.2 hi]at hm
   cases hm
noncomputable def rnW (f:Nk γ) (m:List Id) (post:List AObj) (k:List (Id×AObj)→Option γ):Option γ:=
 List.rec (motive:=fun _=>List Id→(List (Id×AObj)→Option γ)→Option γ) (fun _ k=>k []) (fun o _ ih m k=>List.rec (motive:=fun _=>Option γ) (k []) (fun i is _=>rqO f o fun o'=>ih is fun l=>k ((i,o')::l)) m) post m k
theorem rnW_fw {f:Nk γ}{g:Id→Id}(hf:f.fw r g):∀(post:List AObj) (m:List Id) (k:List (Id×AObj)→Option γ),rnW f m post k=some r→k (wrM m g post)=some r
 | [],m,k,h=>by cases m<;>exact h
 | o::post,[],k,h=>h
 | o::post,i::m,k,h=>by
  have h:=rqO_fw hf o _ (show rqO f o (fun o'=>rnW f m post fun l=>k ((i,o')::l))=some r from h)
  exact rnW_fw hf post m (fun l=>k ((i,o.ren g)::l)) h
noncomputable def setQ (h:List (Id×AObj)) (i:Id) (o:AObj):List (Id×AObj):=
 List.rec (motive:=fun _=>List (Id×AObj)) [(i,o)] (fun x t ih=>Bool.rec (motive:=fun _=>List (Id×AObj)) (x::ih) ((i,o)::t) (idQ x.1 i)) h
theorem setQ_eq:∀(h:List (Id×AObj)) (i:Id) (o:AObj),setQ h i o=setH h i o
 | [],i,o=>rfl
 | (k,v)::h,i,o=>by
  have e:setQ ((k,v)::h) i o=Bool.rec (motive:=fun _=>List (Id×AObj)) ((k,v)::setQ h i o) ((i,o)::h) (idQ k i):=rfl
  rw[e,setQ_eq h i o,idQ_eq]
  show _=(match Id.beq k i with | true=>(i,o)::h | false=>(k,v)::setH h i o)
  cases Id.beq k i<;>rfl
noncomputable def setsQ (h:List (Id×AObj)) (l:List (Id×AObj)):List (Id×AObj):=
 List.rec (motive:=fun _=>List (Id×AObj)→List (Id×AObj)) (fun h=>h) (fun x _ ih h=>ih (setQ h x.1 x.2)) l h
theorem setsQ_eq:∀(l h:List (Id×AObj)),setsQ h l=setW h l
 | [],h=>rfl
 | (i,o)::l,h=>by
  have e:setsQ h ((i,o)::l)=setsQ (setQ h i o) l:=rfl
  rw[e,setsQ_eq l,setQ_eq]
  rfl
noncomputable def heapQ (h l:List (Id×AObj)) (k:List (Id×AObj)→Option γ):Option γ:=
 rqL (fun x k=>k (x.1,x.2)) (setsQ h l) k
theorem heapQ_eq {h l:List (Id×AObj)}{k:List (Id×AObj)→Option γ}(e:heapQ h l k=some r):k (setW h l)=some r:=by
 have:=rqL_fw (g:=id) (fun x k h=>h) (setsQ h l) k e
 rw[setsQ_eq]at this
 simpa using this
def kT:AObj→Nat
 | .cells _=>1
 | .tree ..=>2
 | .arr ..=>3
 | .map ..=>4
 | .pmap ..=>5
 | .rnd ..=>6
 | .rndX _=>7
 | .gone=>8
 | _=>9
noncomputable def kindQ (a b:AObj):Bool:=Bool.rec (motive:=fun _=>Bool) (kindP a b) (Nat.blt (kT a) 8) (Nat.beq (kT a) (kT b))
theorem kindQ_ok {a b:AObj}(h:kindQ a b=true):sameKind a b:=by
 unfold kindQ at h
 cases hb:Nat.beq (kT a) (kT b)with
 | false=>rw[hb]at h;exact kindP_ok h
 | true=>
  rw[hb]at h
  replace h:Nat.blt (kT a) 8=true:=h
  cases a<;>cases b<;>first | trivial | (simp[kT]at hb;done) | (simp[kT,Nat.blt]at h;done)
noncomputable def kindsQ (a b:List AObj):Bool:=
 List.rec (motive:=fun _=>List AObj→Bool) (fun b=>List.rec (motive:=fun _=>Bool) true (fun _ _ _=>false) b) (fun x _ ih b=>List.rec (motive:=fun _=>Bool) false (fun y t _=>Bool.rec (motive:=fun _=>Bool) false (ih t) (kindQ x y)) b) a b
theorem kindsQ_ok:∀{a b:List AObj},kindsQ a b=true→allKinds a b
 | [],[],_=>trivial
 | [],_::_,h=>by cases h
 | _::_,[],h=>by cases h
 | x::a,y::b,h=>by
  have e:kindsQ (x::a) (y::b)=Bool.rec (motive:=fun _=>Bool) false (kindsQ a b) (kindQ x y):=rfl
  rw[e]at h
  cases hq:kindQ x y with
  | false=>rw[hq]at h;cases h
  | true=>rw[hq]at h;exact⟨kindQ_ok hq,kindsQ_ok h⟩
noncomputable def rnNew (f:Nk γ) (fresh:Nat) (q:Nat) (new:List AObj) (k:List (Id×AObj)→Option γ):Option γ:=
 List.rec (motive:=fun _=>Nat→(List (Id×AObj)→Option γ)→Option γ) (fun _ k=>k []) (fun o _ ih q k=>nfN (Nat.add fresh q) fun p=>rqO f o fun o'=>ih (Nat.succ q) fun l=>k ((.loc p,o')::l)) new q k
theorem rnNew_fw {f:Nk γ}{g:Id→Id}(hf:f.fw r g) (fresh:Nat):∀(new:List AObj) (q:Nat) (k:List (Id×AObj)→Option γ),rnNew f fresh q new k=some r→k (wrNew fresh g q new)=some r
 | [],q,k,h=>h
 | o::new,q,k,h=>by
  replace h:nfN (Nat.add fresh q) (fun p=>rqO f o fun o'=>rnNew f fresh (Nat.succ q) new fun l=>k ((.loc p,o')::l))=some r:=h
  rw[nfN_eq]at h
  have h:=rqO_fw hf o _ h
  exact rnNew_fw hf fresh new (q+1) (fun l=>k ((.loc (fresh+q),o.ren g)::l)) h
noncomputable def backK (m:List Id) (fresh:Nat) (post new:List AObj) (h:List (Id×AObj)) (k:List (Id×AObj)→Option γ):Option γ:=
 rnW (backQ m fresh) m post fun w1=>rnNew (backQ m fresh) fresh 0 new fun w2=>heapQ h (w1++w2) k
theorem backK_ok {m:List Id}{fresh:Nat}{post new:List AObj}{h:List (Id×AObj)}{k:List (Id×AObj)→Option γ}(e:backK m fresh post new h k=some r):k (setW h (wrM m (renM m fresh) post++wrNew fresh (renM m fresh) 0 new))=some r:=
 heapQ_eq (rnNew_fw (backQ_fw m fresh) fresh new 0 _ (rnW_fw (backQ_fw m fresh) post m _ e))
noncomputable def evFinQ (ti:Types) (rs:List ResultVar) (np:Nat) (σ:St) (fin:Ret→Option γ):Option γ:=
 match evRes ti σ rs with
 | none=>none
 | some xs=>lst (locsOf (reachQ σ.heap 200 (idsVs2 xs++extsL 0 np) [])) fun nm=>evR (nodupQ nm)<| rqA (outQ nm) (mkRes xs) fun res=>rqObjs σ.heap (outQ nm) (extsL 0 np) fun ps=>rqObjs σ.heap (outQ nm) nm fun ns=>fin ⟨res,ps,ns⟩
theorem evFinQ_ok {ti:Types}{rs:List ResultVar}{np:Nat}{σ:St}{fin:Ret→Option γ}(e:evFinQ ti rs np σ fin=some r):∃res post new,fin ⟨res,post,new⟩=some r∧Fin' ti rs σ res post new:=by
 unfold evFinQ at e
 split at e
 ·cases e
 ·rename_i xs hxs
  have e:=lst_eq e
  generalize reachQ σ.heap 200 (idsVs2 xs++extsL 0 np) []=m at e
  obtain⟨h1,e⟩:=evR_some e
  obtain⟨res,h2,e⟩:=rqA_bk (outQ_bk _ σ.next) _ _ e
  obtain⟨ps,h3,e⟩:=rqObjs_bk (outQ_bk _ σ.next) _ _ e
  obtain⟨ns,h4,e⟩:=rqObjs_bk (outQ_bk _ σ.next) _ _ e
  exact⟨res,ps,ns,e,[],evRes_ok hxs ⟨locsOf m,nodupB_iff.2 (nodupQ_ok h1),h2,h3.post,h4.new,handOK_of _⟩⟩
end
end Go.AM
namespace Go.AM
open Go Go.RowKit
def FinP (h:List (Id×AObj)) (nx:Nat) (post new:List AObj):Prop:=∃nm:List Id,nodupB nm=true∧postOK (getH h) (renN nm nx) post 0∧newOK (getH h) (renN nm nx) new nm∧handOK post nm
theorem TripP.intro {P:Program}{I:Inv}{ti:Types}(dr:Mach→Nat→Draw) (hti:TIok P ti) (h1:TIone ti) (hdr:∀C:Cx,C.P=P→DrawOK C (dr C.M C.nt)) {f:FuncId}{fn:Func}{c:Code}(hf:P.funcs[f]?=some fn) (hb:fn.body=some c)
  (hname:(fn.name== "runtime.NumGoroutine")=false) {args:List V1} {pre post new:List AObj} {v0:Value} (hargs:args.length≤fn.ntmps) (hnt:fn.ntmps≤DT) (hnr:noRange c=true)
  (hx:∀M:Mach,M.P=P→M.I=I→M.cl=true→(∀s h nx,getS s DT= .df 0 [] []→FinP h nx post new→M.pn v0 s h nx)→
   exec M ti fn.ntmps (dr M fn.ntmps) c ⟨(DT,.df 0 [] [])::slotsOf args 0,extsOf pre 0,0⟩ fun _ _=>False):TripP P I f args pre v0 post new:=by
 refine⟨⟨fn,c,hf,hb,hname⟩,fun w X g vals hX hI RH hg hsz hargs'=>?_⟩
 let pn:Value→List (Nat×AV)→List (Id×AObj)→Nat→Prop:=fun v s h nx=>v=v0∧getS s DT= .df 0 [] []∧FinP h nx post new
 let C:Cx:={M:=Mach.of P I true pn,nt:=fn.ntmps,w0:=w,Z0:=zone g (heapOf pre),X:=X,g0:=g,hinv:=hI,ro:=none,D:=[],hro:=fun l hl=>(by cases hl),hD:=fun r hr=>(by cases hr),hDn:=List.nodup_nil,hcl:=fun _=>⟨hnt,rfl⟩}
 have R0:RelSt C ⟨(DT,.df 0 [] [])::slotsOf args 0,extsOf pre 0,0⟩ {tmps:=vals++Array.replicate (fn.ntmps - vals.size) undef,defers:=[]} w:=by
  refine relS_start (P:=P) (by simp[C];omega) ?_ (fun t=>?_) RH rfl rfl (fun _ _ h=>h) hX hg
  ·show DefOK _ _ _ true _ _ _
   rw[getS_cons]
   simp only[if_pos]
   intro f' cs' rows' e
   cases e
   exact⟨rfl,fun k r d hr=>by simp at hr⟩
  ·rw[getS_cons]
   simp only[]
   split
   ·trivial
   rcases slotsOf_get args 0 t with h | ⟨x,_,h2,h3⟩
   ·rw[h];trivial
   ·rw[h3]
    simp only[Nat.sub_zero]at h2
    have hlt:t<vals.size:=by rw[hsz];exact (List.getElem?_eq_some_iff.1 h2).1
    have:(vals++Array.replicate (fn.ntmps - vals.size) undef).getD t undef=vals[t]:=by
     simp[Array.getElem?_append,hlt]
    show RelV1 w _ g _ x ((vals++Array.replicate (fn.ntmps - vals.size) undef).getD t undef)
    rw[this]
    exact hargs' t x _ h2 (by simp[hlt])
 refine callsIn_wide.1 (callsIn_of_wp_marks (n:=0) hf hb trivial (wpIn_mono (exec_sound (M:=Mach.of P I true pn) (ro:=none) hti h1 (fun C hC hn=>by
  have:=hdr C (by show C.M.P=P;rw[hC];rfl)
  rw[hC,hn]at this
  exact this) c _ _ C _ w rfl rfl rfl (fun _=>hnr) (hx (Mach.of P I true pn) rfl rfl rfl fun s h nx k1 k2=>⟨rfl,k1,k2⟩) R0) ?_))
 intro e a' w' hq
 cases e with
 | normal=>obtain⟨C',hle,σ,hf',hr⟩:=hq;exact hf'.elim
 | ret=>obtain⟨C',hle,σ,hf',hr⟩:=hq;exact hf'.elim
 | exit id=>obtain⟨C',hle,σ,hf',hr⟩:=hq;exact hf'.elim
 | goto l=>exact hq.elim
 | outgrown=>exact hq.elim
 | panic ch=>
  obtain⟨C',hle,v,s,h,nx,hpn,rfl,g1,R1⟩:=hq
  rw[hle.M]at hpn
  obtain⟨rfl,hdt,nm,hnd,hpost,hnewo,hhand⟩:=hpn
  have hd:=R1.defers
  rw[hle.M]at hd
  have hd0:a'.defers=[]:=by simpa using (hd 0 [] [] hdt).1
  have R2:RelS C' (fun n=>(⟨s,h,nx⟩:St).next≤n) (getS (⟨s,h,nx⟩:St).slots) (getH (⟨s,h,nx⟩:St).heap) g1 a' w':=R1
  obtain⟨f1,f2,f3,f4⟩:=finish (σ:=⟨s,h,nx⟩) (X:=X) R2 (fun b o hx=>hle.X b o hx) (nodupB_iff.1 hnd) hpost hnewo hhand
  show LeavesInM Fence.wide 0 P fn a'.tmps _ a'.defers (.panicking _) w'
  rw[hd0]
  refine⟨fun i=>g1 (renN nm nx i),rfl,⟨f1,trivial,Frame'.then hle.frame R1.frame (fun b o hz=>hle.Z0 b o hz),fun j=>(hle.ext j).trans (R1.ext j),fun i ob b o hi hb=>?_,f3⟩⟩
  obtain⟨j,ob',hj,hz⟩:=f2 i ob b o hi hb
  rcases R1.within j ob' b o hj hz with hz | hz
  ·exact hle.Z0 b o hz
  ·exact .inr (Nat.le_trans hle.frame.size hz)
end Go.AM
namespace Go.AM
open Go Go.RowKit
section
variable {C:Cx}{ti:Types}
def Sof (listed:Array Bool) (k:Nat):Bool:=listed.getD k false
theorem draw_core (ops:Array Oper) (es:List Ent) (s0:Slots) (h0:Heap) (base:Nat) (Q:Exit→Act→World→Prop)
  (hes:∀(n:Nat) e,es[n]?=some e→ops.toList[n]?=some e.o) (hle:es.length≤ops.size) (hback:backOK ops.toList 0=true)
  (ahead:∀(i j:Nat) ei ej,es[i]?=some ei→es[j]?=some ej→i<j→(slotConf ops ei.o ej.o || idConf (ei.rd,ei.wr.map (·.1)) (ej.rd,ej.wr.map (·.1)))=true→Ahead ops.toList i j)
  (hlex:LexOK C ops base es 0 s0 h0)
  (hfin:es.length=ops.size→∀a w,Rel C (fun n=>base+32*ops.size≤n) (endS es s0) (endH es h0) a w→Q .normal a w)
  (hbeh:∀k,es.length<k→k<ops.size→Ahead ops.toList es.length k)
  (hstop:es.length<ops.size→∀(S:Nat→Bool) (fuel:Nat) (listed:Array Bool) a w,(∀k,Ahead ops.toList k es.length→S k=true)→(∀k,es.length≤k→S k=false)→
   Rel C (fun n=>base≤n∧∀i,S i=true→¬(base+32*i≤n∧n<base+32*i+32)) (setS S es 0 s0) (setHp S es 0 h0) a w→
   wpOpIn (fenceOf C.ro) 0 C.P ops Q es.length (wpAnyIn (fenceOf C.ro) 0 C.P .any ops Q fuel listed) a w):
  ∀(fuel:Nat) (listed:Array Bool) (a:Act) (w:World),listed.size=ops.size→
   ((List.range ops.size).filter (fun k=>!(Sof listed k))).length=fuel→
   (∀i j,Ahead ops.toList i j→Sof listed j=true→Sof listed i=true)→
   (∀k,es.length≤k→Sof listed k=false)→
   Rel C (fun n=>base≤n∧∀i,Sof listed i=true→¬(base+32*i≤n∧n<base+32*i+32)) (setS (Sof listed) es 0 s0) (setHp (Sof listed) es 0 h0) a w→
   wpAnyIn (fenceOf C.ro) 0 C.P .any ops Q fuel listed a w:=by
 intro fuel
 induction fuel with
 | zero=>
  intro listed a w hsz hcnt hcl hno R
  have hall:∀k,k<ops.size→Sof listed k=true:=by
   intro k hk
   have:=List.eq_nil_of_length_eq_zero hcnt
   cases hs:Sof listed k with
   | true=>rfl
   | false=>
    have:k∈(List.range ops.size).filter (fun k=>!Sof listed k):=by simp[hk,hs]
    rw[List.eq_nil_of_length_eq_zero hcnt]at this
    simp at this
  refine⟨?_,?_⟩
  ·cases hr:Region.ready .any ops listed with
   | nil=>rfl
   | cons j l=>
    have hj:j∈Region.ready .any ops listed:=by rw[hr];simp
    obtain⟨h2,o,ho,_⟩:=mem_ready.1 hj
    have hlt:=(Array.getElem?_eq_some_iff.1 ho).1
    have:=hall j hlt
    simp only[Sof]at this
    have hjl:j<listed.size:=by omega
    simp[hjl]at this h2
    rw[this]at h2
    simp at h2
  ·have hlen:es.length=ops.size:=by
    rcases Nat.lt_or_ge es.length ops.size with h | h
    ·have h1:=hall _ h
     have h2:Sof listed es.length=false:=hno _ (Nat.le_refl _)
     rw[h2]at h1
     cases h1
    ·omega
   refine hfin hlen a w ?_
   have R:Rel C (fun n=>base≤n∧∀i,Sof listed i=true→¬(base+32*i≤n∧n<base+32*i+32)) (setS (Sof listed) es 0 s0) (setHp (Sof listed) es 0 h0) a w:=R
   have z1:setS (Sof listed) es 0 s0=endS es s0:=setS_all es 0 s0 (fun k hk=>by rw[Nat.zero_add];exact hall k (by omega))
   have z2:setHp (Sof listed) es 0 h0=endH es h0:=setHp_all es 0 h0 (fun k hk=>by rw[Nat.zero_add];exact hall k (by omega))
   rw[z1,z2]at R
   refine R.free_mono (fun n hn=>?_)
   refine⟨by omega,fun i hi=>?_⟩
   have:i<ops.size:=by
    simp only[Sof]at hi
    have hil:i<listed.size:=by
     rcases Nat.lt_or_ge i listed.size with h | h
     ·exact h
     ·simp[Array.getElem?_eq_none h]at hi
    omega
   omega
 | succ fuel ih=>
  intro listed a w hsz hcnt hcl hno R
  have hstep:∀i,i∈Region.ready .any ops listed→wpOpIn (fenceOf C.ro) 0 C.P ops Q i (wpAnyIn (fenceOf C.ro) 0 C.P .any ops Q fuel (listed.setIfInBounds i true)) a w:=by
   intro i hi
   obtain⟨hi0,o,ho,hedges⟩:=mem_ready.1 hi
   have hlt:i<ops.size:=(Array.getElem?_eq_some_iff.1 ho).1
   have hil:i<listed.size:=by omega
   have hS0:Sof listed i=false:=by
    simp[hil]at hi0
    simp[Sof,hil,hi0]
   have hS1:Sof (listed.setIfInBounds i true) i=true:=by simp[Sof,hil]
   have hSo:∀k,k≠i→Sof (listed.setIfInBounds i true) k=Sof listed k:=by
    intro k hk
    simp[Sof,Array.getElem?_setIfInBounds_ne (Ne.symm hk)]
   have hcl:∀i j,Ahead ops.toList i j→Sof listed j=true→Sof listed i=true:=hcl
   have hno:∀k,es.length≤k→Sof listed k=false:=hno
   have gen0:∀x y,Ahead ops.toList x y→y=i→Sof listed x=true:=by
    intro x y hxy
    induction hxy with
    | edge hj hee hb hei=>
     intro hy
     subst hy
     rw[←hei]
     have h2:=ho
     rw[←Array.getElem?_toList,hj]at h2
     cases h2
     exact hedges _ (by simpa using hee) hb
    | trans p q ihp ihq=>
     intro hy
     exact hcl _ _ p (ihq hy)
   rcases Nat.lt_trichotomy i es.length with hlte | heq | hgt
   rotate_left
   ·subst heq
    exact hstop hlt (Sof listed) fuel _ a w (fun k hk=>gen0 k _ hk rfl) hno R
   ·have h1:=gen0 _ _ (hbeh i hgt hlt) rfl
    rw[hno _ (Nat.le_refl _)]at h1
    cases h1
   have R:Rel C (fun n=>base≤n∧∀i,Sof listed i=true→¬(base+32*i≤n∧n<base+32*i+32)) (setS (Sof listed) es 0 s0) (setHp (Sof listed) es 0 h0) a w:=R
   obtain⟨en,hen⟩:∃en,es[i]?=some en:=⟨es[i],by simp[hlte]⟩
   have hEnt:=lexAt es 0 i s0 h0 en hlex hen
   rw[Nat.zero_add]at hEnt
   obtain⟨ho',hd,hg,hrun,hskip⟩:=hEnt
   rw[ho]at ho'
   obtain rfl:o=en.o:=by simpa using ho'
   -- who writes what i reads or writes
   have order:∀k e,es[k]?=some e→k≠i→(k<i→(slotConf ops e.o en.o || idConf (e.rd,e.wr.map (·.1)) (en.rd,en.wr.map (·.1)))=true)→
     (i<k→(slotConf ops en.o e.o || idConf (en.rd,en.wr.map (·.1)) (e.rd,e.wr.map (·.1)))=true)→Sof listed k=decide (k<i):=by
    intro k e he hne c1 c2
    by_cases hki:k<i
    ·have ah:=ahead k i e en he hen hki (c1 hki)
     have:Sof listed k=true:=by
      have gen:∀x y,Ahead ops.toList x y→y=i→Sof listed x=true:=by
       intro x y hxy
       induction hxy with
       | edge hj hee hb hei=>
        intro hy
        subst hy
        rw[←hei]
        have:=hes _ en hen
        rw[hj]at this
        simp at this
        subst this
        exact hedges _ (by simpa using hee) hb
       | trans p q ihp ihq=>
        intro hy
        exact hcl _ _ p (ihq hy)
      exact gen k i ah rfl
     simp[this,hki]
    ·have hik:i<k:=by omega
     have ah:=ahead i k en e hen he hik (c2 hik)
     have:Sof listed k=false:=by
      cases hs:Sof listed k with
      | false=>rfl
      | true=>have:=hcl i k ah hs;rw[hS0]at this;simp at this
     simp[this,hki]
   have slotAgree:∀t,t∈readsT ops en.o→setS (Sof listed) es 0 s0 t=setS (fun k=>decide (k<i)) es 0 s0 t:=by
    intro t ht
    refine setS_agree es 0 s0 s0 rfl (fun k e he hdst=>?_)
    rw[Nat.zero_add]
    by_cases hki:k=i
    ·subst hki;simp[hS0]
    ·refine order k e he hki (fun _=>?_) (fun _=>?_)
     ·simp[slotConf,meet_iff (x:=t) (a:=e.o.dst.toList) (b:=readsT ops en.o) (by simp[hdst]) ht]
     ·simp[slotConf,meet_iff (x:=t) (a:=readsT ops en.o) (b:=e.o.dst.toList) ht (by simp[hdst])]
   have idAgree:∀x,x∈en.rd→setHp (Sof listed) es 0 h0 x=setHp (fun k=>decide (k<i)) es 0 h0 x:=by
    intro x hx
    refine setHp_agree es 0 h0 h0 rfl (fun k e he hw=>?_)
    rw[Nat.zero_add]
    by_cases hki:k=i
    ·subst hki;simp[hS0]
    ·refine order k e he hki (fun _=>?_) (fun _=>?_)
     ·simp[idConf,meetI_iff (x:=x) (a:=e.wr.map (·.1)) (b:=en.rd) hw hx]
     ·simp[idConf,meetI_iff (x:=x) (a:=en.rd) (b:=e.wr.map (·.1)) hx hw]
   have cl':∀x y,Ahead ops.toList x y→Sof (listed.setIfInBounds i true) y=true→Sof (listed.setIfInBounds i true) x=true:=by
    intro x y hxy hy
    by_cases hx:x=i
    ·rw[hx];exact hS1
    ·rw[hSo x hx]
     by_cases hyi:y=i
     ·subst hyi
      have gen:∀x y',Ahead ops.toList x y'→y'=y→Sof listed x=true:=by
       intro x y' hxy
       induction hxy with
       | edge hj hee hb hei=>
        intro hy
        subst hy
        rw[←hei]
        have:=hes _ en hen
        rw[hj]at this
        simp at this
        subst this
        exact hedges _ (by simpa using hee) hb
       | trans p q ihp ihq=>
        intro hy
        exact hcl _ _ p (ihq hy)
      exact gen x y hxy rfl
     ·rw[hSo y hyi]at hy
      exact hcl x y hxy hy
   have cnt':((List.range ops.size).filter (fun k=>!Sof (listed.setIfInBounds i true) k)).length=fuel:=by
    have:=filter_one (p:=fun k=>!Sof listed k) (p':=fun k=>!Sof (listed.setIfInBounds i true) k) (i:=i) (l:=List.range ops.size) List.nodup_range (by simp[hlt]) (by simp[hS0]) (by simp[hS1])
     (fun k hk=>by simp[hSo k hk])
    omega
   have addS:setS (Sof (listed.setIfInBounds i true)) es 0 s0=updS (setS (Sof listed) es 0 s0) en.o.dst en.val:=by
    funext t
    refine setS_add es 0 s0 hen (by simpa using hS0) (by simpa using hS1) (fun k hk=>hSo k (by omega)) (fun hdst k e he hdst' hik=>?_)
    rw[Nat.zero_add]
    have:=order k e he (by omega) (fun h=>absurd h (by omega)) (fun _=>by simp[slotConf,meet_iff (x:=t) (a:=en.o.dst.toList) (b:=e.o.dst.toList) (by simp[hdst]) (by simp[hdst'])])
    rw[this]
    simp;omega
   have addH:setHp (Sof (listed.setIfInBounds i true)) es 0 h0=updW (setHp (Sof listed) es 0 h0) en.wr:=by
    funext x
    refine setHp_add es 0 h0 hen (by simpa using hS0) (by simpa using hS1) (fun k hk=>hSo k (by omega)) (fun hw k e he hw' hik=>?_)
    rw[Nat.zero_add]
    have:=order k e he (by omega) (fun h=>absurd h (by omega)) (fun _=>by simp[idConf,meetI_iff (x:=x) (a:=en.wr.map (·.1)) (b:=e.wr.map (·.1)) hw hw'])
    rw[this]
    simp;omega
   have next:∀a' w',Rel C (fun n=>(base≤n∧∀i,Sof listed i=true→¬(base+32*i≤n∧n<base+32*i+32))∧¬(base+32*i≤n∧n<base+32*i+32))
     (updS (setS (Sof listed) es 0 s0) en.o.dst en.val) (updW (setHp (Sof listed) es 0 h0) en.wr) a' w'→wpAnyIn (fenceOf C.ro) 0 C.P .any ops Q fuel (listed.setIfInBounds i true) a' w':=by
    intro a' w' R'
    refine ih _ a' w' (by simp[hsz]) cnt' cl' (fun k hk=>(hSo k (by omega)).trans (hno k hk)) ?_
    show Rel C _ (setS (Sof (listed.setIfInBounds i true)) es 0 s0) (setHp (Sof (listed.setIfInBounds i true)) es 0 h0) a' w'
    rw[addS,addH]
    refine R'.free_mono (fun n hn=>⟨⟨hn.1,fun j hj=>?_⟩,hn.2 i hS1⟩)
    by_cases hji:j=i
    ·subst hji;exact hn.2 j hS1
    ·exact hn.2 j (by rw[hSo j hji];exact hj)
   have hw:Region.wanted en.o (yielded ops a.tmps)=en.run:=by
    unfold guardIs at hg
    split at hg
    ·rename_i hgn
     simp[Region.wanted,hgn,hg]
    ·rename_i j want hgs
     obtain⟨d,hdj,hsd⟩:=hg
     have hmem:d∈readsT ops en.o:=by simp[readsT,hgs,hdj]
     rw[←slotAgree d hmem]at hsd
     rcases hsd with hsd | ⟨hrf,hsd⟩
     rotate_left
     ·have hy:yielded ops a.tmps j=none:=by
       obtain⟨g,R⟩:=R
       have:=R.slots d
       rw[hsd]at this
       obtain⟨vs,hv,_⟩:=this
       exact yields_none' hdj ⟨vs,hv⟩
      simp[Region.wanted,hgs,hy,hrf]
     have hy:yielded ops a.tmps j=some (if en.run then want else !want):=by
      obtain⟨g,R⟩:=R
      have:=R.slots d
      rw[hsd]at this
      have hv:=relB this
      unfold yielded
      rw[hdj]
      have:a.tmps[d]?=some (.bool (if en.run then want else !want)):=by
       rw[Array.getD_eq_getD_getElem?]at hv
       cases h:a.tmps[d]? with
       | none=>rw[h]at hv;simp[undef]at hv
       | some v=>rw[h]at hv;simpa using hv
      simp[this]
     simp only[Region.wanted,hgs,hy]
     cases en.run<;>cases want<;>rfl
   unfold wpOpIn
   rw[ho]
   simp only[]
   cases hr:en.run with
   | true=>
    rw[if_pos (by rw[hw,hr])]
    refine wp_fence (hrun hr).1 (Oper.wp_mono next ?_)
    refine (hrun hr).2 _ _ _ a w Q R (fun t ht=>slotAgree t (by simp[readsT,tmpsOf_mem ht])) idAgree (fun k hk=>⟨by omega,fun j hj=>?_⟩) hd
    by_cases hji:j=i
    ·subst hji;rw[hS0]at hj;simp at hj
    ·omega
   | false=>
    rw[if_neg (by rw[hw,hr];simp)]
    obtain⟨z1,z2,z3⟩:=hskip hr
    refine⟨fun f _=>fenceOf_fn _ f,next _ w ?_⟩
    rw[z1,z2]
    obtain⟨g,R⟩:=R
    refine⟨g,(R.put hd (v:=.t []) ⟨#[],rfl,rfl,by simp⟩).free_mono (fun n hn=>hn.1)⟩
  refine⟨fun hnil=>?_,hstep⟩
  -- not all are listed: the least of those is ready
  exfalso
  have hex:∃k,k<ops.size∧Sof listed k=false:=by
   have:(List.range ops.size).filter (fun k=>!Sof listed k)≠[]:=by intro e;rw[e]at hcnt;simp at hcnt
   obtain⟨k,hk⟩:=List.exists_mem_of_ne_nil _ this
   simp at hk
   exact⟨k,hk.1,hk.2⟩
  obtain⟨k,⟨hk1,hk2⟩,hmin⟩:=least hex
  have:k∈Region.ready .any ops listed:=by
   refine mem_ready.2 ⟨?_,ops[k],by simp[hk1],fun e he hb=>?_⟩
   ·have hkl:k<listed.size:=by omega
    simp only[Sof]at hk2
    simp[hkl]at hk2 ⊢
    exact hk2
   ·have hlt:e.on<0+k:=backOK_get ops.toList 0 k ops[k] e hback (by simp[hk1]) (by simpa using he) hb
    cases hs:Sof listed e.on with
    | true=>exact hs
    | false=>have:=hmin e.on ⟨by omega,hs⟩;omega
  rw[hnil]at this
  simp at this
def calleeZ:AV→Option (FuncId×List V1×List V1)
 | .v (.c (.fn n cap))=>some (n,[],cap.map fun i=>V1.c (.ptr i 0))
 | .v (.c (.bm n i))=>some (n,[V1.c (.ptr i 0)],[])
 | _=>none
theorem panCall_sound {F:Nat→Prop}{σs:Slots}{σh:Heap}{g:Ghost}{a:Act}{w:World}(R:RelS C F σs σh g a w) {o:Oper}{c:Call}{f:Operand}(ho:o.op= .call c) (hc:c.callee= .value f) {s:Slots}
  (hs:∀t,Operand.tmp t∈o.op.operands.toList→σs t=s t) {n:FuncId} {as' bs xs:List V1} (h1:calleeZ (opd ti s 0 f)=some (n,as',bs)) (h2:valsB (opsArgs ti s c.args.toList c.argTypes.toList) xs)
  {fresh:Nat} {m:List Id} {targs:List V1} {pre:List AObj} {v0:Value} {post new:List AObj} (ht:TripP C.P C.M.I n targs pre v0 post new) (ha:as'++(xs++bs)=targs.map (V1.ren (renM m fresh))) (hlen:m.length=pre.length) (hnd:m.Nodup)
  (hpre:∀(j:Nat) i o,m[j]?=some i→pre[j]?=some o→σh i=some (o.ren (renM m fresh))) (hkd:allKinds pre post) (hnew:new.length≤31) (hF:∀k,k<32→F (fresh+k)) {Q:Exit→Act→World→Prop}
  (hP:∀g2 a w',RelS C (fun k=>F k∧¬(fresh≤k∧k<fresh+32)) σs (updW σh (wrM m (renM m fresh) post++wrNew fresh (renM m fresh) 0 new)) g2 a w'→Q (.panic [{v:=v0,recovered:=false}]) a w') (next:Act→World→Prop):
  Oper.wpIn (fenceOf C.ro) 0 C.P o a w next Q:=by
 have hnd':∀c,o.op≠ .defer c:=fun c' h=>by rw[ho]at h;cases h
 have core:∀vals:Array Value,vals.size=(as'++(xs++bs)).length→(∀(j:Nat) x v,(as'++(xs++bs))[j]?=some x→vals[j]?=some v→RelV1 w (zor (zone g σh) C.X) g σh x v)→
   Calls C.P n vals w fun
    | .returned _,_=>False
    | .panicked chain,w''=>Q (.panic chain) a w''
    | .outgrown,_=>LetsOut Q:=by
  intro vals hsz hargs
  rw[ha]at hsz hargs
  have core:=call_core (C:=C) (Qp:=fun r p q=>r= .u∧p=post∧q=new) (Run:=fun p=>Calls C.P n vals w fun e w'=>∃v,e= .panicked [{v:=v0,recovered:=false}]∧p (.returned v) w') (vals:=vals) (dst:=none) (Q:=fun _ _ _=>False) (a:=a) (fresh:=fresh) R
   (fun hpq hp=>hp.mono fun e w' ⟨v,h1,h2⟩=>⟨v,h1,hpq _ _ h2⟩)
   (fun X g1 _ k1 k2 k3 k4 k6=>(ht.2 w X g1 vals k1 k2 k3 k4 (by rw[hsz];simp) k6).mono (by rintro e w' ⟨g',h1,h2⟩;exact⟨undef,h1,undef,g',.u,post,new,⟨rfl,rfl,rfl⟩,rfl,h2⟩))
   hlen hnd hpre (by rintro _ _ _ ⟨rfl,rfl,rfl⟩;exact⟨hkd,hnew⟩) hF (fun d hd=>by cases hd) hargs
  refine core.mono ?_
  rintro e w' ⟨v,rfl,he⟩
  obtain⟨res,p,q,⟨rfl,rfl,rfl⟩,g2,_,R2⟩:=he
  exact hP g2 _ _ R2
 have hf:=opd_rel ti 0 f R (s:=s) (fun k hk=>hs k (by subst hk;simp[ho,hc,Op.operands,Call.operands]))
 obtain⟨h3,h4⟩:=opsArgs_relB (ti:=ti) R c.args.toList c.argTypes.toList xs (fun t ht=>hs t (by simp[ho,hc,Op.operands,Call.operands];right;simpa using ht)) h2
 obtain⟨fn,body,hfn,hb,hname⟩:=ht.1
 have hn':¬fn.name= "runtime.NumGoroutine" :=by simpa using hname
 refine⟨fun f _=>fenceOf_fn _ f,?_⟩
 rw[Oper.semAt_eq _ _ _ hnd']
 unfold calleeZ at h1
 split at h1
 ·rename_i n' cap hop
  cases h1
  rw[hop]at hf
  obtain⟨hfv,hcap⟩:=hf
  have hrun:(execOp a.eval o).run C.P w= .ok (.enter n (c.args.map a.eval++(cap.map (fun i=>ptrAt (g i) 0)).toArray)) w:=by
   simp[execOp,ho,resolve,hc,hfv,Deferred.ofValue,invoke,callFunc,hfn,hb,hn']
  rw[hrun,Oper.uponIn_enter]
  refine⟨fenceOf_depth _,callsIn_fence ((core _ (by simp[h3]) fun j x v hx hv=>?_).mono ?_)⟩
  ·simp only[List.nil_append]at hx
   simp only[Array.getElem?_append,Array.size_map,List.getElem?_toArray]at hv
   by_cases hj:j<c.args.size
   ·rw[if_pos hj]at hv
    rw[List.getElem?_append_left (by rw[h3];simpa using hj)]at hx
    simp only[Array.getElem?_map,Option.map_eq_some_iff]at hv
    obtain⟨p,hp,rfl⟩:=hv
    exact h4 j x p hx (by simpa using hp)
   ·rw[if_neg hj]at hv
    rw[List.getElem?_append_right (by rw[h3];simpa using hj),h3]at hx
    simp only[List.getElem?_map,Option.map_eq_some_iff,Array.length_toList]at hx hv
    obtain⟨i,hi,rfl⟩:=hx
    obtain⟨i',hi',rfl⟩:=hv
    rw[hi]at hi'
    obtain rfl:i=i':=by simpa using hi'
    obtain⟨b,hb'⟩:=hcap i (List.mem_of_getElem? hi)
    exact⟨⟨b,hb'⟩,rfl⟩
  ·intro e w' he
   cases e with
   | returned v=>exact he.elim
   | panicked ch=>exact he
   | outgrown=>exact he
 ·rename_i n' i0 hop
  cases h1
  rw[hop]at hf
  obtain⟨⟨b0,hb0⟩,hfv⟩:=hf
  have hrun:(execOp a.eval o).run C.P w= .ok (.enter n (#[ptrAt (g i0) 0]++c.args.map a.eval)) w:=by
   simp[execOp,ho,resolve,hc,hfv,Deferred.ofValue,invoke,callFunc,hfn,hb,hn']
  rw[hrun,Oper.uponIn_enter]
  refine⟨fenceOf_depth _,callsIn_fence ((core _ (by simp[h3];omega) fun j x v hx hv=>?_).mono ?_)⟩
  ·cases j with
   | zero=>
    rw[Array.getElem?_append_left (by simp)]at hv
    simp at hx hv
    subst hx
    subst hv
    exact⟨⟨b0,hb0⟩,rfl⟩
   | succ j=>
    simp only[List.cons_append,List.nil_append,List.append_nil,List.getElem?_cons_succ]at hx
    simp only[Array.getElem?_append,Array.size_map]at hv
    rw[if_neg (by simp)]at hv
    simp only[Array.getElem?_map,Option.map_eq_some_iff]at hv
    obtain⟨p,hp,rfl⟩:=hv
    exact h4 j x p hx (by simpa using hp)
  ·intro e w' he
   cases e with
   | returned v=>exact he.elim
   | panicked ch=>exact he
   | outgrown=>exact he
 ·cases h1
theorem drawOps_pre (hti:TIok C.P ti) (h1:TIone ti) {ops:Array Oper}{base:Nat}{K:St→List Fp→Prop}:∀(l:List Oper) (i:Nat) (σ:St) (fps:List Fp),
  (∀(k:Nat) o,l[k]?=some o→ops[i+k]?=some o)→drawOps C.M ti C.nt ops base l i σ fps K→
  ∃(es:List Ent) (σ':St),es.map (·.o)=l∧LexOK C ops base es i (getS σ.slots) (getH σ.heap)∧getS σ'.slots=endS es (getS σ.slots)∧getH σ'.heap=endH es (getH σ.heap)∧
   σ'.next=base+32*(i+l.length)∧K σ' (fps++es.map fun e=>(e.rd,e.wr.map (·.1)))
 | [],i,σ,fps,_,hk=>⟨[],⟨σ.slots,σ.heap,base+32*i⟩,rfl,trivial,rfl,rfl,by simp,by simpa using (show K ⟨σ.slots,σ.heap,base+32*i⟩ fps from hk)⟩
 | o::r,i,σ,fps,hl,hk=>by
  have hi:ops[i]?=some o:=by simpa using hl 0 o rfl
  have hr:∀(k:Nat) o,r[k]?=some o→ops[i+1+k]?=some o:=fun k o' h=>by
   have:=hl (k+1) o' (by simpa using h)
   rwa [show i+(k+1)=i+1+k from by omega]at this
  have run:∀(g:guardIs ops ⟨o,true,.u,[],[]⟩ (getS σ.slots)),(storeOK o<| dstOK C.nt o.dst<| opOut C.M ti o (base+32*i) (getS σ.slots) (getH σ.heap) fun out=>
    drawOps C.M ti C.nt ops base r (i+1) ⟨putS σ.slots o.dst out.val,setW σ.heap out.wr,σ.next⟩ (fps++[(out.rd,out.wr.map (·.1))]) K)→
    ∃(es:List Ent) (σ':St),es.map (·.o)=o::r∧LexOK C ops base es i (getS σ.slots) (getH σ.heap)∧getS σ'.slots=endS es (getS σ.slots)∧getH σ'.heap=endH es (getH σ.heap)∧
     σ'.next=base+32*(i+(o::r).length)∧K σ' (fps++es.map fun e=>(e.rd,e.wr.map (·.1))):=by
   intro g hk
   obtain⟨hst,hnd,hk⟩:=storeOK_iff hk
   obtain⟨hd,hk⟩:=dstOK_iff.1 hk
   obtain⟨out,hk,hok⟩:=opOut_sound hti h1 hst.1 hst.2 hk
   obtain⟨es,σ',e1,e2,e3,e4,e5,e6⟩:=drawOps_pre hti h1 r (i+1) _ _ hr hk
   rw[getS_putS]at e2 e3
   rw[getH_setW]at e2 e4
   refine⟨⟨o,true,out.val,out.rd,out.wr⟩::es,σ',by simp[e1],⟨hi,hd,g,fun _=>⟨hnd,hok⟩,fun e=>by simp at e,e2⟩,e3,e4,by rw[e5];simp;omega,?_⟩
   simpa using e6
  have skip:∀(g:guardIs ops ⟨o,false,.t [],[],[]⟩ (getS σ.slots)),(dstOK C.nt o.dst (drawOps C.M ti C.nt ops base r (i+1) ⟨putS σ.slots o.dst (.t []),σ.heap,σ.next⟩ (fps++[([],[])]) K))→
    ∃(es:List Ent) (σ':St),es.map (·.o)=o::r∧LexOK C ops base es i (getS σ.slots) (getH σ.heap)∧getS σ'.slots=endS es (getS σ.slots)∧getH σ'.heap=endH es (getH σ.heap)∧
     σ'.next=base+32*(i+(o::r).length)∧K σ' (fps++es.map fun e=>(e.rd,e.wr.map (·.1))):=by
   intro g hk
   obtain⟨hd,hk⟩:=dstOK_iff.1 hk
   obtain⟨es,σ',e1,e2,e3,e4,e5,e6⟩:=drawOps_pre hti h1 r (i+1) _ _ hr hk
   rw[getS_putS]at e2 e3
   refine⟨⟨o,false,.t [],[],[]⟩::es,σ',by simp[e1],⟨hi,hd,g,fun e=>by simp at e,fun _=>⟨rfl,rfl,rfl⟩,e2⟩,e3,e4,by rw[e5];simp;omega,?_⟩
   simpa using e6
  have hk':guarded ops o σ _ _:=hk
  unfold guarded at hk'
  split at hk'
  ·rename_i hg
   exact run (by simp[guardIs,hg]) hk'
  ·rename_i j want hg
   split at hk'
   ·exact hk'.elim
   ·rename_i d hd
    split at hk'
    ·rename_i c hc
     cases want<;>cases c
     ·exact run (by simp only[guardIs,hg];exact⟨d,hd,.inl hc⟩) hk'
     ·exact skip (by simp only[guardIs,hg];exact⟨d,hd,.inl hc⟩) hk'
     ·exact skip (by simp only[guardIs,hg];exact⟨d,hd,.inl hc⟩) hk'
     ·exact run (by simp only[guardIs,hg];exact⟨d,hd,.inl hc⟩) hk'
    ·rename_i hc
     exact skip (by simp only[guardIs,hg];exact⟨d,hd,.inr ⟨trivial,hc⟩⟩) hk'
    ·exact hk'.elim
def panB (ops:Array Oper) (i:Nat) (fps:List Fp) (m:List Id):Bool:=
 Nat.beq fps.length i&&(Nat.blt i ops.size&&(backOK ops.toList 0&&(pairsOK ops (masks ops.toList []) (number ops.toList (fps++[(m,[])]) 0)&&
  ((List.range i).all (fun k=>match fps[k]? with
   | some fp=>(match fp.2 with
    | []=>true
    | _=>((masks ops.toList []).getD i 0).testBit k)
   | none=>false)&&(List.range ops.size).all fun k=>!(Nat.blt i k) || ((masks ops.toList []).getD k 0).testBit i))))
def isDfA:AV→Bool
 | .df _ _ _=>true
 | _=>false
def keepT (ops:Array Oper) (l:List (Nat×AV)):List (Nat×AV):=
 l.filter fun x=>notB (anyB (fun o=>match o.dst with
  | some d=>Nat.beq d x.1
  | none=>false) ops.toList)
def isDst (ops:Array Oper) (t:Nat):Bool:=anyB (fun o=>match o.dst with
  | some d=>Nat.beq d t
  | none=>false) ops.toList
theorem anyB_true {α:Type}{p:α→Bool}:∀{l:List α},anyB p l=true↔∃x∈l,p x=true
 | []=>by simp[anyB]
 | x::l=>by
  unfold anyB
  cases hx:p x with
  | true=>simp[hx]
  | false=>simp[hx,anyB_true (l:=l)]
theorem keepT_get (ops:Array Oper):∀(l:List (Nat×AV)) (t:Nat),getS (keepT ops l) t=match isDst ops t with
  | true=>.u
  | false=>getS l t
 | [],t=>by cases h:isDst ops t<;>rfl
 | (k,v)::l,t=>by
  have ih:=keepT_get ops l t
  have e:keepT ops ((k,v)::l)=if notB (isDst ops k)then (k,v)::keepT ops l else keepT ops l:=by
   unfold keepT
   rw[List.filter_cons]
   rfl
  rw[e]
  by_cases hk:t=k
  ·subst hk
   cases h:isDst ops t with
   | true=>
    rw[h]at ih
    simpa [notB] using ih
   | false=>simp[notB,getS_cons,updS]
  ·cases h:isDst ops k with
   | true=>
    simp only[notB,Bool.false_eq_true,if_false,ih]
    cases isDst ops t with
    | true=>rfl
    | false=>simp only[getS_cons,updS,Option.some.injEq];rw[if_neg];exact hk
   | false=>
    simp only[notB,if_true]
    rw[getS_cons]
    simp only[updS,Option.some.injEq]
    rw[if_neg hk,ih]
    cases isDst ops t with
    | true=>rfl
    | false=>simp only[getS_cons,updS,Option.some.injEq];rw[if_neg];exact hk
def panDraw (M:Mach) (ti:Types) (nt:Nat) (ops:Array Oper) (σ:St):Prop:=
 ∃(i:Nat) (o:Oper) (c:Call) (f:Operand),ops[i]?=some o∧o.guard=none∧o.op= .call c∧c.callee= .value f∧isDfA (getS σ.slots DT)=true∧
  drawOps M ti nt ops σ.next (ops.toList.take i) 0 σ [] fun σ' fps=>
   ∃(n:FuncId) (as' bs xs:List V1) (m:List Id) (targs:List V1) (pre:List AObj) (v0:Value) (post new:List AObj),
    (M.lock fun _=>panB ops i fps m=true)∧calleeZ (opd ti (getS σ'.slots) 0 f)=some (n,as',bs)∧valsB (opsArgs ti (getS σ'.slots) c.args.toList c.argTypes.toList) xs∧
    TripP M.P M.I n targs pre v0 post new∧as'++(xs++bs)=targs.map (V1.ren (renM m (σ.next+32*i)))∧m.length=pre.length∧m.Nodup∧
    (∀(j:Nat) i' o,m[j]?=some i'→pre[j]?=some o→getH σ'.heap i'=some (o.ren (renM m (σ.next+32*i))))∧allKinds pre post∧new.length≤31∧
    M.pn v0 (keepT ops σ.slots) (setW σ'.heap (wrM m (renM m (σ.next+32*i)) post++wrNew (σ.next+32*i) (renM m (σ.next+32*i)) 0 new)) (σ.next+32*ops.size)
theorem draw_pan (hti:TIok C.P ti) (h1:TIone ti) (ops:Array Oper) (σ:St) (Q:Exit→Act→World→Prop) (a:Act) (w:World)
  (hP:∀v0 s h nx a w,C.M.pn v0 s h nx→Rel C (fun n=>nx≤n) (getS s) (getH h) a w→Q (.panic [{v:=v0,recovered:=false}]) a w) (hk:panDraw C.M ti C.nt ops σ) (R:RelSt C σ a w):
  wpAnyIn (fenceOf C.ro) 0 C.P .any ops Q ops.size (Array.replicate ops.size false) a {w with drawn:=w.drawn+1}:=by
 obtain⟨i,o,c,f,hi,hgd,ho,hc,hdf,hk⟩:=hk
 have hlt:i<ops.size:=(Array.getElem?_eq_some_iff.1 hi).1
 obtain⟨es,σ',e1,hlex,e3,e4,e5,n,as',bs,xs,m,targs,pre,v0,post,new,hlock,k1,k2,k3,k4,k5,k6,k7,k8,k9,k10⟩:=drawOps_pre hti h1 (ops.toList.take i) 0 σ [] (fun k o' h=>by
  rw[List.getElem?_take]at h
  split at h
  ·simpa using h
  ·cases h) hk
 have hB:=(C.M.lock_iff _).1 hlock
 simp only[List.nil_append]at hB
 simp only[panB,Bool.and_eq_true,Nat.beq_eq]at hB
 obtain⟨hlen,_,hback,hpairs,hw,hbeh⟩:=hB
 have hlen:es.length=i:=by simpa using hlen
 have hes:∀(n:Nat) e,es[n]?=some e→ops.toList[n]?=some e.o:=by
  intro n e he
  have h2:(ops.toList.take i)[n]?=some e.o:=by rw[←e1];simp[he]
  rw[List.getElem?_take]at h2
  split at h2
  ·exact h2
  ·cases h2
 have fget:∀(k:Nat) e,es[k]?=some e→((es.map fun e=>(e.rd,e.wr.map (·.1)))++[(m,[])])[k]?=some (e.rd,e.wr.map (·.1)):=by
  intro k e he
  have hk:k<es.length:=(List.getElem?_eq_some_iff.1 he).1
  rw[List.getElem?_append_left (by simpa using hk)]
  simp[he]
 have bit:∀x y,((masks ops.toList []).getD y 0).testBit x=true→Ahead ops.toList x y:=fun x y h=>masks_bit ops.toList [] rfl (by simp[List.getD]) y x h
 have pair:∀(x y:Nat) ox oy fx fy,ops.toList[x]?=some ox→ops.toList[y]?=some oy→((es.map fun e=>(e.rd,e.wr.map (·.1)))++[(m,[])])[x]?=some fx→((es.map fun e=>(e.rd,e.wr.map (·.1)))++[(m,[])])[y]?=some fy→x<y→
   (slotConf ops ox oy || idConf fx fy)=true→Ahead ops.toList x y:=by
  intro x y ox oy fx fy h1 h2 h3 h4 hxy hcf
  have m1:=number_get ops.toList _ 0 x ox fx h1 h3
  have m2:=number_get ops.toList _ 0 y oy fy h2 h4
  simp only[pairsOK,List.all_eq_true]at hpairs
  have:=hpairs _ m1 _ m2
  simp only[Nat.zero_add]at this
  have hb:Nat.blt x y=true:=by simpa using hxy
  rw[hb,hcf]at this
  simp only[Bool.not_true,Bool.false_or]at this
  exact bit _ _ this
 have hoL:ops.toList[i]?=some o:=by simpa using hi
 have flast:((es.map fun e=>(e.rd,e.wr.map (·.1)))++[(m,[])])[i]?=some (m,[]):=by
  rw[List.getElem?_append_right (by simp[hlen])]
  simp[hlen]
 have hz:∀k,Sof (Array.replicate ops.size false) k=false:=by intro k;simp only[Sof,Array.getD_eq_getD_getElem?,Array.getElem?_replicate];split<;>rfl
 refine draw_core ops es (getS σ.slots) (getH σ.heap) σ.next Q hes (by omega) hback (fun x y ex ey hx hy hxy hcf=>pair x y _ _ _ _ (hes x ex hx) (hes y ey hy) (fget x ex hx) (fget y ey hy) hxy hcf) hlex
  (fun h=>by omega) (fun k hk1 hk2=>?_) (fun _ S fuel listed a w hah hno R=>?_) ops.size (Array.replicate ops.size false) a _ (by simp) ?_ (fun i j _ hj=>by rw[hz]at hj;cases hj) (fun k _=>hz k) ?_
 ·rw[hlen]at hk1 ⊢
  simp only[List.all_eq_true]at hbeh
  have:=hbeh k (by simpa using hk2)
  have hb:Nat.blt i k=true:=by simpa using hk1
  rw[hb]at this
  simp only[Bool.not_true,Bool.false_or]at this
  exact bit _ _ this
 ·rw[hlen]at hah hno ⊢
  have hlti:∀k e,es[k]?=some e→k<i:=fun k e he=>by rw[←hlen];exact (List.getElem?_eq_some_iff.1 he).1
  have hH:setHp S es 0 (getH σ.heap)=getH σ'.heap:=by
   rw[e4]
   funext x
   rw[←setHp_all (S:=fun _=>true) es 0 (getH σ.heap) (fun _ _=>rfl)]
   refine setHp_agree es 0 _ _ rfl (fun k e he hx=>?_)
   rw[Nat.zero_add]
   refine hah k ?_
   simp only[List.all_eq_true]at hw
   have:=hw k (by simpa using hlti k e he)
   rw[show (es.map fun e=>(e.rd,e.wr.map (·.1)))[k]?=some (e.rd,e.wr.map (·.1))by simp[he]]at this
   simp only[]at this
   split at this
   ·rename_i h0;rw[h0]at hx;simp at hx
   ·exact bit _ _ this
  have hs:∀t,Operand.tmp t∈o.op.operands.toList→setS S es 0 (getS σ.slots) t=getS σ'.slots t:=by
   intro t ht
   rw[e3]
   rw[←setS_all (S:=fun _=>true) es 0 (getS σ.slots) (fun _ _=>rfl)]
   refine setS_agree es 0 _ _ rfl (fun k e he hd=>?_)
   rw[Nat.zero_add]
   have ht':t∈readsT ops o:=by simp[readsT,tmpsOf_mem ht]
   exact hah k (pair k i _ _ _ _ (hes k e he) hoL (fget k e he) flast (hlti k e he) (by simp[slotConf,meet_iff (x:=t) (a:=e.o.dst.toList) (b:=readsT ops o) (by simp[hd]) ht']))
  have hDT:C.M.cl=true→setS S es 0 (getS σ.slots) DT=getS σ.slots DT:=by
   intro hcl
   have z:=congrFun (setS_none (S:=fun _=>false) es 0 (getS σ.slots) (fun _ _=>rfl)) DT
   rw[←z]
   refine setS_agree es 0 _ _ rfl (fun k e he hd=>?_)
   have h3:=(lexAt es 0 k _ _ e hlex he).2.1 DT hd
   have h4:=(C.hcl hcl).1
   exact absurd h3 (Nat.not_lt.2 h4)
  have hSi:∀j,S j=true→j<i:=fun j hj=>by
   rcases Nat.lt_or_ge j i with h | h
   ·exact h
   ·rw[hno j h]at hj;cases hj
  unfold wpOpIn
  rw[hi]
  simp only[]
  rw[if_pos (by simp[Region.wanted,hgd])]
  obtain⟨g,R⟩:=R
  rw[hH]at R
  refine panCall_sound R ho hc hs k1 k2 k3 k4 k5 k6 k7 k8 k9 (fun k hk=>⟨by omega,fun j hj=>by have:=hSi j hj;omega⟩) (fun g2 a' w' R2=>hP v0 _ _ _ a' w' k10 ⟨g2,?_⟩) _
  rw[getH_setW]
  have R3:=R2.free_mono (F':=fun n=>σ.next+32*ops.size≤n) (fun n hn=>⟨⟨by omega,fun j hj=>by have:=hSi j hj;omega⟩,by omega⟩)
  have hkeep:∀t,isDst ops t=false→setS S es 0 (getS σ.slots) t=getS σ.slots t:=by
   intro t ht
   have z:=congrFun (setS_none (S:=fun _=>false) es 0 (getS σ.slots) (fun _ _=>rfl)) t
   rw[←z]
   refine setS_agree es 0 _ _ rfl (fun k e he hd=>?_)
   have hm:=List.mem_of_getElem? (hes k e he)
   have:isDst ops t=true:=anyB_true.2 ⟨_,hm,by rw[hd];simp⟩
   rw[this]at ht
   cases ht
  refine {R3 with size:=R3.size,defers:=?_,slots:=fun t=>?_}
  ·have hd:=R3.defers
   rw[keepT_get]
   cases hcl:C.M.cl with
   | false=>rw[hcl]at hd;exact hd
   | true=>
    rw[hcl,hDT hcl]at hd
    cases isDst ops DT with
    | true=>exact fun f cs rows e=>by cases e
    | false=>exact hd
  ·rw[keepT_get]
   cases ht:isDst ops t with
   | true=>trivial
   | false=>rw[←hkeep t ht];exact R3.slots t
 ·have:(List.range ops.size).filter (fun k=>!Sof (Array.replicate ops.size false) k)=List.range ops.size:=by
   refine List.filter_eq_self.2 fun k hk=>?_
   rw[hz];rfl
  rw[this];simp
 ·rw[setS_none es 0 _ (fun k _=>hz k),setHp_none es 0 _ (fun k _=>hz k)]
  obtain⟨g,R⟩:=R
  exact⟨g,R.drew.free_mono (fun n hn=>hn.1)⟩
end
def execDrawP (ti:Types) (M:Mach) (nt:Nat) (ops:Array Oper) (σ:St) (K:St→Prop):Prop:=execDraw ti M nt ops σ K∨panDraw M ti nt ops σ
theorem drawP_P {P:Program}{ti:Types}(hti:TIok P ti) (h1:TIone ti) (hm:P.follows .mixedOrders=true):∀C:Cx,C.P=P→DrawOK C (execDrawP ti C.M C.nt):=fun C hC=>by
 have hti':TIok C.P ti:=by rw[hC];exact hti
 have hm':C.P.follows .mixedOrders=true:=by rw[hC];exact hm
 intro id ops σ K Q a w hQ hP hk R
 rcases hk with hk | hk
 ·exact wpIn_region_any hm' (draw_any hti' h1 ops σ K Q a w hQ hk R)
 ·exact wpIn_region_any hm' (draw_pan hti' h1 ops σ Q a w hP hk R)
end Go.AM
namespace Go.AM
open Go Go.RowKit
inductive En where
 | ret (r:Ret)
 | pan (v:Value) (post new:List AObj)
abbrev CallZ:=FuncId→List V1→List AObj→Option En
def En.ok (P:Program) (I:Inv) (f:FuncId) (args:List V1) (pre:List AObj):En→Prop
 | .ret r=>Trip P I f args pre r.res r.post r.new
 | .pan v post new=>TripP P I f args pre v post new
section
variable {γ:Type}{r:γ}
abbrev RoundZ:=RF→List (Nat×AV)→List V1→List AObj→Option (Jump×List AObj×List AObj)
def RoundZ.ok (P:Program) (I:Inv) (Y:RoundZ):Prop:=∀r sl args pre j post new,Y r sl args pre=some (j,post,new)→RoundK P I r sl args pre fun j' p n=>j'=j∧p=post∧n=new
structure EnvZ (γ:Type) extends EnvO γ where
 fn:CallZ
 ab:Value→List (Nat×AV)→List (Id×AObj)→Nat→Option γ
 df:Bool
 yl:RoundZ
 kp:List Nat
 nf:Bool
structure EnvZ.ok (M:Mach) (ti:Types) (E:EnvZ γ) (r:γ):Prop where
 env:E.toEnvO.ok M.P M.I ti
 fn:∀f args pre e,E.fn f args pre=some e→e.ok M.P M.I f args pre
 ab:∀v s h nx,E.ab v s h nx=some r→M.pn v s h nx
 df:E.df=true→M.cl=true
 yl:E.yl.ok M.P M.I
abbrev KtZ (γ:Type):=AExit→St→Option γ
noncomputable def evCallM (E:EnvZ γ) (n:FuncId) (args:List V1) (m:List Id) (dst:Option Tmp) (fresh:Nat) (σ:St) (K:St→Option γ):Option γ:=
 nfN fresh fun fresh=>lst m fun m=>evR (nodupQ m)<| rqL (rqV (inQ m)) args fun as'=>rqObjs σ.heap (inQ m) m fun os'=>
   (match E.fn n as' os' with
    | some (.ret x)=>evR (kindsQ os' x.post)<| evR (Nat.ble x.new.length 31)<| rqA (backQ m fresh) x.res fun v=>backK m fresh x.post x.new σ.heap fun h=>K ⟨putS σ.slots dst v,h,σ.next⟩
    | some (.pan v post new)=>evR (kindsQ os' post)<| evR (Nat.ble new.length 31)<| backK m fresh post new σ.heap fun h=>E.ab v σ.slots h (fresh+32)
    | none=>none)
theorem evCallM_ok {M:Mach}{ti:Types}{E:EnvZ γ}(hE:E.ok M ti r) {n:FuncId}{args:List V1}{m:List Id}{dst:Option Tmp}{fresh:Nat}{σ:St}{K:St→Option γ}(e:evCallM E n args m dst fresh σ K=some r):
    ∃(targs:List V1) (pre:List AObj),args=targs.map (V1.ren (renM m fresh))∧m.length=pre.length∧m.Nodup∧(∀(j:Nat) i o,m[j]?=some i→pre[j]?=some o→getH σ.heap i=some (o.ren (renM m fresh)))∧
      ((∃x:Ret,Trip M.P M.I n targs pre x.res x.post x.new∧allKinds pre x.post∧x.new.length≤31∧K ⟨putS σ.slots dst (x.res.ren (renM m fresh)),setW σ.heap (wrM m (renM m fresh) x.post++wrNew fresh (renM m fresh) 0 x.new),σ.next⟩=some r)∨
       (∃v post new,TripP M.P M.I n targs pre v post new∧allKinds pre post∧new.length≤31∧M.pn v σ.slots (setW σ.heap (wrM m (renM m fresh) post++wrNew fresh (renM m fresh) 0 new)) (fresh+32))):=by
  unfold evCallM at e
  rw[nfN_eq]at e
  have e:=lst_eq e
  obtain⟨h3,e⟩:=evR_some e
  obtain⟨targs,hargs,e⟩:=rqL_bk (rqV_bk (inQ_bk m fresh)) _ _ e
  obtain⟨pre,⟨g1,g2⟩,e⟩:=rqObjs_bk (inQ_bk m fresh) _ _ e
  refine⟨targs,pre,hargs,g1,nodupQ_ok h3,g2,?_⟩
  split at e
  · rename_i x hx
    obtain⟨h4,e⟩:=evR_some e
    obtain⟨h5,e⟩:=evR_some e
    exact .inl ⟨x,hE.fn _ _ _ _ hx,kindsQ_ok h4,Nat.le_of_ble_eq_true h5,backK_ok (rqA_fw (backQ_fw m fresh) _ _ e)⟩
  · rename_i v post new hx
    obtain⟨h4,e⟩:=evR_some e
    obtain⟨h5,e⟩:=evR_some e
    exact .inr ⟨v,post,new,hE.fn _ _ _ _ hx,kindsQ_ok h4,Nat.le_of_ble_eq_true h5,hE.ab _ _ _ _ (backK_ok e)⟩
  · cases e
noncomputable def evYlM (E:EnvZ γ) (i:Id) (rf:Unit→RF) (sl:List (Nat×AV)) (xs:List V1) (m:List Id) (dst:Option Tmp) (fresh:Nat) (σ:St) (K:St→Option γ):Option γ:=
 nfN fresh fun fresh=>lst (m++[i]) fun mi=>lst m fun m=>evR (nodupQ mi)<| rqL (rqV (inQ mi)) xs fun as'=>rqObjs σ.heap (inQ mi) m fun os'=>rqL (rqS (inQ mi)) sl fun sl'=>
   (match E.yl (rf ()) sl' as' os' with
    | some (j,post,new)=>evR (kindsQ os' post)<| evR (Nat.ble new.length 31)<|
      K ⟨putS σ.slots dst (.v (.d (.bool j.isNone))),setW σ.heap (wrM (m++[i]) (renM (m++[i]) fresh) (post++[putRec j rf sl'])++wrNew fresh (renM (m++[i]) fresh) 0 new),fresh⟩
    | none=>none)
theorem evYlM_ok {M:Mach}{ti:Types}{E:EnvZ γ}(hE:E.ok M ti r) {i:Id}{rf:Unit→RF}{sl:List (Nat×AV)}{xs:List V1}{m:List Id}{dst:Option Tmp}{fresh:Nat}{σ:St}{K:St→Option γ}{P:St→Prop}(hK:∀σ,K σ=some r→P σ)
  (e:evYlM E i rf sl xs m dst fresh σ K=some r):callYl M dst fresh ⟨σ.slots,σ.heap,fresh⟩ i rf sl xs P:=by
 unfold evYlM at e
 rw[nfN_eq]at e
 have e:=lst_eq e
 have e:=lst_eq e
 obtain⟨h3,e⟩:=evR_some e
 obtain⟨targs,hargs,e⟩:=rqL_bk (rqV_bk (inQ_bk (m++[i]) fresh)) _ _ e
 obtain⟨pre,⟨g1,g2⟩,e⟩:=rqObjs_bk (inQ_bk (m++[i]) fresh) _ _ e
 obtain⟨sl',hsl,e⟩:=rqL_bk (g:=fun x=>(x.1,x.2.ren (renM (m++[i]) fresh))) (rqS_bk (inQ_bk (m++[i]) fresh)) _ _ e
 split at e
 ·rename_i j post new hy
  obtain⟨h4,e⟩:=evR_some e
  obtain⟨h5,e⟩:=evR_some e
  refine⟨m,targs,pre,sl',_,hE.yl _ _ _ _ _ _ _ hy,hargs,hsl,g1,nodupQ_ok h3,g2,?_⟩
  rintro j' post' new' ⟨rfl,rfl,rfl⟩
  exact⟨⟨kindsQ_ok h4,Nat.le_of_ble_eq_true h5⟩,hK _ e⟩
 ·cases e
def dropI (i:Id):List Id→List Id
 | []=>[]
 | j::l=>(match Id.beq j i with
  | true=>dropI i l
  | false=>j::dropI i l)
noncomputable def evYl (E:EnvZ γ) (i:Id) (xs:List V1) (dst:Option Tmp) (fresh:Nat) (σ:St) (K:St→Option γ):Option γ:=
 match getH σ.heap i with
 | some (.rnd rf sl)=>evYlM E i rf sl xs (dropI i (reachQ σ.heap 200 (idsVs2 xs++idsS2 sl) [])) dst fresh σ K
 | _=>none
def ylOf:AV→Option Id
 | .v (.c (.yl i))=>some i
 | _=>none
theorem ylOf_some {x:AV}{i:Id}(h:ylOf x=some i):x= .v (.c (.yl i)):=by
 unfold ylOf at h
 split at h
 ·cases h;rfl
 ·cases h
noncomputable def evCallZ (E:EnvZ γ) (ti:Types) (o:Oper) (c:Call) (f:Operand) (fresh:Nat) (σ:St) (K:St→Option γ):Option γ:=
 match calleeZ (opd ti (getS σ.slots) 0 f)with
 | none=>(match ylOf (opd ti (getS σ.slots) 0 f)with
  | none=>none
  | some i=>(match vals1 (opsArgs ti (getS σ.slots) c.args.toList c.argTypes.toList)with
   | none=>none
   | some xs=>evYl E i xs o.dst fresh σ K))
 | some (n,as',bs)=>(match vals0 (opsArgs ti (getS σ.slots) c.args.toList c.argTypes.toList)with
  | none=>none
  | some xs=>evCallM E n (as'++(xs++bs)) (reachQ σ.heap 200 (idsVs2 (as'++(xs++bs))) []) o.dst fresh σ K)
theorem evCallZ_ok {M:Mach}{ti:Types}{E:EnvZ γ}(hE:E.ok M ti r) {o:Oper}{c:Call}{f:Operand}(ho:o.op= .call c) (hf:c.callee= .value f) {fresh:Nat}{σ:St}{K:St→Option γ}{P:St→Prop}(hK:∀σ,K σ=some r→P σ)
  (e:evCallZ E ti o c f fresh σ K=some r):(opOut M ti o fresh (getS σ.slots) (getH σ.heap) fun out=>P ⟨putS σ.slots o.dst out.val,setW σ.heap out.wr,σ.next⟩)∨(callK M ti o fresh σ P∨panK M ti o fresh σ):=by
 unfold evCallZ at e
 split at e
 ·split at e
  ·cases e
  ·rename_i i hi
   split at e
   ·cases e
   ·rename_i xs hxs
    unfold evYl at e
    split at e
    ·rename_i rf sl hr
     right;left
     unfold callK
     rw[ho]
     simp only[]
     rw[hf]
     simp only[]
     refine⟨⟨σ.slots,σ.heap,fresh⟩,Weak.refl _,rfl,?_⟩
     simp only[ylOf_some hi]
     unfold withArgs
     rw[hxs]
     simp only[hr]
     exact evYlM_ok hE hK e
    ·cases e
 ·rename_i n as' bs h1
  split at e
  ·cases e
  ·rename_i xs h2
   generalize reachQ σ.heap 200 (idsVs2 (as'++(xs++bs))) []=m at e
   obtain⟨targs,pre,k1,k2,k3,k4,⟨x,k5,k6,k7,k8⟩ | ⟨v,post,new,k5,k6,k7,k8⟩⟩:=evCallM_ok hE e
   ·left
    unfold opOut
    rw[ho]
    simp only[]
    rw[hf]
    refine .inr (.inl ⟨[],?_⟩)
    show opOut0 M ti o fresh (getS σ.slots) (getH σ.heap) _
    unfold opOut0
    rw[ho]
    simp only[]
    rw[hf]
    refine outCallV_of (n:=n) (ays:=as') (bs:=bs) (w:=true) (xs:=xs) ?_ h2 ⟨m,targs,pre,x.res,x.post,x.new,k5,k1,k2,k3,k4,k6,k7,?_⟩
    ·unfold calleeZ at h1
     split at h1
     ·rename_i h;rw[h];exact h1
     ·rename_i h;rw[h];exact h1
     ·cases h1
    ·exact hK _ (by simpa using k8)
   ·right;right
    unfold panK
    rw[ho]
    simp only[]
    rw[hf]
    simp only[]
    unfold calleeZ at h1
    split at h1
    ·rename_i h
     rw[h]
     cases h1
     exact⟨xs,.inr h2,m,targs,pre,v,post,new,k5,by simpa using k1,k2,k3,k4,k6,k7,k8⟩
    ·rename_i h
     rw[h]
     cases h1
     exact⟨xs,.inr h2,m,targs,pre,v,post,new,k5,by simpa using k1,k2,k3,k4,k6,k7,k8⟩
    ·cases h1
end
end Go.AM
namespace Go.AM
open Go Go.RowKit
def fbOf (caps:List Id) (cs:List FC) (i:Id):Option Id:=
 match caps,cs with
 | c::caps,x::cs=>(match Id.beq c i with
  | true=>(match x with
   | .p k=>some k
   | _=>none)
  | false=>fbOf caps cs i)
 | _,_=>none
theorem fbOf_get:∀{caps:List Id}{cs:List FC}{i k:Id},fbOf caps cs i=some k→∃j:Nat,caps[j]?=some i∧cs[j]?=some (.p k)
 | c::caps,x::cs,i,k,h=>by
  unfold fbOf at h
  split at h
  ·rename_i hb
   split at h
   ·rename_i k';cases h;exact⟨0,by simp[Id.beq_iff.1 hb],rfl⟩
   ·cases h
  ·obtain⟨j,h1,h2⟩:=fbOf_get h
   exact⟨j+1,by simpa using h1,by simpa using h2⟩
 | [],_,_,_,h=>by simp[fbOf]at h
 | _::_,[],_,_,h=>by simp[fbOf]at h
def fbSl (caps:List Id) (cs:List FC) (s:Slots):List (Nat×AV)→List (Nat×AV)
 | []=>[]
 | (t,_)::l=>(match s t with
  | .v (.c (.ptr i 0))=>(match fbOf caps cs i with
   | some k=>(t,.v (.c (.fb k)))::fbSl caps cs s l
   | none=>fbSl caps cs s l)
  | _=>fbSl caps cs s l)
theorem RelS.reslots {C:Cx}{F:Nat→Prop}{h:Heap}{g:Ghost}{a:Act}{w:World}:∀{l:List (Nat×AV)}{sl:List (Nat×AV)},RelS C F (getS sl) h g a w→
  (∀t v,(t,v)∈l→RelAV w (zor (zone g h) C.X) g h v (a.tmps.getD t undef)∧∀f cs rows,v≠ .df f cs rows)→RelS C F (getS (l++sl)) h g a w
 | [],sl,R,_=>R
 | (t,v)::l,sl,R,hl=>by
  have R1:=RelS.reslots (l:=l) R fun t v hm=>hl t v (by simp[hm])
  have:=R1.reslot t v (hl t v (by simp)).1 (hl t v (by simp)).2
  rw[List.cons_append,getS_cons]
  exact this
theorem weak_clozB {σ:St}{t f:Nat}{caps:List Id}{cs:List FC}(ht:getS σ.slots t= .v (.c (.fn f caps))) (hn:nodupB caps=true) (hb:boxesC (getH σ.heap) caps=some cs):
  Weak σ ⟨fbSl caps cs (getS σ.slots) σ.slots++(t,.v (.c (.fz f cs)))::σ.slots,setW σ.heap (goneAll caps),σ.next⟩:=by
 rintro C a w ⟨g,R⟩
 refine⟨g,?_⟩
 have R1:=R.cloz ht (nodupB_iff.1 hn) hb
 rw[getH_setW]
 refine RelS.reslots (by rw[getS_cons];exact R1) ?_
 have hz:RelAV w (zor (zone g (updW (getH σ.heap) (goneAll caps))) C.X) g (updW (getH σ.heap) (goneAll caps)) (.v (.c (.fz f cs))) (a.tmps.getD t undef):=by
  have:=R1.slots t
  simpa [updS] using this
 obtain⟨ps,h1,h2,h3⟩:=hz
 have h0:=R.slots t
 rw[ht]at h0
 have h0:a.tmps.getD t undef= .func (.func f) #[] (caps.map (fun i=>ptrAt (g i) 0)).toArray:=h0.1
 rw[h0]at h1
 simp only[Value.func.injEq,true_and]at h1
 have hps:ps=caps.map fun i=>ptrAt (g i) 0:=by
  have:=congrArg Array.toList h1
  simpa using this.symm
 have main:∀(l:List (Nat×AV)) t' v,(t',v)∈fbSl caps cs (getS σ.slots) l→∃i k,getS σ.slots t'= .v (.c (.ptr i 0))∧fbOf caps cs i=some k∧v= .v (.c (.fb k)):=by
  intro l
  induction l with
  | nil=>intro t' v hm;simp[fbSl]at hm
  | cons x l ih=>
   obtain⟨t0,v0⟩:=x
   intro t' v hm
   unfold fbSl at hm
   split at hm
   ·rename_i i hi
    split at hm
    ·rename_i k hk
     rcases List.mem_cons.1 hm with hm | hm
     ·cases hm;exact⟨i,k,hi,hk,rfl⟩
     ·exact ih t' v hm
    ·exact ih t' v hm
   ·exact ih t' v hm
 intro t' v hm
 obtain⟨i,k,e1,e2,rfl⟩:=main _ t' v hm
 refine⟨?_,fun f cs rows=>by simp⟩
 obtain⟨j,j1,j2⟩:=fbOf_get e2
 have hv:=R.slots t'
 rw[e1]at hv
 have hv:a.tmps.getD t' undef=ptrAt (g i) 0:=hv.2
 have:=h3 j (.p k) (ptrAt (g i) 0) j2 (by rw[hps,List.getElem?_map,j1];rfl)
 show BoxF _ _ _ _ _
 rw[hv]
 exact this
theorem weak_df {σ:St}{f0 f:Nat}{cs0 cs:List FC}(h:getS σ.slots DT= .df f0 cs0 []):Weak σ ⟨(DT,.df f cs [])::σ.slots,σ.heap,σ.next⟩:=by
 rintro C a w ⟨g,R⟩
 refine⟨g,?_⟩
 refine {R with size:=R.size,defers:=?_,slots:=fun t=>?_}
 ·have hd:=R.defers
  rw[getS_cons]
  simp only[if_pos]
  cases hcl:C.M.cl with
  | false=>rw[hcl]at hd;exact hd
  | true=>
   rw[hcl]at hd
   have hd0:=(hd f0 cs0 [] h).1
   intro f' cs' rows' e
   cases e
   exact⟨hd0,fun k r d hr=>by simp at hr⟩
 ·rw[getS_cons]
  simp only[]
  split
  ·trivial
  ·exact R.slots t
theorem fill_nil:∀(cs:List FC),fill cs []=cs
 | []=>rfl
 | .h::r=>by simp[fill,fill_nil r]
 | .p i::r=>by simp[fill,fill_nil r]
 | .d x::r=>by simp[fill,fill_nil r]
theorem deferB {M:Mach}{ti:Types}{t fresh:Nat}{σ:St}{K:St→Prop}(hM:M.cl=true) {f:Nat}{caps:List Id}{cs:List FC}(ht:getS σ.slots t= .v (.c (.fn f caps))) (hne:t≠DT) (hn:nodupB caps=true)
  (hb:boxesC (getH σ.heap) caps=some cs) (hd:getS σ.slots DT= .df 0 [] []) (hfb:getS (fbSl caps cs (getS σ.slots) σ.slots) DT= .u) (hft:getS (fbSl caps cs (getS σ.slots) σ.slots) t= .u)
  (hk:K ⟨(DT,.df f cs [.agg []])::(DT,.df f cs [])::(fbSl caps cs (getS σ.slots) σ.slots++(t,.v (.c (.fz f cs)))::σ.slots),setW σ.heap (goneAll caps),fresh⟩):deferP M ti (.tmp t) fresh σ K:=by
 have app:∀(l sl:List (Nat×AV)) (k:Nat),(∀v,(k,v)∈l→False)→getS (l++sl) k=getS sl k:=by
  intro l sl k
  induction l with
  | nil=>intro _;rfl
  | cons x l ih=>
   obtain⟨t0,v0⟩:=x
   intro hh
   rw[List.cons_append,getS_cons]
   simp only[]
   rw[if_neg (fun e=>hh v0 (by simp[e])),ih (fun v hv=>hh v (by simp[hv]))]
 have nomem:∀(k:Nat) (l:List (Nat×AV)),getS (fbSl caps cs (getS σ.slots) l) k= .u→∀v,(k,v)∈fbSl caps cs (getS σ.slots) l→False:=by
  intro k l
  induction l with
  | nil=>intro _ v hm;simp[fbSl]at hm
  | cons x l ih=>
   obtain⟨t0,v0⟩:=x
   intro hu v hm
   unfold fbSl at hm hu
   split at hm
   ·rename_i i hi
    split at hm
    ·rename_i k' hk'
     simp only[hi,hk']at hu
     rw[getS_cons]at hu
     simp only[]at hu
     by_cases e:k=t0
     ·rw[if_pos e]at hu;cases hu
     ·rw[if_neg e]at hu
      rcases List.mem_cons.1 hm with hm | hm
      ·cases hm;exact e rfl
      ·exact ih hu v hm
    ·rename_i hk'
     simp only[hi,hk']at hu
     exact ih hu v hm
   ·rename_i hno
    split at hu
    ·rename_i i hi;exact absurd hi (hno i)
    ·exact ih hu v hm
 refine (M.lock_iff _).2 ⟨⟨(DT,.df f cs [])::(fbSl caps cs (getS σ.slots) σ.slots++(t,.v (.c (.fz f cs)))::σ.slots),setW σ.heap (goneAll caps),fresh⟩,?_,rfl,f,cs,[],.agg [],?_,?_,hM,?_⟩
 ·refine Weak.trans (weak_clozB (σ:=⟨σ.slots,σ.heap,fresh⟩) ht hn hb) (weak_df (f0:=0) (cs0:=[]) ?_)
  show getS (fbSl caps cs (getS σ.slots) σ.slots++(t,.v (.c (.fz f cs)))::σ.slots) DT=_
  rw[app _ _ _ (nomem DT _ hfb),getS_cons]
  simp only[]
  rw[if_neg (fun e=>hne e.symm),hd]
 ·show getS _ t=_
  rw[getS_cons]
  simp only[]
  rw[if_neg hne,app _ _ _ (nomem t _ hft),getS_cons]
  simp[D.cells,fill_nil]
 ·rw[getS_cons];simp
 ·exact hk
def modeOf:Option Value→FrameMode
 | none=>.returning
 | some v=>.panicking [{v:=v,recovered:=false}]
def recV:Option Value→Value
 | none=>.nilIface
 | some v=>v
def TripR (P:Program) (I:Inv) (f:FuncId) (p:Option Value) (args:List V1) (pre post new:List AObj):Prop:=
 (∃fn c,P.funcs[f]?=some fn∧fn.body=some c∧(fn.name== "runtime.NumGoroutine")=false)∧
 ∀w X g (vals:Array Value),(∀b o,X b o→b<w.heap.size)→I.at w (zor (zone g (heapOf pre)) X)→RelH w X g (heapOf pre)→(∀n,g (.loc n)=undef)→vals.size=args.length→
  (∀(j:Nat) x v,args[j]?=some x→vals[j]?=some v→RelV1 w (zor (zone g (heapOf pre)) X) g (heapOf pre) x v)→
  CallsDIn Fence.wide 0 P f vals (modeOf p) w fun e u' w'=>settle u'= .returning∧∃v g',e= .returned v∧CallPost w X g pre .u post new v w' g'
theorem TripR.intro {P:Program}{I:Inv}{ti:Types}(dr:Mach→Nat→Draw) (hti:TIok P ti) (h1:TIone ti) (hdr:∀C:Cx,C.P=P→DrawOK C (dr C.M C.nt)) {f:FuncId}{fn:Func}{id:Nat}{o:Oper}{rest:Code}{c:Call}{d:Nat}(p:Option Value) (hf:P.funcs[f]?=some fn) (hb:fn.body=some (.seq (.region id #[o] false) rest))
  (hname:(fn.name== "runtime.NumGoroutine")=false) (hres:fn.results=#[]) (ho:o.op= .call c) (hc:c.callee= .builtin .recover) (hg:o.guard=none) (hod:o.dst=some d) (hd:d<fn.ntmps) (hv:(recV p).oneCell'=true) {args:List V1} {pre post new:List AObj} (hargs:args.length≤fn.ntmps) (hnt:fn.ntmps≤DT) (hnr:noRange rest=true)
  (hx:∀M:Mach,M.P=P→M.I=I→M.cl=true→exec M ti fn.ntmps (dr M fn.ntmps) rest ⟨(d,.v (.c (.kv (recV p))))::(DT,.df 0 [] [])::slotsOf args 0,extsOf pre 0,0⟩ fun e σ=>(∀id,e≠ .exit id)∧getS σ.slots DT= .df 0 [] []∧FinP σ.heap σ.next post new):TripR P I f p args pre post new:=by
 refine⟨⟨fn,_,hf,hb,hname⟩,fun w X g vals hX hI RH hg0 hsz hargs'=>?_⟩
 let C:Cx:={M:=Mach.of P I true,nt:=fn.ntmps,w0:=w,Z0:=zone g (heapOf pre),X:=X,g0:=g,hinv:=hI,ro:=none,D:=[],hro:=fun l hl=>(by cases hl),hD:=fun r hr=>(by cases hr),hDn:=List.nodup_nil,hcl:=fun _=>⟨hnt,rfl⟩}
 have R0:RelSt C ⟨(DT,.df 0 [] [])::slotsOf args 0,extsOf pre 0,0⟩ {tmps:=vals++Array.replicate (fn.ntmps - vals.size) undef,defers:=[]} w:=by
  refine relS_start (P:=P) (by simp[C];omega) ?_ (fun t=>?_) RH rfl rfl (fun _ _ h=>h) hX hg0
  ·show DefOK _ _ _ true _ _ _
   rw[getS_cons]
   simp only[if_pos]
   intro f' cs' rows' e
   cases e
   exact⟨rfl,fun k r d hr=>by simp at hr⟩
  ·rw[getS_cons]
   simp only[]
   split
   ·trivial
   rcases slotsOf_get args 0 t with h | ⟨x,_,h2,h3⟩
   ·rw[h];trivial
   ·rw[h3]
    simp only[Nat.sub_zero]at h2
    have hlt:t<vals.size:=by rw[hsz];exact (List.getElem?_eq_some_iff.1 h2).1
    have:(vals++Array.replicate (fn.ntmps - vals.size) undef).getD t undef=vals[t]:=by
     simp[Array.getElem?_append,hlt]
    show RelV1 w _ g _ x ((vals++Array.replicate (fn.ntmps - vals.size) undef).getD t undef)
    rw[this]
    exact hargs' t x _ h2 (by simp[hlt])
 refine callsDIn_of_wpSIn (n:=0) hf hb trivial fun c₀ cs hu=>?_
 have key:∀(u':FrameMode),settle u'= .returning→rest.wpSIn Fence.wide 0 P (bodyPostS P fn c₀ cs fun e u' w'=>settle u'= .returning∧∃v g',e= .returned v∧CallPost w X g pre .u post new v w' g')
   (({tmps:=vals++Array.replicate (fn.ntmps - vals.size) undef,defers:=[]}:Act).put (some d) (recV p)) ({c₀ with mode:=u'}::cs) w:=by
  intro u' hu'
  obtain⟨g0,R1⟩:=R0
  have R2:RelSt C ⟨(d,.v (.c (.kv (recV p))))::(DT,.df 0 [] [])::slotsOf args 0,extsOf pre 0,0⟩ (({tmps:=vals++Array.replicate (fn.ntmps - vals.size) undef,defers:=[]}:Act).put (some d) (recV p)) w:=by
   refine⟨g0,?_⟩
   rw[getS_cons]
   have hdd:∀d',some d=some d'→d'<C.nt:=fun d' e=>by cases e;exact hd
   exact R1.put hdd (v:=.v (.c (.kv (recV p)))) ⟨rfl,hv⟩
  refine wpSIn_of_wpIn rfl (wpIn_mono (exec_sound (M:=Mach.of P I true) (ro:=none) hti h1 (fun C hC hn=>by
   have:=hdr C (by show C.M.P=P;rw[hC];rfl)
   rw[hC,hn]at this
   exact this) rest _ _ C _ w rfl rfl rfl (fun _=>hnr) (hx (Mach.of P I true) rfl rfl rfl) R2) ?_)
  have fin:∀(C':Cx) (σ:St) (a':Act) (w':World),CxLe C C'→getS σ.slots DT= .df 0 [] []→FinP σ.heap σ.next post new→RelSt C' σ a' w'→
    a'.defers=[]∧∃u2,({c₀ with mode:=u'}:Frame)::cs={c₀ with mode:=u2}::cs∧∃v,(results fn a'.tmps).run P w'= .ok v w'∧(settle u2= .returning∧∃v' g',Ending.returned v= .returned v'∧CallPost w X g pre .u post new v' w' g'):=by
   rintro C' σ a' w' hle hdt ⟨nm,hnd,hpost,hnewo,hhand⟩ ⟨g1,R⟩
   have hd:=R.defers
   rw[hle.M]at hd
   refine⟨by simpa using (hd 0 [] [] hdt).1,u',rfl,.tuple #[],(by have:=results_run (C:=C) (a:=a') (w:=w') (fn:=fn) (vs:=[]) (by rw[hres];rfl);simp at this;exact this),hu',_,fun i=>g1 (renN nm σ.next i),rfl,?_⟩
   obtain⟨f1,f2,f3,f4⟩:=finish (σ:=σ) (X:=X) R (fun b o hx=>hle.X b o hx) (nodupB_iff.1 hnd) hpost hnewo hhand
   refine⟨f1,trivial,Frame'.then hle.frame R.frame (fun b o hz=>hle.Z0 b o hz),fun j=>(hle.ext j).trans (R.ext j),fun i ob b o hi hb=>?_,f3⟩
   obtain⟨j,ob',hj,hz⟩:=f2 i ob b o hi hb
   rcases R.within j ob' b o hj hz with hz | hz
   ·exact hle.Z0 b o hz
   ·exact .inr (Nat.le_trans hle.frame.size hz)
  intro e a' w' hq
  cases e with
  | normal=>obtain⟨C',hle,σ,⟨_,h2,h3⟩,hr⟩:=hq;exact fin C' σ a' w' hle h2 h3 hr
  | ret=>obtain⟨C',hle,σ,⟨_,h2,h3⟩,hr⟩:=hq;exact fin C' σ a' w' hle h2 h3 hr
  | exit id=>obtain⟨C',hle,σ,⟨h1,_,_⟩,hr⟩:=hq;exact absurd rfl (h1 id)
  | goto l=>exact hq.elim
  | panic ch=>obtain⟨C',hle,v0,s,h,nx,hpn,_⟩:=hq;rw[hle.M]at hpn;exact hpn.elim
  | outgrown=>exact hq.elim
 refine wpSIn_seq (wpSIn_region ?_)
 show wpOpsSIn _ _ _ _ _ [0] _ _ _
 unfold wpOpsSIn
 simp only[List.getElem?_toArray,List.getElem?_cons_zero]
 have hrun:∀a:Act,(execOp a.eval o).run P w= .ok .recover w:=fun a=>by simp[execOp,ho,hc,resolve,invoke,builtin]
 refine⟨fun _ _=>trivial,?_⟩
 rw[if_pos (by simp[Region.wanted,hg]),hrun]
 simp only[hod]
 cases p with
 | none=>
  have:recoverD (c₀::cs)=none:=by simp only[recoverD,hu,modeOf]
  rw[this]
  have k:=key .returning rfl
  have e:({c₀ with mode:=.returning}:Frame)=c₀:=by have:c₀.mode= .returning:=hu;rw[←this]
  rw[e]at k
  exact k
 | some v=>
  have:recoverD (c₀::cs)=some (v,{c₀ with mode:=.panicking [{v,recovered:=true}]}::cs):=by
   simp only[recoverD,hu,modeOf]
  rw[this]
  exact key _ rfl
def LvR (P:Program) (I:Inv) (ti:Types) (rs:List ResultVar) (Q:AV→List AObj→List AObj→Prop) (p:Option Value) (σ:St):Prop:=
 ∃(f:Nat) (cs:List FC) (r:D) (m:List Id) (targs:List V1) (pre post new:List AObj),getS σ.slots DT= .df f cs [r]∧TripR P I f p targs pre post new∧(fill cs r.cells).map capV=targs.map (V1.ren (renM m σ.next))∧m.length=pre.length∧m.Nodup∧
  preAt (getH σ.heap) (renM m σ.next) m pre∧allKinds pre post∧new.length≤31∧∃res p' n,Q res p' n∧Fin' ti rs ⟨(DT,.df f cs [])::σ.slots,setW σ.heap (wrM m (renM m σ.next) post++wrNew σ.next (renM m σ.next) 0 new),σ.next+32⟩ res p' n
theorem leaveR_sound {P:Program}{I:Inv}{ti:Types}{fn:Func}{Q:AV→List AObj→List AObj→Prop}{w:World}{X:Zone}{g:Ghost}{pre:List AObj}{C:Cx}(hti:TIok P ti) (h1:TIone ti) (hMP:C.M.P=P) (hMI:C.M.I=I) (hMc:C.M.cl=true)
  (hw0:Frame' (zone g (heapOf pre)) w C.w0) (hX:∀b o,X b o→C.X b o) (hZ:∀b o,C.Z0 b o→zone g (heapOf pre) b o∨w.heap.size≤b) (hg:∀j,gsame (g (.ext j)) (C.g0 (.ext j))) (p:Option Value) (σ:St) (a:Act) (w1:World) (tmps:Array Value)
  (hk:LvR P I ti fn.results.toList Q p σ) (ht:a.tmps=tmps) (R0:RelSt C σ a w1):
  LeavesInM Fence.wide 0 P fn tmps (fun e w'=>∃v g' res post new,Q res post new∧e= .returned v∧CallPost w X g pre res post new v w' g') a.defers (modeOf p) w1:=by
 subst hMI
 obtain⟨f,cs,r,m,targs,pre',post,new,hdt,htrip,hargs,hlen,hnd,hpre,hkd,hnew,res',p',n',hQ,hfin⟩:=hk
 obtain⟨g1,R1⟩:=R0
 have hcl:C.M.cl=true:=hMc
 have hd:=R1.defers
 rw[hcl]at hd
 obtain⟨hl,hds⟩:=hd f cs [r] hdt
 cases hda:a.defers with
 | nil=>rw[hda]at hl;simp at hl
 | cons d ds=>
  rw[hda]at hl hds
  obtain⟨ps,rfl,hclo⟩:=hds 0 r d rfl rfl
  obtain⟨hpsz,hcap⟩:=capV_rel (h:=getH σ.heap) hclo
  have hP:C.P=P:=hMP
  obtain⟨⟨fnd,body,hfn,hb,hname⟩,htrip⟩:=htrip
  have hn':¬fnd.name= "runtime.NumGoroutine" :=by simpa using hname
  refine⟨by cases p<;>simp[modeOf],.inr ⟨(fun h=>by cases h),.func f,ps,f,ps,rfl,?_,fun _ _=>trivial,?_⟩⟩
  ·simp[invoke,callFunc,hfn,hb,hn']
  have core:=call_core (C:=C) (Qp:=fun r p q=>r= .u∧p=post∧q=new) (Run:=fun pp=>CallsDIn Fence.wide 0 P f ps (modeOf p) w1 fun e u' w'=>settle u'= .returning∧pp e w') (vals:=ps) (dst:=none) (Q:=fun _ _ _=>False) (a:=a) R1 (fun hpq hp=>CallsDIn.mono hp fun e u' w' q=>⟨q.1,hpq _ _ q.2⟩)
   (fun X' g' _ k1 k2 k3 k4 k6=>CallsDIn.mono (htrip w1 X' g' ps k1 k2 k3 k4 (by have:=congrArg List.length hargs;simp at this;omega) k6) fun e u' w' q=>⟨q.1,by
    obtain⟨v,g2,h1,h2⟩:=q.2
    exact⟨v,g2,.u,post,new,⟨rfl,rfl,rfl⟩,h1,h2⟩⟩) hlen hnd hpre (by rintro _ _ _ ⟨rfl,rfl,rfl⟩;exact⟨hkd,hnew⟩) (fun k _=>by show σ.next≤_;omega) (fun d hd=>by cases hd) (targs:=targs) (by rw[←hargs];exact hcap)
  refine CallsDIn.mono core ?_
  rintro e u' w2 ⟨hset,he⟩
  cases e with
  | panicked ch=>exact he.elim
  | outgrown=>exact absurd he (by simp[LetsOut])
  | returned v=>
   obtain⟨res,post0,new0,⟨rfl,rfl,rfl⟩,g2,_,R2⟩:=he
   have R3:RelSt C ⟨(DT,.df f cs [])::σ.slots,setW σ.heap (wrM m (renM m σ.next) post0++wrNew σ.next (renM m σ.next) 0 new0),σ.next+32⟩ {tmps:=a.tmps,defers:=ds} w2:=by
    refine⟨g2,?_⟩
    have hdf:=R2.defers
    rw[hcl]at hdf
    obtain⟨q1,q2⟩:=hdf f cs [r] (by simpa [updS] using hdt)
    have hda':(a.put none v).defers=⟨.fn (.func f) ps,#[]⟩::ds:=hda
    rw[hda']at q1 q2
    rw[getH_setW]
    refine {R2.free_mono (F':=fun n=>σ.next+32≤n) (fun n hn=>⟨by omega,by omega⟩)with size:=R2.size,defers:=?_,slots:=fun t=>?_}
    ·rw[hcl]
     intro f' cs' rows' e
     rw[getS_cons]at e
     simp only[updS]at e
     cases e
     exact⟨by simpa using q1,fun k y d hy hd=>by simp at hy⟩
    ·rw[getS_cons]
     simp only[updS]
     split
     ·trivial
     ·exact R2.slots t
   show LeavesInM Fence.wide 0 P fn tmps _ ds (settle u') w2
   rw[hset]
   exact leave_sound (P:=P) (I:=C.M.I) (f:=f) (cs:=cs) (fn:=fn) hti h1 hMP hMc hw0 hX hZ hg [] _ {tmps:=a.tmps,defers:=ds} w2 tmps ⟨_,Weak.refl _,res',p',n',hQ,hfin⟩ (by rw[getS_cons];simp) ht R3
theorem TripK.introR {P:Program}{I:Inv}{ti:Types}(dr:Mach→Nat→Draw) (hti:TIok P ti) (h1:TIone ti) (hdr:∀C:Cx,C.P=P→DrawOK C (dr C.M C.nt)) {f:FuncId}{fn:Func}{c:Code}(hf:P.funcs[f]?=some fn) (hb:fn.body=some c)
  (hname:(fn.name== "runtime.NumGoroutine")=false) {args:List V1} {pre:List AObj} {Q:AV→List AObj→List AObj→Prop} (hargs:args.length≤fn.ntmps) (hnt:fn.ntmps≤DT) (hnr:noRange c=true)
  (hx:∀M:Mach,M.P=P→M.I=I→M.cl=true→(∀v s h nx,LvR P I ti fn.results.toList Q (some v) ⟨s,h,nx⟩→M.pn v s h nx)→exec M ti fn.ntmps (dr M fn.ntmps) c ⟨(DT,.df 0 [] [])::slotsOf args 0,extsOf pre 0,0⟩ fun e σ=>(∀id,e≠ .exit id)∧
   ((getS σ.slots DT= .df 0 [] []∧∃res post new,Q res post new∧Fin' ti fn.results.toList σ res post new)∨LvR P I ti fn.results.toList Q none σ)):TripK P I f args pre Q:=by
 refine⟨⟨fn,c,hf,hb,hname⟩,fun w X g vals hX hI RH hg hsz hargs'=>?_⟩
 let pn:Value→List (Nat×AV)→List (Id×AObj)→Nat→Prop:=fun v s h nx=>LvR P I ti fn.results.toList Q (some v) ⟨s,h,nx⟩
 let C:Cx:={M:=Mach.of P I true pn,nt:=fn.ntmps,w0:=w,Z0:=zone g (heapOf pre),X:=X,g0:=g,hinv:=hI,ro:=none,D:=[],hro:=fun l hl=>(by cases hl),hD:=fun r hr=>(by cases hr),hDn:=List.nodup_nil,hcl:=fun _=>⟨hnt,rfl⟩}
 have R0:RelSt C ⟨(DT,.df 0 [] [])::slotsOf args 0,extsOf pre 0,0⟩ {tmps:=vals++Array.replicate (fn.ntmps - vals.size) undef,defers:=[]} w:=by
  refine relS_start (P:=P) (by simp[C];omega) ?_ (fun t=>?_) RH rfl rfl (fun _ _ h=>h) hX hg
  ·show DefOK _ _ _ true _ _ _
   rw[getS_cons]
   simp only[if_pos]
   intro f' cs' rows' e
   cases e
   exact⟨rfl,fun k r d hr=>by simp at hr⟩
  ·rw[getS_cons]
   simp only[]
   split
   ·trivial
   rcases slotsOf_get args 0 t with h | ⟨x,_,h2,h3⟩
   ·rw[h];trivial
   ·rw[h3]
    simp only[Nat.sub_zero]at h2
    have hlt:t<vals.size:=by rw[hsz];exact (List.getElem?_eq_some_iff.1 h2).1
    have:(vals++Array.replicate (fn.ntmps - vals.size) undef).getD t undef=vals[t]:=by
     simp[Array.getElem?_append,hlt]
    show RelV1 w _ g _ x ((vals++Array.replicate (fn.ntmps - vals.size) undef).getD t undef)
    rw[this]
    exact hargs' t x _ h2 (by simp[hlt])
 refine callsIn_wide.1 (callsIn_of_wp_marks (n:=0) hf hb trivial (wpIn_mono (exec_sound (M:=Mach.of P I true pn) (ro:=none) hti h1 (fun C hC hn=>by
  have:=hdr C (by show C.M.P=P;rw[hC];rfl)
  rw[hC,hn]at this
  exact this) c _ _ C _ w rfl rfl rfl (fun _=>hnr) (hx (Mach.of P I true pn) rfl rfl rfl fun v s h nx k=>k) R0) ?_))
 have fin:∀(C':Cx) (σ:St) (a':Act) (w':World),CxLe C C'→((getS σ.slots DT= .df 0 [] []∧∃res post new,Q res post new∧Fin' ti fn.results.toList σ res post new)∨LvR P I ti fn.results.toList Q none σ)→RelSt C' σ a' w'→
   LeavesInM Fence.wide 0 P fn a'.tmps (fun e w'=>∃v g' res post new,Q res post new∧e= .returned v∧CallPost w X g pre res post new v w' g') a'.defers .returning w':=by
  rintro C' σ a' w' hle (⟨hdt,res,post,new,hq,hfin⟩ | hlv) R
  ·exact leave_sound (P:=P) (I:=I) (f:=0) (cs:=[]) hti h1 (by rw[hle.M];rfl) (by rw[hle.M];rfl) hle.frame (fun b o hx=>hle.X b o hx) hle.Z0 hle.ext [] σ a' w' _ ⟨σ,Weak.refl _,res,post,new,hq,hfin⟩ hdt rfl R
  ·exact leaveR_sound (P:=P) (I:=I) hti h1 (by rw[hle.M];rfl) (by rw[hle.M];rfl) (by rw[hle.M];rfl) hle.frame (fun b o hx=>hle.X b o hx) hle.Z0 hle.ext none σ a' w' _ hlv rfl R
 intro e a' w' hq
 cases e with
 | normal=>obtain⟨C',hle,σ,hf',hr⟩:=hq;exact fin C' σ a' w' hle hf'.2 hr
 | ret=>obtain⟨C',hle,σ,hf',hr⟩:=hq;exact fin C' σ a' w' hle hf'.2 hr
 | exit id=>obtain⟨C',hle,σ,hf',hr⟩:=hq;exact absurd rfl (hf'.1 id)
 | goto l=>exact hq.elim
 | outgrown=>exact hq.elim
 | panic ch=>
  obtain⟨C',hle,v,s,h,nx,hpn,rfl,R⟩:=hq
  rw[hle.M]at hpn
  exact leaveR_sound (P:=P) (I:=I) hti h1 (by rw[hle.M];rfl) (by rw[hle.M];rfl) (by rw[hle.M];rfl) hle.frame (fun b o hx=>hle.X b o hx) hle.Z0 hle.ext (some v) ⟨s,h,nx⟩ a' w' _ hpn rfl R
end Go.AM
namespace Go.AM
open Go Go.RowKit
def isDf:AV→Bool
 | .df f cs rows=>Nat.beq f 0&&(match cs,rows with
  | [],[]=>true
  | _,_=>false)
 | _=>false
theorem isDf_ok {x:AV}(h:isDf x=true):x= .df 0 [] []:=by
 unfold isDf at h
 split at h
 ·rw[Bool.and_eq_true]at h
  obtain⟨h1,h2⟩:=h
  split at h2
  ·rw[Nat.eq_of_beq_eq_true h1]
  ·cases h2
 ·cases h
section
variable {γ:Type}{r:γ}
def evGselZ (E:EnvZ γ) (ti:Types) (o:Oper) (fresh:Nat) (σ:St) (K:St→Option γ):Option γ:=
 match gsel ti o (getS σ.slots) (getH σ.heap)with
 | some true=>evOpP E.toEnvO ti o fresh (getS σ.slots) (getH σ.heap) .e fun _ out=>nfPut E.nf σ o.dst out.val out.wr fresh K
 | _=>evOpP E.toEnvO ti o fresh (getS σ.slots) (getH σ.heap) .e fun _ out=>nfPut E.nf σ o.dst out.val out.wr σ.next K
theorem evGselZ_eq (E:EnvZ γ) (ti:Types) (o:Oper) (fresh:Nat) (σ:St) (K:St→Option γ):evGselZ E ti o fresh σ K=evGsel E.toEnvO ti o fresh σ .e fun _ σ=>K σ:=by
 unfold evGselZ evGsel
 simp only[nfPut_eq]
 cases gsel ti o (getS σ.slots) (getH σ.heap)with
 | none=>rfl
 | some b=>cases b<;>rfl
noncomputable def evStepZ (E:EnvZ γ) (ti:Types) (nt:Nat) (o:Oper) (fresh:Nat) (σ:St) (K:St→Option γ):Option γ:=
 evR (storeB o)<| evR (dstB nt o.dst)<| (match nilCmp ti o (getS σ.slots) (getH σ.heap)with
  | some (e,rows)=>evR (sliceTy ti o)<| (match rows with
   | []=>none
   | _::_=>K ⟨putS σ.slots o.dst (.v (.d (.bool (notB e)))),σ.heap,σ.next⟩)
  | none=>(match o.op with
   | .panic x=>(match opd ti (getS σ.slots) 0 x with
    | .v (.c (.kv (.iface t u)))=>E.ab (.iface t u) σ.slots σ.heap fresh
    | _=>none)
   | .call c=>(match c.callee with
    | .value f=>evCallZ E ti o c f fresh σ K
    | _=>evGselZ E ti o fresh σ K)
   | _=>evGselZ E ti o fresh σ K))
theorem evStepZ_ok {M:Mach}{ti:Types}{E:EnvZ γ}(hE:E.ok M ti r) {nt:Nat}{o:Oper}{fresh:Nat}{σ:St}{K:St→Option γ}{P:St→Prop}(hK:∀σ,K σ=some r→P σ) (e:evStepZ E ti nt o fresh σ K=some r):stepOp M ti nt o fresh σ P:=by
 unfold evStepZ at e
 simp only[evGselZ_eq]at e
 obtain⟨h1,e⟩:=evR_some e
 obtain⟨h2,e⟩:=evR_some e
 unfold stepOp
 refine storeB_ok h1 (dstB_ok h2 ?_)
 split at e
 ·rename_i b rows hn
  rw[hn]
  obtain⟨h3,e⟩:=evR_some e
  split at e
  ·cases e
  ·exact req_iff.2 ⟨h3,fun _=>hK _ e,fun hr=>by cases hr⟩
 ·rename_i hn
  rw[hn]
  simp only[]
  split at e
  ·rename_i x ho
   have hv:isValCall o=true:=by unfold isValCall;rw[ho]
   rw[hv]
   refine (M.lock_iff _).2 (.inr (.inr ?_))
   unfold panK
   rw[ho]
   simp only[]
   split at e
   ·rename_i t u hx;rw[hx];exact hE.ab _ _ _ _ e
   ·cases e
  ·rename_i c ho
   split at e
   ·rename_i f hf
    have hv:isValCall o=true:=by unfold isValCall;rw[ho];simp only[];rw[hf]
    rw[hv]
    exact (M.lock_iff _).2 (evCallZ_ok hE ho hf hK e)
   ·rename_i hf
    have hv:isValCall o=false:=by
     unfold isValCall
     rw[ho]
     simp only[]
    rw[hv]
    exact evGsel_ok hE.env (fun _ σ e=>hK σ e) e
  ·rename_i hp ho
   have hv:isValCall o=false:=by
    unfold isValCall
    split
    ·rename_i c hc;exact absurd hc (ho c)
    ·rename_i x hx;exact absurd hx (hp x)
    ·rfl
   rw[hv]
   exact evGsel_ok hE.env (fun _ σ e=>hK σ e) e
noncomputable def getSQ (sl:List (Nat×AV)) (t:Nat):AV:=List.rec (motive:=fun _=>AV) .u (fun x _ ih=>Bool.rec (motive:=fun _=>AV) ih x.2 (Nat.beq x.1 t)) sl
theorem getSQ_eq:∀(sl:List (Nat×AV)) (t:Nat),getSQ sl t=getS sl t
 | [],t=>rfl
 | (k,v)::sl,t=>by
  have e:getSQ ((k,v)::sl) t=Bool.rec (motive:=fun _=>AV) (getSQ sl t) v (Nat.beq k t):=rfl
  rw[e,getSQ_eq sl t]
  show _=(match Nat.beq k t with | true=>v | false=>getS sl t)
  cases Nat.beq k t<;>rfl
noncomputable def opdQ (ti:Types) (sl:List (Nat×AV)) (t:TypeId) (x:Operand):AV:=match x with
 | .tmp n=>getSQ sl n
 | .const v=>constO ti t v
 | .func f=>.v (.c (.fn f []))
 | .global _=>.u
theorem opdQ_eq (ti:Types) (sl:List (Nat×AV)) (t:TypeId) (x:Operand):opdQ ti sl t x=opd ti (getS sl) t x:=by
 cases x<;>simp only[opdQ,opd,getSQ_eq]
def hdA (v:AV) (k:AV→Option γ):Option γ:=match v with
 | .v x=>(match x with
  | .d y=>k (.v (.d y))
  | .c y=>k (.v (.c y))
  | .agg l=>k (.v (.agg l)))
 | v=>k v
theorem hdA_eq (v:AV) (k:AV→Option γ):hdA v k=k v:=by
 cases v with
 | v x=>cases x<;>rfl
 | _=>rfl
def putQ (b:Bool) (σ:St) (dst:Option Tmp) (v:AV) (K:St→Option γ):Option γ:=match b with
 | true=>hdA v fun v=>K ⟨putS σ.slots dst v,σ.heap,σ.next⟩
 | false=>K ⟨putS σ.slots dst v,σ.heap,σ.next⟩
theorem putQ_eq (b:Bool) (σ:St) (dst:Option Tmp) (v:AV) (K:St→Option γ):putQ b σ dst v K=K ⟨putS σ.slots dst v,σ.heap,σ.next⟩:=by
 cases b
 ·rfl
 ·simp only[putQ,hdA_eq]
def putN (b:Bool) (σ:St) (dst:Option Tmp) (v:AV) (K:St→Option γ):Option γ:=match b with
 | true=>nfA v fun v=>K ⟨putS σ.slots dst v,σ.heap,σ.next⟩
 | false=>K ⟨putS σ.slots dst v,σ.heap,σ.next⟩
theorem putN_eq (b:Bool) (σ:St) (dst:Option Tmp) (v:AV) (K:St→Option γ):putN b σ dst v K=K ⟨putS σ.slots dst v,σ.heap,σ.next⟩:=by
 cases b
 ·rfl
 ·simp only[putN,nfA_eq]
noncomputable def evStepQ (E:EnvZ γ) (ti:Types) (nt:Nat) (o:Oper) (fresh:Nat) (σ:St) (K:St→Option γ):Option γ:=
 match o.op with
 | .move x=>evR (dstB nt o.dst) (putQ E.nf σ o.dst (opdQ ti σ.slots o.type x) K)
 | .assign x=>evR (dstB nt o.dst) (putQ E.nf σ o.dst (opdQ ti σ.slots o.type x) K)
 | .pick c a b=>(match opdQ ti σ.slots 0 c with
  | .v (.d (.bool true))=>evR (dstB nt o.dst) (putQ E.nf σ o.dst (opdQ ti σ.slots o.type a) K)
  | .v (.d (.bool false))=>evR (dstB nt o.dst) (putQ E.nf σ o.dst (opdQ ti σ.slots o.type b) K)
  | _=>evStepZ E ti nt o fresh σ K)
 | .binOp op t x y _=>(match opdQ ti σ.slots t x,opdQ ti σ.slots t y with
  | .v (.d (.int q a)),.v (.d (.int q' b))=>evR (dstB nt o.dst) (evR (decide (q=q')) (evIntP op q a b .e fun _ d=>putN E.nf σ o.dst (.v (.d d)) K))
  | _,_=>evStepZ E ti nt o fresh σ K)
 | .load t x=>(match opdQ ti σ.slots 0 x with
  | .v (.c (.ptr id q))=>getK σ.heap id none fun ob=>(match ob with
   | .cells cs=>evR (dstB nt o.dst) (evT ti t fun i=>evR (Nat.ble (q+i.size) cs.length) (putN E.nf σ o.dst (.v (V1.ofCells (rowD i.desc) ((cs.drop q).take i.size))) K))
   | _=>evStepZ E ti nt o fresh σ K)
  | _=>evStepZ E ti nt o fresh σ K)
 | .fieldAddr t x f=>(match opdQ ti σ.slots 0 x with
  | .v (.c (.ptr id q))=>evR (dstB nt o.dst) (evT ti t fun i=>(match i.desc with
   | .struct fs=>(match fs[f]? with
    | some fd=>evT ti fd.type fun j=>evR (Nat.blt 0 j.size) (putN E.nf σ o.dst (.v (.c (.ptr id (q+fd.offset)))) K)
    | none=>none)
   | _=>none))
  | _=>evStepZ E ti nt o fresh σ K)
 | .nilCheck x=>(match opdQ ti σ.slots 0 x with
  | .v (.c (.ptr id q))=>evR (dstB nt o.dst) (putQ E.nf σ o.dst (.v (.c (.ptr id q))) K)
  | _=>evStepZ E ti nt o fresh σ K)
 | _=>evStepZ E ti nt o fresh σ K
theorem evStepQ_some {E:EnvZ γ}{ti:Types}{nt:Nat}{o:Oper}{fresh:Nat}{σ:St}{K:St→Option γ}(e:evStepQ E ti nt o fresh σ K=some r):evStepZ E ti nt o fresh σ K=some r:=by
 unfold evStepQ at e
 split at e
 ·rename_i x ho
  simp only[putQ_eq,opdQ_eq]at e
  obtain⟨h1,e⟩:=evR_some e
  simp only[evStepZ,ho,storeB,nilCmp,evGselZ,gsel,evOpP,nfPut_eq,h1,evR]
  exact e
 ·rename_i x ho
  simp only[putQ_eq,opdQ_eq]at e
  obtain⟨h1,e⟩:=evR_some e
  simp only[evStepZ,ho,storeB,nilCmp,evGselZ,gsel,evOpP,nfPut_eq,h1,evR]
  exact e
 ·rename_i c a b ho
  simp only[putQ_eq,opdQ_eq]at e
  split at e
  ·rename_i hc
   obtain⟨h1,e⟩:=evR_some e
   simp only[evStepZ,ho,storeB,nilCmp,evGselZ,gsel,evOpP,nfPut_eq,h1,evR,hc,evB]
   exact e
  ·rename_i hc
   obtain⟨h1,e⟩:=evR_some e
   simp only[evStepZ,ho,storeB,nilCmp,evGselZ,gsel,evOpP,nfPut_eq,h1,evR,hc,evB]
   exact e
  ·exact e
 ·rename_i op t x y t' ho
  simp only[putN_eq,opdQ_eq]at e
  split at e
  ·rename_i q a q' b hx hy
   obtain⟨h1,e⟩:=evR_some e
   have hn:nilCmp ti o (getS σ.slots) (getH σ.heap)=none:=by
    unfold nilCmp
    simp only[ho,hx,hy,isNilA]
    cases eqB op<;>rfl
   simp only[evStepZ,hn]
   simp only[ho,storeB,evGselZ,gsel,evOpP,nfPut_eq,h1,evR,hx,hy,isAggA,isT,evBinP]
   exact e
  ·exact e
 ·rename_i t x ho
  simp only[putN_eq,opdQ_eq]at e
  split at e
  ·rename_i id q hx
   obtain⟨ob,hob,e⟩:=getK_some e
   split at e
   ·rename_i cs
    obtain⟨h1,e⟩:=evR_some e
    simp only[evStepZ,ho,storeB,nilCmp,evGselZ,gsel,evOpP,nfPut_eq,h1,evR,hx,isT,isArr,hob,notB,evLoad]
    exact e
   ·exact e
  ·exact e
 ·rename_i t x f ho
  simp only[putN_eq,opdQ_eq]at e
  split at e
  ·rename_i id q hx
   obtain⟨h1,e⟩:=evR_some e
   simp only[evStepZ,ho,storeB,nilCmp,evGselZ,gsel,evOpP,nfPut_eq,h1,evR,hx,isT,evField]
   exact e
  ·exact e
 ·rename_i x ho
  simp only[putQ_eq,opdQ_eq]at e
  split at e
  ·rename_i id q hx
   obtain⟨h1,e⟩:=evR_some e
   simp only[evStepZ,ho,storeB,nilCmp,evGselZ,gsel,evOpP,nfPut_eq,h1,evR,hx,isT,notB]
   exact e
  ·exact e
 ·exact e
def isU:AV→Bool
 | .u=>true
 | _=>false
theorem isU_ok {x:AV}(h:isU x=true):x= .u:=by cases x<;>first | rfl | cases h
def evDefer (E:EnvZ γ) (x:Operand) (fresh:Nat) (σ:St) (K:St→Option γ):Option γ:=
 match x with
 | .tmp t=>(match getS σ.slots t with
  | .v (.c (.fn f caps))=>(match boxesC (getH σ.heap) caps with
   | some cs=>evR E.df<| evR (notB (Nat.beq t DT))<| evR (nodupB caps)<| evR (isDf (getS σ.slots DT))<| evR (isU (getS (fbSl caps cs (getS σ.slots) σ.slots) DT))<| evR (isU (getS (fbSl caps cs (getS σ.slots) σ.slots) t))<|
     K ⟨(DT,.df f cs [.agg []])::(DT,.df f cs [])::(fbSl caps cs (getS σ.slots) σ.slots++(t,.v (.c (.fz f cs)))::σ.slots),setW σ.heap (goneAll caps),fresh⟩
   | none=>none)
  | _=>none)
 | _=>none
theorem evDefer_ok {M:Mach}{ti:Types}{E:EnvZ γ}(hE:E.ok M ti r) {x:Operand}{fresh:Nat}{σ:St}{K:St→Option γ}{P:St→Prop}(hK:∀σ,K σ=some r→P σ) (e:evDefer E x fresh σ K=some r):deferP M ti x fresh σ P:=by
 unfold evDefer at e
 split at e
 ·rename_i t
  split at e
  ·rename_i f caps ht
   split at e
   ·rename_i cs hb
    obtain⟨h1,e⟩:=evR_some e
    obtain⟨h2,e⟩:=evR_some e
    obtain⟨h3,e⟩:=evR_some e
    obtain⟨h4,e⟩:=evR_some e
    obtain⟨h5,e⟩:=evR_some e
    obtain⟨h6,e⟩:=evR_some e
    exact deferB (hE.df h1) ht (fun e=>by subst e;simp[notB]at h2) h3 hb (isDf_ok h4) (isU_ok h5) (isU_ok h6) (hK _ e)
   ·cases e
  ·cases e
 ·cases e
noncomputable def evOpsZ (E:EnvZ γ) (ti:Types) (nt:Nat) (ops:Array Oper) (base:Nat):List Oper→Nat→St→(St→Option γ)→Option γ
 | [],i,σ,K=>K ⟨σ.slots,σ.heap,base+32*i⟩
 | o::l,i,σ,K=>evGuardP ops o σ .e (fun _ σ=>match dfCall o with
    | some x=>evDefer E x (base+32*i) σ fun σ2=>evOpsZ E ti nt ops base l (i+1) σ2 K
    | none=>evStepQ E ti nt o (base+32*i) σ fun σ2=>evOpsZ E ti nt ops base l (i+1) σ2 K)
   (fun _ σ=>evR (dstB nt o.dst) (evOpsZ E ti nt ops base l (i+1) ⟨putS σ.slots o.dst (.t []),σ.heap,σ.next⟩ K))
theorem evOpsZ_ok {M:Mach}{ti:Types}{E:EnvZ γ}(hE:E.ok M ti r) {nt:Nat}{ops:Array Oper}{base:Nat}{K:St→Option γ}{P:St→Prop}(hK:∀σ,K σ=some r→P σ):
  ∀(l:List Oper) (i:Nat) (σ:St),evOpsZ E ti nt ops base l i σ K=some r→execOps M ti nt ops base l i σ P
 | [],_,_,e=>hK _ e
 | o::l,i,σ,e=>by
  unfold evOpsZ at e
  unfold execOps
  exact evGuardP_ok (P1:=fun σ1=>match dfCall o with
    | some x=>deferP M ti x (base+32*i) σ1 fun σ2=>execOps M ti nt ops base l (i+1) σ2 P
    | none=>stepOp M ti nt o (base+32*i) σ1 fun σ2=>execOps M ti nt ops base l (i+1) σ2 P) (P0:=fun σ1=>dstOK nt o.dst (execOps M ti nt ops base l (i+1) ⟨putS σ1.slots o.dst (.t []),σ1.heap,σ1.next⟩ P))
   (fun p e=>by
    split at e
    ·rename_i x hx
     skip
     exact evDefer_ok hE (fun σ2 e=>evOpsZ_ok hE hK l (i+1) σ2 e) e
    ·rename_i hx
     skip
     exact evStepZ_ok hE (fun σ2 e=>evOpsZ_ok hE hK l (i+1) σ2 e) (evStepQ_some e)) (fun p e=>by
    obtain⟨h1,e⟩:=evR_some e
    exact dstB_ok h1 (evOpsZ_ok hE hK l (i+1) _ e)) e
inductive Hz where
 | slot (t:Nat)
 | cell (t j:Nat)
def Hz.id (σ:St):Hz→Option Id
 | .slot t=>(match getS σ.slots t with
  | .v (.c (.ow i))=>some i
  | _=>none)
 | .cell t j=>(match getS σ.slots t with
  | .v (.c (.ptr i o))=>(match getH σ.heap i with
   | some (.cells cs)=>(match nthC cs (o+j)with
    | .ow i=>some i
    | _=>none)
   | _=>none)
  | _=>none)
def ghZ:List Hz→St→(St→Option γ)→Option γ
 | [],σ,K=>K σ
 | x::l,σ,K=>(match x.id σ with
  | some i=>evGh [.freeze i] σ fun σ=>ghZ l σ K
  | none=>ghZ l σ K)
theorem ghZ_ok:∀{l:List Hz}{σ:St}{K:St→Option γ},ghZ l σ K=some r→∃σ',Weak σ σ'∧K σ'=some r
 | [],σ,K,e=>⟨σ,Weak.refl _,e⟩
 | x::l,σ,K,e=>by
  unfold ghZ at e
  split at e
  ·obtain⟨σ1,hw,e⟩:=gh_weak (evGh_ok (P:=fun σ=>ghZ l σ K=some r) (fun σ h=>h) e)
   obtain⟨σ2,hw2,e⟩:=ghZ_ok e
   exact⟨σ2,Weak.trans hw hw2,e⟩
  ·exact ghZ_ok e
noncomputable def evCallN (E:EnvZ γ) (n:FuncId) (args:List V1) (m:List Id) (fresh:Nat) (σ:St) (K:St→Option γ):Option γ:=
 nfN fresh fun fresh=>lst m fun m=>evR (nodupQ m)<| rqL (rqV (inQ m)) args fun as'=>rqObjs σ.heap (inQ m) m fun os'=>
   (match E.fn n as' os' with
    | some (.ret x)=>evR (kindsQ os' x.post)<| evR (Nat.ble x.new.length 31)<| backK m fresh x.post x.new σ.heap fun h=>K ⟨σ.slots,h,σ.next⟩
    | _=>none)
theorem evCallN_ok {M:Mach}{ti:Types}{E:EnvZ γ}(hE:E.ok M ti r) {n:FuncId}{args:List V1}{m:List Id}{fresh:Nat}{σ:St}{K:St→Option γ}{P:St→Prop}(hK:∀σ,K σ=some r→P σ) (e:evCallN E n args m fresh σ K=some r):callFn M none fresh σ n args P:=by
 unfold evCallN at e
 rw[nfN_eq]at e
 have e:=lst_eq e
 obtain⟨h3,e⟩:=evR_some e
 obtain⟨targs,hargs,e⟩:=rqL_bk (rqV_bk (inQ_bk m fresh)) _ _ e
 obtain⟨pre,⟨g1,g2⟩,e⟩:=rqObjs_bk (inQ_bk m fresh) _ _ e
 split at e
 ·rename_i x hx
  obtain⟨h4,e⟩:=evR_some e
  obtain⟨h5,e⟩:=evR_some e
  refine⟨m,targs,pre,_,hE.fn _ _ _ _ hx,hargs,g1,nodupQ_ok h3,g2,?_⟩
  rintro res post new ⟨rfl,rfl,rfl⟩
  exact⟨⟨kindsQ_ok h4,Nat.le_of_ble_eq_true h5⟩,hK _ (backK_ok e)⟩
 ·cases e
def keepK (s:Slots):List Nat→List (Nat×AV)
 | []=>[]
 | t::l=>(t,s t)::keepK s l
theorem keepK_get (s:Slots):∀(l:List Nat) (t:Nat),getS (keepK s l) t= .u∨getS (keepK s l) t=s t
 | [],_=>.inl rfl
 | k::l,t=>by
  unfold keepK
  rw[getS_cons]
  simp only[]
  by_cases h:t=k
  ·rw[if_pos h];subst h;exact .inr rfl
  ·rw[if_neg h];exact keepK_get s l t
noncomputable def evRange (E:EnvZ γ) (n:FuncId) (cap:List Id) (ps:Array Tmp) (assign body:Code) (nt:Nat) (σ:St) (K:KtZ γ):Option γ:=
 evCallN E n (V1.c (.yl (.loc σ.next))::cap.map fun i=>V1.c (.ptr i 0)) (reachQ (setH σ.heap (.loc σ.next) (.rnd (fun _=>⟨ps,assign,body,nt⟩) (keepK (getS σ.slots) E.kp))) 200 (.loc σ.next::cap) [])
  (σ.next+32) ⟨σ.slots,setH σ.heap (.loc σ.next) (.rnd (fun _=>⟨ps,assign,body,nt⟩) (keepK (getS σ.slots) E.kp)),σ.next+64⟩ fun σ2=>match getH σ2.heap (.loc σ.next)with
   | some (.rnd _ _)=>K .normal ⟨σ2.slots,setH σ2.heap (.loc σ.next) .gone,σ2.next⟩
   | some (.rndX j)=>(match j with
    | none=>K .ret ⟨σ2.slots,setH σ2.heap (.loc σ.next) .gone,σ2.next⟩
    | some id=>K (.exit id) ⟨σ2.slots,setH σ2.heap (.loc σ.next) .gone,σ2.next⟩)
   | _=>none
theorem evRange_ok {M:Mach}{ti:Types}{E:EnvZ γ}(hE:E.ok M ti r) {n:FuncId}{cap:List Id}{ps:Array Tmp}{assign body:Code}{nt:Nat}{g:Operand}{σ:St}{K:KtZ γ}{P:AExit→St→Prop}(hg:opd ti (getS σ.slots) 0 g= .v (.c (.fn n cap))) (hK:∀e σ,K e σ=some r→P e σ)
  (e:evRange E n cap ps assign body nt σ K=some r):rangeP M ti nt g ps assign body σ P:=by
 refine⟨σ,Weak.refl _,?_⟩
 rw[hg]
 refine⟨keepK (getS σ.slots) E.kp,keepK_get _ _,?_⟩
 unfold evRange at e
 refine evCallN_ok hE (fun σ2 e=>?_) e
 split at e
 ·rename_i h;simp only[h];exact hK _ _ e
 ·rename_i h
  simp only[h]
  split at e
  ·exact hK _ _ e
  ·exact hK _ _ e
 ·cases e
def loopZ (b:St→KtZ γ→Option γ) (K:KtZ γ):Nat→St→Option γ
 | 0,_=>none
 | n+1,σ=>b σ fun e σ'=>match e with
  | .normal=>loopZ b K n σ'
  | .exit id=>K (.exit id) σ'
  | .ret=>K .ret σ'
noncomputable def evCodeZ (E:EnvZ γ) (dz:Array Oper→St→(St→Option γ)→Option γ) (hi:Nat→List Hz) (ti:Types) (nt N:Nat):Nat→Code→St→KtZ γ→Option γ
 | _,.skip,σ,K=>K .normal σ
 | _,.region _ ops draw,σ,K=>(match draw with
  | false=>evOpsZ E ti nt ops σ.next ops.toList 0 σ fun σ'=>K .normal σ'
  | true=>dz ops σ fun σ'=>K .normal σ')
 | p,.seq a b,σ,K=>evCodeZ E dz hi ti nt N (2*p) a σ fun e σ'=>match e with
  | .normal=>ghZ (hi (2*p+1)) σ' fun σ'=>evCodeZ E dz hi ti nt N (2*p+1) b σ' K
  | .exit id=>K (.exit id) σ'
  | .ret=>K .ret σ'
 | p,.cond c a b,σ,K=>evB (opd ti (getS σ.slots) 0 c) fun q=>(match q with
  | true=>evCodeZ E dz hi ti nt N (2*p) a σ K
  | false=>evCodeZ E dz hi ti nt N (2*p+1) b σ K)
 | p,.block id c,σ,K=>evCodeZ E dz hi ti nt N (2*p) c σ fun e σ'=>match e with
  | .normal=>K .normal σ'
  | .exit id'=>(match Nat.beq id' id with
   | true=>K .normal σ'
   | false=>K (.exit id') σ')
  | .ret=>K .ret σ'
 | p,.loop c,σ,K=>loopZ (fun σ K=>evCodeZ E dz hi ti nt N (2*p) c σ K) K N σ
 | _,.exit id,σ,K=>K (.exit id) σ
 | _,.ret,σ,K=>K .ret σ
 | _,.rangeFunc g ps assign body,σ,K=>(match opd ti (getS σ.slots) 0 g with
  | .v (.c (.fn n cap))=>evRange E n cap ps assign body nt σ K
  | _=>none)
 | _,_,_,_=>none
theorem codeZ_ok {M:Mach}{ti:Types}{E:EnvZ γ}(hE:E.ok M ti r) {dz:Array Oper→St→(St→Option γ)→Option γ}{dr:Draw}{hi:Nat→List Hz}{nt N:Nat}(hd:∀ops σ (K:St→Option γ) (P:St→Prop),(∀σ,K σ=some r→P σ)→dz ops σ K=some r→dr ops σ P):
  ∀(c:Code) (p:Nat) (σ:St) (K:KtZ γ) (P:AExit→St→Prop),(∀e σ,K e σ=some r→P e σ)→evCodeZ E dz hi ti nt N p c σ K=some r→exec M ti nt dr c σ P
 | .skip,_,_,_,_,hK,e=>hK _ _ e
 | .exit _,_,_,_,_,hK,e=>hK _ _ e
 | .ret,_,_,_,_,hK,e=>hK _ _ e
 | .region id ops draw,p,σ,K,P,hK,e=>by
  cases draw with
  | false=>exact evOpsZ_ok hE (fun σ e=>hK _ _ e) _ _ _ e
  | true=>exact hd _ _ _ _ (fun σ e=>hK _ _ e) e
 | .seq a b,p,σ,K,P,hK,e=>by
  refine (M.lock_iff _).2 (.inr ⟨fun σ''=>exec M ti nt dr b σ'' P,?_,fun _ h=>h⟩)
  refine codeZ_ok hE hd a (2*p) σ _ _ (fun e σ h=>?_) e
  cases e with
  | normal=>
   obtain⟨σ',hw,h⟩:=ghZ_ok h
   exact⟨σ',hw,codeZ_ok hE hd b _ _ _ _ hK h⟩
  | exit id=>exact hK _ _ h
  | ret=>exact hK _ _ h
 | .cond c a b,p,σ,K,P,hK,e=>by
  show withB (opd ti (getS σ.slots) 0 c) _
  refine evB_ok (fun q e=>?_) (show evB (opd ti (getS σ.slots) 0 c) _=some r from e)
  cases q with
  | true=>exact codeZ_ok hE hd a _ _ _ _ hK e
  | false=>exact codeZ_ok hE hd b _ _ _ _ hK e
 | .block id c,p,σ,K,P,hK,e=>by
  refine codeZ_ok hE hd c _ σ _ _ (fun e σ h=>?_) e
  cases e with
  | normal=>exact hK _ _ h
  | ret=>exact hK _ _ h
  | exit id'=>
   simp only[]at h ⊢
   split at h
   ·rename_i hb;simp only[hb];exact hK _ _ h
   ·rename_i hb;simp only[hb];exact hK _ _ h
 | .loop c,p,σ,K,P,hK,e=>by
  have main:∀n σ,loopZ (fun σ K=>evCodeZ E dz hi ti nt N (2*p) c σ K) K n σ=some r→unrollP M (fun σ K=>exec M ti nt dr c σ K) P n σ:=by
   intro n
   induction n with
   | zero=>intro σ e;cases e
   | succ n ih=>
    intro σ e
    refine codeZ_ok hE hd c _ σ _ _ (fun e σ h=>?_) e
    cases e with
    | normal=>exact ih _ h
    | exit id=>exact hK _ _ h
    | ret=>exact hK _ _ h
  exact (M.lock_iff _).2 (.inr ⟨N,main N σ e⟩)
 | .rangeFunc g ps assign body,p,σ,K,P,hK,e=>by
  replace e:(match opd ti (getS σ.slots) 0 g with
   | .v (.c (.fn n cap))=>evRange E n cap ps assign body nt σ K
   | _=>none)=some r:=e
  split at e
  ·rename_i n cap hg
   exact (M.lock_iff _).2 (evRange_ok hE hg hK e)
  ·cases e
 | .scope _,_,_,_,_,_,e=>by cases e
 | .label _,_,_,_,_,_,e=>by cases e
 | .goto _,_,_,_,_,_,e=>by cases e
 | .refuse _,_,_,_,_,_,e=>by cases e
end
end Go.AM
namespace Go.AM
open Go Go.RowKit
def guardZ (ops:Array Oper) (o:Oper) (σ:St):Option Bool:=
 match o.guard with
 | none=>some true
 | some (j,want)=>(match (ops[j]?).bind (·.dst)with
  | none=>none
  | some d=>(match getS σ.slots d with
   | .v (.d (.bool c))=>some (match want with
    | true=>c
    | false=>notB c)
   | .t []=>some false
   | _=>none))
theorem guardZ_ok {ops:Array Oper}{o:Oper}{σ:St}{b:Bool}{P1 P0:St→Prop}(h:guardZ ops o σ=some b) (h1:b=true→P1 σ) (h0:b=false→P0 σ):guarded ops o σ P1 P0:=by
 unfold guardZ at h
 unfold guarded
 split at h
 ·rename_i hg;simp only[hg];cases h;exact h1 rfl
 ·rename_i j want hg
  simp only[hg]
  split at h
  ·cases h
  ·rename_i d hd
   simp only[hd]
   split at h
   ·rename_i c hs
    simp only[hs]
    cases h
    cases want<;>cases c
    ·exact h1 rfl
    ·exact h0 rfl
    ·exact h0 rfl
    ·exact h1 rfl
   ·rename_i hs;simp only[hs];cases h;exact h0 rfl
   ·cases h
abbrev Wrs:=List (Id×AObj)
noncomputable def callM (run:CallZ) (n:FuncId) (args:List V1) (m:List Id) (fresh:Nat) (σ:St):Option (List Id×(AV×Wrs ⊕ Value×Wrs)):=
 nfN fresh fun fresh=>lst m fun m=>evR (nodupQ m)<| rqL (rqV (inQ m)) args fun us=>rqObjs σ.heap (inQ m) m fun os=>(match run n us os with
  | some (.ret x)=>evR (kindsQ os x.post)<| evR (Nat.ble x.new.length 31)<| rqA (backQ m fresh) x.res fun v=>rnW (backQ m fresh) m x.post fun w1=>rnNew (backQ m fresh) fresh 0 x.new fun w2=>some (m,.inl (v,w1++w2))
  | some (.pan v post new)=>evR (kindsQ os post)<| evR (Nat.ble new.length 31)<| rnW (backQ m fresh) m post fun w1=>rnNew (backQ m fresh) fresh 0 new fun w2=>some (m,.inr (v,w1++w2))
  | none=>none)
noncomputable def callD (run:CallZ) (ti:Types) (c:Call) (f:Operand) (fresh:Nat) (σ:St):Option (List Id×(AV×Wrs ⊕ Value×Wrs)):=
 match calleeZ (opd ti (getS σ.slots) 0 f)with
 | none=>none
 | some (n,as',bs)=>(match vals0 (opsArgs ti (getS σ.slots) c.args.toList c.argTypes.toList)with
  | none=>none
  | some xs=>callM run n (as'++(xs++bs)) (reachQ σ.heap 200 (idsVs2 (as'++(xs++bs))) []) fresh σ)
theorem callD_ok {P:Program}{I:Inv}{run:CallZ}(hr:∀f args pre e,run f args pre=some e→e.ok P I f args pre) {ti:Types}{c:Call}{f:Operand}{fresh:Nat}{σ:St}{x:List Id×(AV×Wrs ⊕ Value×Wrs)}(e:callD run ti c f fresh σ=some x):
    ∃(n:FuncId) (as' bs xs targs:List V1) (pre:List AObj),calleeZ (opd ti (getS σ.slots) 0 f)=some (n,as',bs)∧vals0 (opsArgs ti (getS σ.slots) c.args.toList c.argTypes.toList)=some xs∧as'++(xs++bs)=targs.map (V1.ren (renM x.1 fresh))∧x.1.length=pre.length∧x.1.Nodup∧
      (∀(j:Nat) i o,x.1[j]?=some i→pre[j]?=some o→getH σ.heap i=some (o.ren (renM x.1 fresh)))∧
      ((∃y:Ret,Trip P I n targs pre y.res y.post y.new∧allKinds pre y.post∧y.new.length≤31∧x.2= .inl (y.res.ren (renM x.1 fresh),wrM x.1 (renM x.1 fresh) y.post++wrNew fresh (renM x.1 fresh) 0 y.new))∨
       (∃v post new,TripP P I n targs pre v post new∧allKinds pre post∧new.length≤31∧x.2= .inr (v,wrM x.1 (renM x.1 fresh) post++wrNew fresh (renM x.1 fresh) 0 new))):=by
  unfold callD at e
  split at e
  · cases e
  rename_i n as' bs h1
  split at e
  · cases e
  rename_i xs h2
  generalize reachQ σ.heap 200 (idsVs2 (as'++(xs++bs))) []=m at e
  unfold callM at e
  rw[nfN_eq]at e
  have e:=lst_eq e
  obtain⟨h3,e⟩:=evR_some e
  obtain⟨targs,hargs,e⟩:=rqL_bk (rqV_bk (inQ_bk m fresh)) _ _ e
  obtain⟨pre,⟨g1,g2⟩,e⟩:=rqObjs_bk (inQ_bk m fresh) _ _ e
  split at e
  · rename_i y hy
    obtain⟨h4,e⟩:=evR_some e
    obtain⟨h5,e⟩:=evR_some e
    have e:=rnNew_fw (backQ_fw m fresh) fresh _ 0 _ (rnW_fw (backQ_fw m fresh) _ m _ (rqA_fw (backQ_fw m fresh) _ _ e))
    cases e
    exact⟨n,as',bs,xs,targs,pre,h1,h2,hargs,g1,nodupQ_ok h3,g2,.inl ⟨y,hr _ _ _ _ hy,kindsQ_ok h4,Nat.le_of_ble_eq_true h5,rfl⟩⟩
  · rename_i v post new hy
    obtain⟨h4,e⟩:=evR_some e
    obtain⟨h5,e⟩:=evR_some e
    have e:=rnNew_fw (backQ_fw m fresh) fresh _ 0 _ (rnW_fw (backQ_fw m fresh) _ m _ e)
    cases e
    exact⟨n,as',bs,xs,targs,pre,h1,h2,hargs,g1,nodupQ_ok h3,g2,.inr ⟨v,post,new,hr _ _ _ _ hy,kindsQ_ok h4,Nat.le_of_ble_eq_true h5,rfl⟩⟩
  · cases e
def valCallee (o:Oper):Option (Call×Operand):=
 match o.op with
 | .call c=>(match c.callee with
  | .value f=>some (c,f)
  | _=>none)
 | _=>none
theorem valCallee_some {o:Oper}{c:Call}{f:Operand}(h:valCallee o=some (c,f)):o.op= .call c∧c.callee= .value f:=by
 unfold valCallee at h
 split at h
 ·rename_i c' ho
  split at h
  ·rename_i f' hf;cases h;exact⟨ho,hf⟩
  ·cases h
 ·cases h
inductive DR where
 | ok (σ:St) (fps:List Fp)
 | pan (v:Value) (h:List (Id×AObj))
noncomputable def evDrawD (b:Bool) (E:EnvO Out) (run:CallZ) (ti:Types) (nt:Nat) (ops:Array Oper) (base:Nat):List Oper→Nat→St→List Fp→Option DR
 | [],i,σ,fps=>some (.ok ⟨σ.slots,σ.heap,base+32*i⟩ fps)
 | o::l,i,σ,fps=>match guardZ ops o σ with
  | none=>none
  | some false=>evR (dstB nt o.dst) (evDrawD b E run ti nt ops base l (i+1) ⟨putS σ.slots o.dst (.t []),σ.heap,σ.next⟩ (fps++[([],[])]))
  | some true=>evR (storeB o)<| evR (dstB nt o.dst)<| (match valCallee o with
   | some (c,f)=>(match callD run ti c f (base+32*i) σ with
    | some (m,.inl (v,wr))=>nfIf b (nfL nfP) (setW σ.heap wr) fun h=>evDrawD b E run ti nt ops base l (i+1) ⟨putS σ.slots o.dst v,h,σ.next⟩ (fps++[(m,wr.map (·.1))])
    | some (m,.inr (v,wr))=>evR (isNone o.guard)<| evR (panB ops i fps m)<| some (.pan v (setW σ.heap wr))
    | none=>none)
   | none=>(match evOpP E ti o (base+32*i) (getS σ.slots) (getH σ.heap) .e fun _ out=>some out with
    | some out=>nfIf b nfA out.val fun v=>nfIf b (nfL nfWr) out.wr fun wr=>nfIf b (nfL nfP) (setW σ.heap wr) fun h=>evDrawD b E run ti nt ops base l (i+1) ⟨putS σ.slots o.dst v,h,σ.next⟩ (fps++[(out.rd,wr.map (·.1))])
    | none=>none))
theorem callD_out {M:Mach}{run:CallZ}(hr:∀f args pre e,run f args pre=some e→e.ok M.P M.I f args pre) {ti:Types}{o:Oper}{c:Call}{f:Operand}(ho:o.op= .call c) (hf:c.callee= .value f) {fresh:Nat}{σ:St}{m:List Id}{v:AV}{wr:Wrs}(e:callD run ti c f fresh σ=some (m,.inl (v,wr))) {P:Out→Prop}(hP:P ⟨v,m,wr⟩):
  opOut M ti o fresh (getS σ.slots) (getH σ.heap) P:=by
 obtain⟨n,as',bs,xs,targs,pre,h1,h2,k1,k2,k3,k4,⟨y,k5,k6,k7,k8⟩ | ⟨v',post,new,k5,k6,k7,k8⟩⟩:=callD_ok hr e
 ·simp only[Sum.inl.injEq,Prod.mk.injEq]at k8
  obtain⟨rfl,rfl⟩:=k8
  unfold opOut
  rw[ho]
  simp only[]
  rw[hf]
  refine .inr (.inl ⟨[],?_⟩)
  show opOut0 M ti o fresh (getS σ.slots) (getH σ.heap) _
  unfold opOut0
  rw[ho]
  simp only[]
  rw[hf]
  refine outCallV_of (n:=n) (ays:=as') (bs:=bs) (w:=true) (xs:=xs) ?_ h2 ⟨m,targs,pre,y.res,y.post,y.new,k5,k1,k2,k3,k4,k6,k7,?_⟩
  ·unfold calleeZ at h1
   split at h1
   ·rename_i h;rw[h];exact h1
   ·rename_i h;rw[h];exact h1
   ·cases h1
  ·simpa using hP
 ·cases k8
def PanAt (M:Mach) (ti:Types) (ops:Array Oper) (base i:Nat) (c:Call) (f:Operand) (v0:Value) (hl:List (Id×AObj)) (σ':St) (fps:List Fp):Prop:=
 ∃(n:FuncId) (as' bs xs:List V1) (m:List Id) (targs:List V1) (pre:List AObj) (post new:List AObj),panB ops i fps m=true∧calleeZ (opd ti (getS σ'.slots) 0 f)=some (n,as',bs)∧valsB (opsArgs ti (getS σ'.slots) c.args.toList c.argTypes.toList) xs∧
  TripP M.P M.I n targs pre v0 post new∧as'++(xs++bs)=targs.map (V1.ren (renM m (base+32*i)))∧m.length=pre.length∧m.Nodup∧
  (∀(j:Nat) i' o,m[j]?=some i'→pre[j]?=some o→getH σ'.heap i'=some (o.ren (renM m (base+32*i))))∧allKinds pre post∧new.length≤31∧
  hl=setW σ'.heap (wrM m (renM m (base+32*i)) post++wrNew (base+32*i) (renM m (base+32*i)) 0 new)
theorem evDrawD_ok {b:Bool}{M:Mach}{E:EnvO Out}{run:CallZ}{ti:Types}(hE:E.ok M.P M.I ti) (hr:∀f args pre e,run f args pre=some e→e.ok M.P M.I f args pre) {nt:Nat}{ops:Array Oper}{base:Nat}:
  ∀(l:List Oper) (i:Nat) (σ:St) (fps:List Fp) (x:DR),evDrawD b E run ti nt ops base l i σ fps=some x→
   (∀σ' fps',x= .ok σ' fps'→∀P:St→List Fp→Prop,P σ' fps'→drawOps M ti nt ops base l i σ fps P)∧
   (∀v h,x= .pan v h→∃(j:Nat) (o:Oper) (c:Call) (f:Operand),l[j]?=some o∧o.guard=none∧o.op= .call c∧c.callee= .value f∧
    ∀P:St→List Fp→Prop,(∀σ' fps',PanAt M ti ops base (i+j) c f v h σ' fps'→P σ' fps')→drawOps M ti nt ops base (l.take j) i σ fps P)
 | [],i,σ,fps,x,e=>by
  unfold evDrawD at e
  cases e
  exact⟨fun σ' fps' h P hP=>by cases h;exact hP,fun v h h'=>by cases h'⟩
 | o::l,i,σ,fps,x,e=>by
  have skip:∀(b:Bool) (σ2:St) (fp:Fp),guardZ ops o σ=some b→(∀Q:St→Prop,Q σ→guarded ops o σ (fun σ1=>if b then Q σ1 else True) (fun σ1=>if b then True else Q σ1)):=fun b σ2 fp hg Q hQ=>guardZ_ok hg (fun h=>by subst h;exact hQ) (fun h=>by subst h;exact hQ)
  unfold evDrawD at e
  simp only[nfIf_eq nfA_eq,nfIf_eq (nfL_eq nfWr_eq),nfIf_eq (nfL_eq nfP_eq)]at e
  split at e
  ·cases e
  ·rename_i hg
   obtain⟨h1,e⟩:=evR_some e
   obtain⟨A,B⟩:=evDrawD_ok hE hr l (i+1) _ _ x e
   refine⟨fun σ' fps' hx P hP=>?_,fun v h hx=>?_⟩
   ·unfold drawOps
    exact guardZ_ok hg (fun h=>by cases h) (fun _=>dstB_ok h1 (A σ' fps' hx P hP))
   ·obtain⟨j,o',c,f,g1,g2,g3,g4,g5⟩:=B v h hx
    refine⟨j+1,o',c,f,by simpa using g1,g2,g3,g4,fun P hP=>?_⟩
    show drawOps M ti nt ops base (o::l.take j) i σ fps P
    unfold drawOps
    exact guardZ_ok hg (fun h=>by cases h) (fun _=>dstB_ok h1 (g5 P fun σ' fps' hp=>hP σ' fps' (by rwa [show i+(j+1)=i+1+j from by omega])))
  ·rename_i hg
   obtain⟨h1,e⟩:=evR_some e
   obtain⟨h2,e⟩:=evR_some e
   have go:∀out:Out,(∀P:Out→Prop,P out→opOut M ti o (base+32*i) (getS σ.slots) (getH σ.heap) P)→evDrawD b E run ti nt ops base l (i+1) ⟨putS σ.slots o.dst out.val,setW σ.heap out.wr,σ.next⟩ (fps++[(out.rd,out.wr.map (·.1))])=some x→
     (∀σ' fps',x= .ok σ' fps'→∀P:St→List Fp→Prop,P σ' fps'→drawOps M ti nt ops base (o::l) i σ fps P)∧
     (∀v h,x= .pan v h→∃(j:Nat) (o1:Oper) (c:Call) (f:Operand),(o::l)[j]?=some o1∧o1.guard=none∧o1.op= .call c∧c.callee= .value f∧
      ∀P:St→List Fp→Prop,(∀σ' fps',PanAt M ti ops base (i+j) c f v h σ' fps'→P σ' fps')→drawOps M ti nt ops base ((o::l).take j) i σ fps P):=by
    intro out hout e
    obtain⟨A,B⟩:=evDrawD_ok hE hr l (i+1) _ _ x e
    refine⟨fun σ' fps' hx P hP=>?_,fun v h hx=>?_⟩
    ·unfold drawOps
     exact guardZ_ok hg (fun _=>storeB_ok h1 (dstB_ok h2 (hout (fun out=>drawOps M ti nt ops base l (i+1) ⟨putS σ.slots o.dst out.val,setW σ.heap out.wr,σ.next⟩ (fps++[(out.rd,out.wr.map (·.1))]) P) (A σ' fps' hx P hP)))) (fun h=>by cases h)
    ·obtain⟨j,o',c,f,g1,g2,g3,g4,g5⟩:=B v h hx
     refine⟨j+1,o',c,f,by simpa using g1,g2,g3,g4,fun P hP=>?_⟩
     show drawOps M ti nt ops base (o::l.take j) i σ fps P
     unfold drawOps
     exact guardZ_ok hg (fun _=>storeB_ok h1 (dstB_ok h2 (hout (fun out=>drawOps M ti nt ops base (l.take j) (i+1) ⟨putS σ.slots o.dst out.val,setW σ.heap out.wr,σ.next⟩ (fps++[(out.rd,out.wr.map (·.1))]) P) (g5 P fun σ' fps' hp=>hP σ' fps' (by rwa [show i+(j+1)=i+1+j from by omega]))))) (fun h=>by cases h)
   split at e
   ·rename_i c f hv
    obtain⟨ho,hf⟩:=valCallee_some hv
    split at e
    ·rename_i m v wr hcall
     exact go ⟨v,m,wr⟩ (fun P hP=>callD_out hr ho hf hcall hP) e
    ·rename_i m v wr hcall
     obtain⟨h3,e⟩:=evR_some e
     obtain⟨h4,e⟩:=evR_some e
     cases e
     refine⟨fun σ' fps' hx=>(by cases hx),fun v' h hx=>?_⟩
     cases hx
     have hgd:o.guard=none:=by cases hq:o.guard with | none=>rfl | some y=>rw[hq]at h3;cases h3
     refine⟨0,o,c,f,rfl,hgd,ho,hf,fun P hP=>?_⟩
     show P ⟨σ.slots,σ.heap,base+32*i⟩ fps
     refine hP _ _ ?_
     obtain⟨n,as',bs,xs,targs,pre,q1,q2,k1,k2,k3,k4,⟨y,k5,k6,k7,k8⟩ | ⟨v',post,new,k5,k6,k7,k8⟩⟩:=callD_ok hr hcall
     ·cases k8
     ·simp only[Sum.inr.injEq,Prod.mk.injEq]at k8
      obtain⟨rfl,rfl⟩:=k8
      exact⟨n,as',bs,xs,m,targs,pre,post,new,h4,q1,.inr q2,k5,k1,k2,k3,k4,k6,k7,rfl⟩
    ·cases e
   ·split at e
    ·rename_i out hout
     exact go out (fun P hP=>evOpP_ok hE (r:=out) (fun p o' h=>by cases h;exact hP) hout) e
    ·cases e
end Go.AM
namespace Go.AM
open Go Go.RowKit
section
variable {γ:Type}{r:γ}
noncomputable def drawD (E:EnvZ γ) (O:EnvO Out) (ti:Types) (nt:Nat) (ops:Array Oper) (σ:St) (K:St→Option γ):Option γ:=
 match evDrawD E.nf O E.fn ti nt ops σ.next ops.toList 0 σ []with
 | some (.ok σ' fps)=>evR (drawB ops fps) (K σ')
 | some (.pan v h)=>evR (isDfA (getS σ.slots DT))<| E.ab v (keepT ops σ.slots) h (σ.next+32*ops.size)
 | none=>none
theorem drawD_ok {M:Mach}{ti:Types}{E:EnvZ γ}(hE:E.ok M ti r) {O:EnvO Out}(hO:O.ok M.P M.I ti) {nt:Nat}(ops:Array Oper) (σ:St) (K:St→Option γ) (P:St→Prop) (hK:∀σ,K σ=some r→P σ) (e:drawD E O ti nt ops σ K=some r):execDrawP ti M nt ops σ P:=by
 unfold drawD at e
 split at e
 ·rename_i σ' fps hx
  obtain⟨h1,e⟩:=evR_some e
  exact .inl ((evDrawD_ok hO hE.fn _ _ _ _ _ hx).1 σ' fps rfl _ ⟨(M.lock_iff _).2 h1,hK _ e⟩)
 ·rename_i v h hx
  obtain⟨h1,e⟩:=evR_some e
  obtain⟨j,o,c,f,g1,g2,g3,g4,g5⟩:=(evDrawD_ok hO hE.fn _ _ _ _ _ hx).2 v h rfl
  refine .inr ⟨j,o,c,f,by simpa using g1,g2,g3,g4,h1,g5 _ fun σ' fps' hp=>?_⟩
  rw[Nat.zero_add]at hp
  obtain⟨n,as',bs,xs,m,targs,pre,post,new,q1,q2,q3,q4,q5,q6,q7,q8,q9,q10,rfl⟩:=hp
  exact⟨n,as',bs,xs,m,targs,pre,v,post,new,(M.lock_iff _).2 q1,q2,q3,q4,q5,q6,q7,q8,q9,q10,hE.ab _ _ _ _ e⟩
 ·cases e
end
noncomputable def evLeft (np:Nat) (h:List (Id×AObj)) (nx:Nat):Option (List AObj×List AObj):=
 lst (locsOf (reachQ h 200 (extsL 0 np) [])) fun nm=>evR (nodupQ nm)<| rqObjs h (outQ nm) (extsL 0 np) fun ps=>rqObjs h (outQ nm) nm fun ns=>some (ps,ns)
theorem evLeft_ok {np:Nat}{h:List (Id×AObj)}{nx:Nat}{x:List AObj×List AObj}(h0:evLeft np h nx=some x):FinP h nx x.1 x.2:=by
 unfold evLeft at h0
 have e:=lst_eq h0
 generalize reachQ h 200 (extsL 0 np) []=m at e
 obtain⟨h1,e⟩:=evR_some e
 obtain⟨ps,h3,e⟩:=rqObjs_bk (outQ_bk _ nx) _ _ e
 obtain⟨ns,h4,e⟩:=rqObjs_bk (outQ_bk _ nx) _ _ e
 cases e
 exact⟨locsOf m,nodupB_iff.2 (nodupQ_ok h1),h3.post,h4.new,handOK_of m⟩
noncomputable def evPan (np:Nat) (v:Value) (s:List (Nat×AV)) (h:List (Id×AObj)) (nx:Nat):Option En:=
 evR (isDf (getS s DT))<| (match evLeft np h nx with
  | some x=>some (.pan v x.1 x.2)
  | none=>none)
theorem evPan_ok {np:Nat}{v:Value}{s:List (Nat×AV)}{h:List (Id×AObj)}{nx:Nat}{e:En}(h0:evPan np v s h nx=some e):∃post new,e= .pan v post new∧getS s DT= .df 0 [] []∧FinP h nx post new:=by
 unfold evPan at h0
 obtain⟨h1,h0⟩:=evR_some h0
 split at h0
 ·rename_i x hx
  cases h0
  exact⟨_,_,rfl,isDf_ok h1,evLeft_ok hx⟩
 ·cases h0
structure RunZ where
 fns:Nat→Option Func
 ext:CallZ
 frz:Nat→Bool
 lit:Nat→Bool
 sok:TypeId→Bool
 hi:Nat→Nat→List Hz
 rounds:Nat
 md:Nat→Nat
 kp:Nat→List Nat
 nf:Bool
structure RunZ.ok (P:Program) (I:Inv) (ti:Types) (W:RunZ):Prop where
 fns:∀f fn,W.fns f=some fn→P.funcs[f]?=some fn∧(fn.name== "runtime.NumGoroutine")=false
 ext:∀f args pre e,W.ext f args pre=some e→e.ok P I f args pre
 sok:Sok P ti W.sok
def CallZ.ok (P:Program) (I:Inv) (run:CallZ):Prop:=∀f args pre e,run f args pre=some e→e.ok P I f args pre
section
variable {γ:Type}{r:γ}
def envZ (W:RunZ) (run:CallZ) (yl:RoundZ) (f:Nat) (df:Bool) (ab:Value→List (Nat×AV)→List (Id×AObj)→Nat→Option γ):EnvZ γ where
 ds:=fun _ d k=>k d
 el:=fun _ _ _ _=>0
 own:=true
 sok:=W.sok
 call:=fun f args pre k=>match run f args pre with
  | some (.ret x)=>k 0 x
  | _=>none
 frz:=W.frz f
 nolit:=notB (W.lit f)
 fn:=run
 ab:=ab
 df:=df
 yl:=yl
 kp:=W.kp f
 nf:=W.nf
def noAb:Value→List (Nat×AV)→List (Id×AObj)→Nat→Option γ:=fun _ _ _ _=>none
def envO (W:RunZ) (f:Nat):EnvO Out where
 ds:=fun _ d k=>k d
 el:=fun _ _ _ _=>0
 own:=true
 sok:=W.sok
 call:=fun _ _ _ _=>none
 frz:=W.frz f
 nolit:=notB (W.lit f)
theorem envO_ok {P:Program}{I:Inv}{ti:Types}{W:RunZ}(hW:W.ok P I ti) (f:Nat):(envO W f).ok P I ti:=⟨fun _ _ _ _ h=>h,hW.sok,fun _ _ _ _ _ h=>by cases h⟩
theorem envZ_ok {P:Program}{I:Inv}{ti:Types}{W:RunZ}(hW:W.ok P I ti) {run:CallZ}(hr:run.ok P I) {yl:RoundZ}(hy:yl.ok P I) {f:Nat}{df:Bool}{ab:Value→List (Nat×AV)→List (Id×AObj)→Nat→Option γ}{M:Mach}(hP:M.P=P) (hI:M.I=I)
  (hdf:df=true→M.cl=true) (hab:∀v s h nx,ab v s h nx=some r→M.pn v s h nx):(envZ W run yl f df ab).ok M ti r:=
 ⟨⟨fun _ _ _ _ h=>h,by rw[hP];exact hW.sok,by
  rw[hP,hI]
  intro f args pre k r hr'
  simp only[envZ]at hr'
  split at hr'
  ·rename_i x hx;exact⟨0,x.res,x.post,x.new,hr _ _ _ _ hx,hr'⟩
  ·cases hr'⟩,by rw[hP,hI];exact hr,hab,hdf,by rw[hP,hI];exact hy⟩
noncomputable def codeZ (W:RunZ) (ti:Types) (run:CallZ) (yl:RoundZ) (f:Nat) (df:Bool) (ab:Value→List (Nat×AV)→List (Id×AObj)→Nat→Option γ) (hi:Nat→List Hz) (nt:Nat) (c:Code) (σ:St) (K:KtZ γ):Option γ:=
 evCodeZ (envZ W run yl f df ab) (drawD (envZ W run yl f df ab) (envO W f) ti nt) hi ti nt W.rounds 1 c σ K
theorem codeZ_run {P:Program}{I:Inv}{ti:Types}{W:RunZ}(hW:W.ok P I ti) {run:CallZ}(hr:run.ok P I) {yl:RoundZ}(hy:yl.ok P I) {f:Nat}{df:Bool}{ab:Value→List (Nat×AV)→List (Id×AObj)→Nat→Option γ}{hi:Nat→List Hz}{nt:Nat}{c:Code}{σ:St}{K:KtZ γ}{M:Mach}(hP:M.P=P) (hI:M.I=I)
  (hdf:df=true→M.cl=true) (hab:∀v s h nx,ab v s h nx=some r→M.pn v s h nx) {Q:AExit→St→Prop} (hK:∀e σ,K e σ=some r→Q e σ) (e:codeZ W ti run yl f df ab hi nt c σ K=some r):exec M ti nt (execDrawP ti M nt) c σ Q:=
 codeZ_ok (envZ_ok hW hr hy hP hI hdf hab) (dr:=execDrawP ti M nt) (fun ops σ K P hK e=>drawD_ok (envZ_ok hW hr hy hP hI hdf hab) (by rw[hP,hI];exact envO_ok hW f) ops σ K P hK e) c 1 σ K Q hK e
end
def oneV:Value→Bool
 | .nilIface=>true
 | .iface _ _=>true
 | _=>false
noncomputable def closK (np:Nat):KtZ (List AObj×List AObj):=fun e σ=>match e with
 | .exit _=>none
 | .normal=>evR (isDf (getS σ.slots DT)) (evLeft np σ.heap σ.next)
 | .ret=>evR (isDf (getS σ.slots DT)) (evLeft np σ.heap σ.next)
noncomputable def closC (W:RunZ) (ti:Types) (run:CallZ) (yl:RoundZ) (fd:Nat) (p:Option Value) (args:List V1) (pre:List AObj) (nt:Nat) (rest:Code) (o:Oper):Option (List AObj×List AObj):=
 match o.op,o.dst,o.guard with
 | .call c,some d,none=>(match c.callee with
  | .builtin .recover=>evR (oneV (recV p))<| evR (Nat.blt d nt)<| evR (Nat.ble args.length nt)<| evR (Nat.ble nt DT)<| evR (noRange rest)<|
    codeZ W ti run yl fd false noAb (W.hi fd) nt rest ⟨(d,.v (.c (.kv (recV p))))::(DT,.df 0 [] [])::slotsOf args 0,extsOf pre 0,0⟩ (closK pre.length)
  | _=>none)
 | _,_,_=>none
noncomputable def closZ (W:RunZ) (ti:Types) (run:CallZ) (yl:RoundZ) (fd:Nat) (p:Option Value) (args:List V1) (pre:List AObj):Option (List AObj×List AObj):=
 match W.fns fd with
 | none=>none
 | some fn=>(match fn.results.toList with
  | []=>(match fn.body with
   | some (.seq (.region _ ops draw) rest)=>(match draw,ops.toList with
    | false,[o]=>closC W ti run yl fd p args pre fn.ntmps rest o
    | _,_=>none)
   | _=>none)
  | _=>none)
section
variable {P:Program}{I:Inv}{ti:Types}(hti:TIok P ti) (h1:TIone ti) (hm:P.follows .mixedOrders=true) {W:RunZ}(hW:W.ok P I ti) {run:CallZ}(hr:run.ok P I) {yl:RoundZ}(hy:yl.ok P I)
include hti h1 hm hW hr hy
theorem closZ_ok {fd:Nat}{p:Option Value}{args:List V1}{pre:List AObj}{x:List AObj×List AObj}(h:closZ W ti run yl fd p args pre=some x):TripR P I fd p args pre x.1 x.2:=by
 unfold closZ at h
 split at h
 ·cases h
 rename_i fn hfn
 obtain⟨hf,hname⟩:=hW.fns _ _ hfn
 split at h
 ·rename_i hres
  split at h
  ·rename_i id ops draw rest hb
   split at h
   ·rename_i o hops
    have hops:ops=#[o]:=by apply Array.ext';simpa using hops
    subst hops
    unfold closC at h
    split at h
    ·rename_i c d hop hdst hg
     split at h
     ·rename_i hc
      obtain⟨k1,h⟩:=evR_some h
      obtain⟨k2,h⟩:=evR_some h
      obtain⟨k3,h⟩:=evR_some h
      obtain⟨k4,h⟩:=evR_some h
      obtain⟨k5,h⟩:=evR_some h
      refine TripR.intro (fun M nt=>execDrawP ti M nt) hti h1 (drawP_P hti h1 hm) p hf hb hname (by apply Array.ext';simpa using hres) hop hc hg hdst (by have:=k2;simp[Nat.blt]at this;omega) (by revert k1;cases recV p<;>simp[oneV,Value.oneCell']) (Nat.le_of_ble_eq_true k3) (Nat.le_of_ble_eq_true k4) k5 fun M hP hI hcl=>?_
      refine codeZ_run hW hr hy hP hI (fun h=>by cases h) (fun _ _ _ _ h=>by cases h) (fun e σ h=>?_) h
      unfold closK at h
      cases e with
      | exit id=>cases h
      | normal=>obtain⟨g1,h⟩:=evR_some h;exact⟨fun id h=>(by cases h),isDf_ok g1,evLeft_ok h⟩
      | ret=>obtain⟨g1,h⟩:=evR_some h;exact⟨fun id h=>(by cases h),isDf_ok g1,evLeft_ok h⟩
     ·cases h
    ·cases h
   ·cases h
  ·cases h
 ·cases h
end
noncomputable def evRecM (W:RunZ) (ti:Types) (run:CallZ) (yl:RoundZ) (rs:List ResultVar) (np:Nat) (p:Option Value) (σ:St) (f:Nat) (cs:List FC) (args:List V1) (m:List Id):Option En:=
 lst m fun m=>evR (nodupQ m)<| rqL (rqV (inQ m)) args fun us=>rqObjs σ.heap (inQ m) m fun os=>
   (match closZ W ti run yl f p us os with
    | some x=>evR (kindsQ os x.1)<| evR (Nat.ble x.2.length 31)<| backK m σ.next x.1 x.2 σ.heap fun h=>
      evFinQ ti rs np ⟨(DT,.df f cs [])::σ.slots,h,σ.next+32⟩ fun y=>some (.ret y)
    | none=>none)
noncomputable def evRec (W:RunZ) (ti:Types) (run:CallZ) (yl:RoundZ) (rs:List ResultVar) (np:Nat) (p:Option Value) (σ:St):Option En:=
 match getS σ.slots DT with
 | .df f cs rows=>(match rows with
  | [r]=>evRecM W ti run yl rs np p σ f cs ((fill cs r.cells).map capV) (reachQ σ.heap 200 (idsVs2 ((fill cs r.cells).map capV)) [])
  | _=>none)
 | _=>none
section
variable {P:Program}{I:Inv}{ti:Types}(hti:TIok P ti) (h1:TIone ti) (hm:P.follows .mixedOrders=true) {W:RunZ}(hW:W.ok P I ti) {run:CallZ}(hr:run.ok P I) {yl:RoundZ}(hy:yl.ok P I)
include hti h1 hm hW hr hy
theorem evRec_ok {rs:List ResultVar}{np:Nat}{p:Option Value}{σ:St}{e:En}(h:evRec W ti run yl rs np p σ=some e):∃x:Ret,e= .ret x∧LvR P I ti rs (fun r p n=>r=x.res∧p=x.post∧n=x.new) p σ:=by
 unfold evRec at h
 split at h
 ·rename_i f cs rows hdt
  split at h
  ·rename_i r
   generalize reachQ σ.heap 200 (idsVs2 ((fill cs r.cells).map capV)) []=m at h
   generalize hargs:(fill cs r.cells).map capV=args at h
   unfold evRecM at h
   have h:=lst_eq h
   obtain⟨k3,h⟩:=evR_some h
   obtain⟨targs,ha,h⟩:=rqL_bk (rqV_bk (inQ_bk m σ.next)) _ _ h
   obtain⟨pre,⟨g1,g2⟩,h⟩:=rqObjs_bk (inQ_bk m σ.next) _ _ h
   split at h
   ·rename_i x hx
    obtain⟨k4,h⟩:=evR_some h
    obtain⟨k5,h⟩:=evR_some h
    have h:=backK_ok h
    obtain⟨res,post,new,e1,e2⟩:=evFinQ_ok h
    cases e1
    exact⟨_,rfl,f,cs,r,m,targs,pre,_,_,hdt,closZ_ok hti h1 hm hW hr hy hx,hargs.trans ha,g1,nodupQ_ok k3,g2,kindsQ_ok k4,Nat.le_of_ble_eq_true k5,res,post,new,⟨rfl,rfl,rfl⟩,e2⟩
   ·cases h
  ·cases h
 ·cases h
end
noncomputable def endZ (ti:Types) (rs:List ResultVar) (np:Nat):KtZ En:=fun e σ=>match e with
 | .exit _=>none
 | .normal=>evR (isDf (getS σ.slots DT)) (evFinQ ti rs np σ fun x=>some (.ret x))
 | .ret=>evR (isDf (getS σ.slots DT)) (evFinQ ti rs np σ fun x=>some (.ret x))
noncomputable def endF (ti:Types) (rs:List ResultVar) (np:Nat):KtZ En:=fun e σ=>match e with
 | .exit _=>none
 | .normal=>evFinQ ti rs np σ fun x=>some (.ret x)
 | .ret=>evFinQ ti rs np σ fun x=>some (.ret x)
noncomputable def endR (W:RunZ) (ti:Types) (run:CallZ) (yl:RoundZ) (rs:List ResultVar) (np:Nat):KtZ En:=fun e σ=>match e with
 | .exit _=>none
 | _=>(match isDf (getS σ.slots DT)with
  | true=>evFinQ ti rs np σ fun x=>some (.ret x)
  | false=>evRec W ti run yl rs np none σ)
def onlyR:Option En→Option En
 | some (.ret x)=>some (.ret x)
 | _=>none
theorem onlyR_some {x:Option En}{e:En}(h:onlyR x=some e):x=some e∧∀v p n,e≠ .pan v p n:=by
 unfold onlyR at h
 split at h
 ·cases h;exact⟨rfl,fun v p n h=>by cases h⟩
 ·cases h
noncomputable def bodyZ (W:RunZ) (ti:Types) (run:CallZ) (yl:RoundZ) (f:Nat) (fn:Func) (c:Code) (args:List V1) (pre:List AObj):Option En:=
 evR (Nat.ble args.length fn.ntmps)<| (match W.md f with
  | 0=>evR (Nat.ble fn.ntmps DT)<| evR (noRange c)<| codeZ W ti run yl f false (evPan pre.length) (W.hi f) fn.ntmps c ⟨(DT,.df 0 [] [])::slotsOf args 0,extsOf pre 0,0⟩ (endZ ti fn.results.toList pre.length)
  | 1=>evR (Nat.ble fn.ntmps DT)<| evR (noRange c)<| onlyR<| codeZ W ti run yl f true (fun v s h nx=>evRec W ti run yl fn.results.toList pre.length (some v) ⟨s,h,nx⟩) (W.hi f) fn.ntmps c ⟨(DT,.df 0 [] [])::slotsOf args 0,extsOf pre 0,0⟩ (endR W ti run yl fn.results.toList pre.length)
  | _=>onlyR<| codeZ W ti run yl f false noAb (W.hi f) fn.ntmps c ⟨slotsOf args 0,extsOf pre 0,0⟩ (endF ti fn.results.toList pre.length))
noncomputable def stepC (W:RunZ) (ti:Types) (run:CallZ) (yl:RoundZ):CallZ:=fun f args pre=>match W.ext f args pre with
 | some e=>some e
 | none=>(match W.fns f with
  | none=>none
  | some fn=>(match fn.body with
   | none=>none
   | some c=>bodyZ W ti run yl f fn c args pre))
noncomputable def stepY (W:RunZ) (ti:Types) (run:CallZ) (yl:RoundZ):RoundZ:=fun r sl args pre=>
 evR (Nat.beq args.length r.params.size)<| evR (allB (fun p=>Nat.blt p r.nt) r.params.toList)<|
  codeZ W ti run yl 0 false noAb (fun _=>[]) r.nt r.assign ⟨putPs r.params.toList args sl,extsOf pre 0,0⟩ fun e σ=>match e with
   | .normal=>codeZ W ti run yl 0 false noAb (fun _=>[]) r.nt r.body σ fun e σ=>(match evLeft pre.length σ.heap σ.next with
    | some x=>some (jumpOf e,x.1,x.2)
    | none=>none)
   | _=>none
noncomputable def run2 (W:RunZ) (ti:Types):Nat→CallZ×RoundZ
 | 0=>(fun _ _ _=>none,fun _ _ _ _=>none)
 | n+1=>(stepC W ti (run2 W ti n).1 (run2 W ti n).2,stepY W ti (run2 W ti n).1 (run2 W ti n).2)
noncomputable def runZ (W:RunZ) (ti:Types) (n:Nat):CallZ:=(run2 W ti n).1
section
variable {P:Program}{I:Inv}{ti:Types}(hti:TIok P ti) (h1:TIone ti) (hm:P.follows .mixedOrders=true) {W:RunZ}(hW:W.ok P I ti) {run:CallZ}{yl:RoundZ}
include hti h1 hm hW
theorem stepC_ok (hr:run.ok P I) (hy:yl.ok P I):CallZ.ok P I (stepC W ti run yl):=by
 intro f args pre e h
 unfold stepC at h
 split at h
 ·rename_i x hx;cases h;exact hW.ext _ _ _ _ hx
 split at h
 ·cases h
 rename_i fn hfn
 obtain⟨hf,hname⟩:=hW.fns _ _ hfn
 split at h
 ·cases h
 rename_i c hb
 unfold bodyZ at h
 obtain⟨k1,h⟩:=evR_some h
 have fin0:∀(np:Nat) σ,(evFinQ ti fn.results.toList np σ fun x=>some (.ret x))=some e→∃x:Ret,e= .ret x∧Fin' ti fn.results.toList σ x.res x.post x.new:=by
  intro np σ h
  obtain⟨res,post,new,g2,g3⟩:=evFinQ_ok h
  cases g2
  exact⟨_,rfl,g3⟩
 split at h
 ·obtain⟨k2,h⟩:=evR_some h
  obtain⟨k3,h⟩:=evR_some h
  have K:∀e' σ,endZ ti fn.results.toList pre.length e' σ=some e→∃x:Ret,e= .ret x∧getS σ.slots DT= .df 0 [] []∧Fin' ti fn.results.toList σ x.res x.post x.new∧(∀id,e'≠ .exit id):=by
   intro e' σ h
   cases e' with
   | exit id=>cases h
   | normal=>obtain⟨g1,h⟩:=evR_some h;obtain⟨x,a,b⟩:=fin0 _ σ h;exact⟨x,a,isDf_ok g1,b,fun id h=>by cases h⟩
   | ret=>obtain⟨g1,h⟩:=evR_some h;obtain⟨x,a,b⟩:=fin0 _ σ h;exact⟨x,a,isDf_ok g1,b,fun id h=>by cases h⟩
  cases e with
  | ret x=>
   refine TripK.introD (fun M nt=>execDrawP ti M nt) hti h1 (drawP_P hti h1 hm) hf hb hname (Nat.le_of_ble_eq_true k1) (Nat.le_of_ble_eq_true k2) k3 0 [] fun M hP hI hcl=>?_
   refine codeZ_run hW hr hy hP hI (fun h=>by cases h) (fun v s h nx hp=>?_) (fun e' σ he=>?_) h
   ·obtain⟨_,_,hp,_⟩:=evPan_ok hp;cases hp
   ·obtain⟨y,g1,g2,g3,g4⟩:=K e' σ he
    cases g1
    cases e' with
    | exit id=>exact g4 id rfl
    | normal=>exact⟨[],⟨σ,Weak.refl _,_,_,_,⟨rfl,rfl,rfl⟩,g3⟩,g2⟩
    | ret=>exact⟨[],⟨σ,Weak.refl _,_,_,_,⟨rfl,rfl,rfl⟩,g3⟩,g2⟩
  | pan v post new=>
   refine TripP.intro (fun M nt=>execDrawP ti M nt) hti h1 (drawP_P hti h1 hm) hf hb hname (Nat.le_of_ble_eq_true k1) (Nat.le_of_ble_eq_true k2) k3 fun M hP hI hcl hpn=>?_
   refine codeZ_run hW hr hy hP hI (fun h=>by cases h) (fun v' s h nx hp=>?_) (fun e' σ he=>?_) h
   ·obtain⟨_,_,g1,g2,g3⟩:=evPan_ok hp
    cases g1
    exact hpn s h nx g2 g3
   ·obtain⟨y,g1,_⟩:=K e' σ he
    cases g1
 ·obtain⟨k2,h⟩:=evR_some h
  obtain⟨k3,h⟩:=evR_some h
  obtain⟨h,hno⟩:=onlyR_some h
  have K:∀e' σ,endR W ti run yl fn.results.toList pre.length e' σ=some e→(∀id,e'≠ .exit id)∧((getS σ.slots DT= .df 0 [] []∧∃x:Ret,e= .ret x∧Fin' ti fn.results.toList σ x.res x.post x.new)∨∃x:Ret,e= .ret x∧LvR P I ti fn.results.toList (fun r p n=>r=x.res∧p=x.post∧n=x.new) none σ):=by
   intro e' σ h
   have go:(match isDf (getS σ.slots DT)with
     | true=>evFinQ ti fn.results.toList pre.length σ fun x=>some (.ret x)
     | false=>evRec W ti run yl fn.results.toList pre.length none σ)=some e→((getS σ.slots DT= .df 0 [] []∧∃x:Ret,e= .ret x∧Fin' ti fn.results.toList σ x.res x.post x.new)∨∃x:Ret,e= .ret x∧LvR P I ti fn.results.toList (fun r p n=>r=x.res∧p=x.post∧n=x.new) none σ):=by
    intro h
    split at h
    ·rename_i hd;obtain⟨x,a,b⟩:=fin0 _ σ h;exact .inl ⟨isDf_ok hd,x,a,b⟩
    ·exact .inr (evRec_ok hti h1 hm hW hr hy h)
   cases e' with
   | exit id=>cases h
   | normal=>exact⟨fun id h=>(by cases h),go h⟩
   | ret=>exact⟨fun id h=>(by cases h),go h⟩
  cases e with
  | ret x=>
   refine TripK.introR (fun M nt=>execDrawP ti M nt) hti h1 (drawP_P hti h1 hm) hf hb hname (Nat.le_of_ble_eq_true k1) (Nat.le_of_ble_eq_true k2) k3 fun M hP hI hcl hpn=>?_
   refine codeZ_run hW hr hy hP hI (fun _=>hcl) (fun v s h nx hp=>?_) (fun e' σ he=>?_) h
   ·obtain⟨y,g1,g2⟩:=evRec_ok hti h1 hm hW hr hy hp
    cases g1
    exact hpn v s h nx g2
   ·obtain⟨g0,g⟩:=K e' σ he
    refine⟨g0,?_⟩
    rcases g with⟨g1,y,g2,g3⟩ | ⟨y,g2,g3⟩
    ·cases g2;exact .inl ⟨g1,_,_,_,⟨rfl,rfl,rfl⟩,g3⟩
    ·cases g2;exact .inr g3
  | pan v post new=>
   exact absurd rfl (hno v post new)
 ·obtain⟨h,hno⟩:=onlyR_some h
  have K:∀e' σ,endF ti fn.results.toList pre.length e' σ=some e→∃x:Ret,e= .ret x∧Fin' ti fn.results.toList σ x.res x.post x.new∧(∀id,e'≠ .exit id):=by
   intro e' σ h
   cases e' with
   | exit id=>cases h
   | normal=>obtain⟨x,a,b⟩:=fin0 _ σ h;exact⟨x,a,b,fun id h=>by cases h⟩
   | ret=>obtain⟨x,a,b⟩:=fin0 _ σ h;exact⟨x,a,b,fun id h=>by cases h⟩
  cases e with
  | ret x=>
   refine TripK.intro (fun M nt=>execDrawP ti M nt) hti h1 (drawP_P hti h1 hm) hf hb hname (Nat.le_of_ble_eq_true k1) fun M hP hI=>?_
   refine codeZ_run hW hr hy hP hI (fun h=>by cases h) (fun v s h nx hp=>(by cases hp)) (fun e' σ he=>?_) h
   obtain⟨y,g1,g3,g4⟩:=K e' σ he
   cases g1
   cases e' with
   | exit id=>exact g4 id rfl
   | normal=>exact⟨_,_,_,⟨rfl,rfl,rfl⟩,g3⟩
   | ret=>exact⟨_,_,_,⟨rfl,rfl,rfl⟩,g3⟩
  | pan v post new=>
   exact absurd rfl (hno v post new)
theorem stepY_ok (hr:run.ok P I) (hy:yl.ok P I):RoundZ.ok P I (stepY W ti run yl):=by
 intro r sl args pre j post new h
 unfold stepY at h
 obtain⟨k1,h⟩:=evR_some h
 obtain⟨k2,h⟩:=evR_some h
 refine RoundK.intro (fun M nt=>execDrawP ti M nt) hti h1 (drawP_P hti h1 hm) (Nat.eq_of_beq_eq_true k1) k2 fun M hP hI=>?_
 refine codeZ_run hW hr hy hP hI (fun h=>by cases h) (fun v s h nx hp=>(by cases hp)) (fun e σ he=>?_) h
 cases e with
 | exit id=>cases he
 | ret=>cases he
 | normal=>
  refine codeZ_run hW hr hy hP hI (fun h=>by cases h) (fun v s h nx hp=>(by cases hp)) (fun e σ he=>?_) he
  split at he
  ·rename_i x hx
   cases he
   exact⟨_,_,⟨rfl,rfl,rfl⟩,[],evLeft_ok hx⟩
  ·cases he
theorem run2_ok:∀(n:Nat),CallZ.ok P I (run2 W ti n).1∧RoundZ.ok P I (run2 W ti n).2
 | 0=>⟨fun _ _ _ _ h=>(by cases h),fun _ _ _ _ _ _ _ h=>(by cases h)⟩
 | n+1=>⟨stepC_ok hti h1 hm hW (run2_ok n).1 (run2_ok n).2,stepY_ok hti h1 hm hW (run2_ok n).1 (run2_ok n).2⟩
theorem runZ_ok (n:Nat) (f:FuncId) (args:List V1) (pre:List AObj) (e:En) (h:runZ W ti n f args pre=some e):e.ok P I f args pre:=(run2_ok hti h1 hm hW n).1 _ _ _ _ h
end
end Go.AM
noncomputable section
namespace Go.Proofs.YtaomkgkdfafiiaaGreatDoor
open Go Go.AM
noncomputable def fnL:List (Nat×Func):=[(3,Tryz.f3),(5,Tryz.f5),(6,Tryz.f6),(7,Tryz.f7),(8,Tryz.f8),(9,Tryz.f9),(10,Tryz.f10),(11,Tryz.f11),(12,Tryz.f12),(13,Tryz.f13),(18,Tryz.f18),(19,Tryz.f19),(20,Tryz.f20),(21,Tryz.f21),(22,Tryz.f22),(23,Tryz.f23),(24,Tryz.f24),(25,Tryz.f25),(26,Tryz.f26),(27,Tryz.f27),(29,Tryz.f29),(30,Tryz.f30),(31,Tryz.f31),(32,Tryz.f32),(35,Tryz.f35),(43,Tryz.f43),(44,Tryz.f44),(45,Tryz.f45),(47,Tryz.f47),(48,Tryz.f48),(49,Tryz.f49),(50,Tryz.f50),(51,Tryz.f51),(53,Tryz.f53),(56,Tryz.f56),(63,Tryz.f63),(64,Tryz.f64),(78,Tryz.f78),(81,Tryz.f81),(87,Tryz.f87),(88,Tryz.f88),(89,Tryz.f89),(90,Tryz.f90),(91,Tryz.f91),(97,Tryz.f97),(98,Tryz.f98),(99,Tryz.f99),(100,Tryz.f100),(105,Tryz.f105),(106,Tryz.f106),(108,Tryz.f108),(111,Tryz.f111),(112,Tryz.f112),(113,Tryz.f113),(114,Tryz.f114),(115,Tryz.f115),(116,Tryz.f116),(117,Tryz.f117),(119,Tryz.f119),(120,Tryz.f120),(123,Tryz.f123),(124,Tryz.f124),(128,Tryz.f128),(130,Tryz.f130),(132,Tryz.f132),(149,Tryz.f149),(152,Tryz.f152),(156,Tryz.f156),(157,Tryz.f157),(158,Tryz.f158),(159,Tryz.f159),(160,Tryz.f160),(161,Tryz.f161),(162,Tryz.f162),(163,Tryz.f163),(169,Tryz.f169),(170,Tryz.f170),(174,Tryz.f174),(179,Tryz.f179),(185,Tryz.f185),(189,Tryz.f189),(190,Tryz.f190),(192,Tryz.f192),(193,Tryz.f193),(194,Tryz.f194),(209,Tryz.f209),(211,Tryz.f211),(212,Tryz.f212),(218,Tryz.f218),(223,Tryz.f223),(224,Tryz.f224),(226,Tryz.f226),(227,Tryz.f227),(228,Tryz.f228),(229,Tryz.f229),(233,Tryz.f233),(237,Tryz.f237),(238,Tryz.f238),(239,Tryz.f239),(240,Tryz.f240)]
noncomputable def look {α:Type}:List (Nat×α)→Nat→Option α
 | [],_=>none
 | (k,x)::l,f=>(match Nat.beq k f with
  | true=>some x
  | false=>look l f)
noncomputable def cloneB (f:Nat) (ag:Bool) (sz:Nat):Bool:=
 match ag with
 | true=>(Nat.beq f 126&&Nat.beq sz 6) || (Nat.beq f 196&&Nat.beq sz 4)
 | false=>(Nat.beq f 28 || Nat.beq f 195)&&Nat.beq sz 1
noncomputable def is12:V1→Bool
 | .d (.int .u8 n)=>(match n with
  | .ofNat m=>Nat.beq m 12
  | _=>false)
 | _=>false
noncomputable def extZ:CallZ:=fun f args pre=>match args,pre with
 | [x],[]=>(match Nat.beq f 125 with
  | true=>evR (is12 x) (some (.ret ⟨.v (.c (.fn 185 [])),[],[]⟩))
  | false=>(match Nat.beq f 28 || (Nat.beq f 126 || (Nat.beq f 195 || Nat.beq f 196))with
   | true=>(match x.norm with
    | .d (.list ag sz rows)=>evR (cloneB f ag sz)<| evR (Nat.ble rows.length 1000000)<| some (.ret ⟨.v (.d (.list ag sz rows)),[],[]⟩)
    | _=>none)
   | false=>none))
 | _,_=>none
noncomputable def W7:RunZ:=⟨look fnL,extZ,fun f=>Nat.beq f 48,fun f=>Nat.beq f 130 || Nat.beq f 162,fun _=>false,fun f p=>match Nat.beq f 157&&Nat.beq p 29903 with
 | true=>[.cell 5 3]
 | false=>[],1000,fun f=>match Nat.beq f 7 with
 | true=>1
 | false=>(match Nat.beq f 27 || Nat.beq f 23 with
  | true=>2
  | false=>0),fun _=>[],true⟩
def FnOK (x:Nat×Func):Prop:=Tryz.prog.funcs[x.1]?=some x.2∧(x.2.name== "runtime.NumGoroutine")=false
def FnsOK:List (Nat×Func)→Prop
 | []=>True
 | x::l=>FnOK x∧FnsOK l
theorem look_ok:∀{l:List (Nat×Func)}{f:Nat}{fn:Func},FnsOK l→look l f=some fn→Tryz.prog.funcs[f]?=some fn∧(fn.name== "runtime.NumGoroutine")=false
 | [],f,fn,_,h=>by cases h
 | (k,x)::l,f,fn,hl,h=>by
  unfold look at h
  split at h
  ·rename_i hb
   cases h
   have e:=Nat.eq_of_beq_eq_true hb
   subst e
   exact hl.1
  ·exact look_ok hl.2 h
theorem fnL_ok:FnsOK fnL:=⟨⟨Tryz.func3,by kernel_rfl⟩,⟨⟨Tryz.func5,by kernel_rfl⟩,⟨⟨Tryz.func6,by kernel_rfl⟩,⟨⟨Tryz.func7,by kernel_rfl⟩,⟨⟨Tryz.func8,by kernel_rfl⟩,⟨⟨Tryz.func9,by kernel_rfl⟩,⟨⟨Tryz.func10,by kernel_rfl⟩,⟨⟨Tryz.func11,by kernel_rfl⟩,⟨⟨Tryz.func12,by kernel_rfl⟩,⟨⟨Tryz.func13,by kernel_rfl⟩,⟨⟨Tryz.func18,by kernel_rfl⟩,⟨⟨Tryz.func19,by kernel_rfl⟩,⟨⟨Tryz.func20,by kernel_rfl⟩,⟨⟨Tryz.func21,by kernel_rfl⟩,⟨⟨Tryz.func22,by kernel_rfl⟩,⟨⟨Tryz.func23,by kernel_rfl⟩,⟨⟨Tryz.func24,by kernel_rfl⟩,⟨⟨Tryz.func25,by kernel_rfl⟩,⟨⟨Tryz.func26,by kernel_rfl⟩,⟨⟨Tryz.func27,by kernel_rfl⟩,⟨⟨Tryz.func29,by kernel_rfl⟩,⟨⟨Tryz.func30,by kernel_rfl⟩,⟨⟨Tryz.func31,by kernel_rfl⟩,⟨⟨Tryz.func32,by kernel_rfl⟩,⟨⟨Tryz.func35,by kernel_rfl⟩,⟨⟨Tryz.func43,by kernel_rfl⟩,⟨⟨Tryz.func44,by kernel_rfl⟩,⟨⟨Tryz.func45,by kernel_rfl⟩,⟨⟨Tryz.func47,by kernel_rfl⟩,⟨⟨Tryz.func48,by kernel_rfl⟩,⟨⟨Tryz.func49,by kernel_rfl⟩,⟨⟨Tryz.func50,by kernel_rfl⟩,⟨⟨Tryz.func51,by kernel_rfl⟩,⟨⟨Tryz.func53,by kernel_rfl⟩,⟨⟨Tryz.func56,by kernel_rfl⟩,⟨⟨Tryz.func63,by kernel_rfl⟩,⟨⟨Tryz.func64,by kernel_rfl⟩,⟨⟨Tryz.func78,by kernel_rfl⟩,⟨⟨Tryz.func81,by kernel_rfl⟩,⟨⟨Tryz.func87,by kernel_rfl⟩,⟨⟨Tryz.func88,by kernel_rfl⟩,⟨⟨Tryz.func89,by kernel_rfl⟩,⟨⟨Tryz.func90,by kernel_rfl⟩,⟨⟨Tryz.func91,by kernel_rfl⟩,⟨⟨Tryz.func97,by kernel_rfl⟩,⟨⟨Tryz.func98,by kernel_rfl⟩,⟨⟨Tryz.func99,by kernel_rfl⟩,⟨⟨Tryz.func100,by kernel_rfl⟩,⟨⟨Tryz.func105,by kernel_rfl⟩,⟨⟨Tryz.func106,by kernel_rfl⟩,⟨⟨Tryz.func108,by kernel_rfl⟩,⟨⟨Tryz.func111,by kernel_rfl⟩,⟨⟨Tryz.func112,by kernel_rfl⟩,⟨⟨Tryz.func113,by kernel_rfl⟩,⟨⟨Tryz.func114,by kernel_rfl⟩,⟨⟨Tryz.func115,by kernel_rfl⟩,⟨⟨Tryz.func116,by kernel_rfl⟩,⟨⟨Tryz.func117,by kernel_rfl⟩,⟨⟨Tryz.func119,by kernel_rfl⟩,⟨⟨Tryz.func120,by kernel_rfl⟩,⟨⟨Tryz.func123,by kernel_rfl⟩,⟨⟨Tryz.func124,by kernel_rfl⟩,⟨⟨Tryz.func128,by kernel_rfl⟩,⟨⟨Tryz.func130,by kernel_rfl⟩,⟨⟨Tryz.func132,by kernel_rfl⟩,⟨⟨Tryz.func149,by kernel_rfl⟩,⟨⟨Tryz.func152,by kernel_rfl⟩,⟨⟨Tryz.func156,by kernel_rfl⟩,⟨⟨Tryz.func157,by kernel_rfl⟩,⟨⟨Tryz.func158,by kernel_rfl⟩,⟨⟨Tryz.func159,by kernel_rfl⟩,⟨⟨Tryz.func160,by kernel_rfl⟩,⟨⟨Tryz.func161,by kernel_rfl⟩,⟨⟨Tryz.func162,by kernel_rfl⟩,⟨⟨Tryz.func163,by kernel_rfl⟩,⟨⟨Tryz.func169,by kernel_rfl⟩,⟨⟨Tryz.func170,by kernel_rfl⟩,⟨⟨Tryz.func174,by kernel_rfl⟩,⟨⟨Tryz.func179,by kernel_rfl⟩,⟨⟨Tryz.func185,by kernel_rfl⟩,⟨⟨Tryz.func189,by kernel_rfl⟩,⟨⟨Tryz.func190,by kernel_rfl⟩,⟨⟨Tryz.func192,by kernel_rfl⟩,⟨⟨Tryz.func193,by kernel_rfl⟩,⟨⟨Tryz.func194,by kernel_rfl⟩,⟨⟨Tryz.func209,by kernel_rfl⟩,⟨⟨Tryz.func211,by kernel_rfl⟩,⟨⟨Tryz.func212,by kernel_rfl⟩,⟨⟨Tryz.func218,by kernel_rfl⟩,⟨⟨Tryz.func223,by kernel_rfl⟩,⟨⟨Tryz.func224,by kernel_rfl⟩,⟨⟨Tryz.func226,by kernel_rfl⟩,⟨⟨Tryz.func227,by kernel_rfl⟩,⟨⟨Tryz.func228,by kernel_rfl⟩,⟨⟨Tryz.func229,by kernel_rfl⟩,⟨⟨Tryz.func233,by kernel_rfl⟩,⟨⟨Tryz.func237,by kernel_rfl⟩,⟨⟨Tryz.func238,by kernel_rfl⟩,⟨⟨Tryz.func239,by kernel_rfl⟩,⟨⟨Tryz.func240,by kernel_rfl⟩,trivial⟩⟩⟩⟩⟩⟩⟩⟩⟩⟩⟩⟩⟩⟩⟩⟩⟩⟩⟩⟩⟩⟩⟩⟩⟩⟩⟩⟩⟩⟩⟩⟩⟩⟩⟩⟩⟩⟩⟩⟩⟩⟩⟩⟩⟩⟩⟩⟩⟩⟩⟩⟩⟩⟩⟩⟩⟩⟩⟩⟩⟩⟩⟩⟩⟩⟩⟩⟩⟩⟩⟩⟩⟩⟩⟩⟩⟩⟩⟩⟩⟩⟩⟩⟩⟩⟩⟩⟩⟩⟩⟩⟩⟩⟩⟩⟩⟩⟩⟩⟩
theorem normTrip {P:Program}{I:Inv}{f:FuncId}{args:List V1}{pre:List AObj}{Q:AV→List AObj→List AObj→Prop}(h:TripK P I f (args.map V1.norm) pre Q):TripK P I f args pre Q:=
 ⟨h.1,fun w X g vals h1 h2 h3 h4 h5 h6=>h.2 w X g vals h1 h2 h3 h4 (by simpa using h5) fun j x v hx hv=>by
  rw[List.getElem?_map,Option.map_eq_some_iff]at hx
  obtain⟨y,hy,rfl⟩:=hx
  exact (h6 j y v hy hv).norm⟩
theorem norm1 {P:Program}{I:Inv}{f:FuncId}{x:V1}{d:D}{pre:List AObj}{Q:AV→List AObj→List AObj→Prop}(hx:x.norm= .d d) (h:TripK P I f [.d d] pre Q):TripK P I f [x] pre Q:=normTrip (by simp only[List.map_cons,List.map_nil,hx];exact h)
theorem F28_same {l:List D}(h:l.length≤1000000):F28 2 l=some l:=by
 have e:L28_1 2 l false=some l:=by
  show (if false=true then some ([]:List D)else appF 8 [] l fun l3=>some l3)=some l
  rw[if_neg (by simp)]
  unfold appF
  rw[if_pos (by simp only[List.length_nil,Nat.zero_add,maxLen];constructor<;>omega)]
  simp
 unfold F28
 rw[nilF_eq (fun hl=>?_)]
 ·exact e
 ·rw[e,hl];rfl
theorem F126_same {l:List D}(h:l.length≤1000000):F126 2 l=some l:=by
 have e:L126_1 2 l false=some l:=by
  show (if false=true then some ([]:List D)else appF 88 [] l fun l3=>some l3)=some l
  rw[if_neg (by simp)]
  unfold appF
  rw[if_pos (by simp only[List.length_nil,Nat.zero_add,maxLen];constructor<;>omega)]
  simp
 unfold F126
 rw[nilF_eq (fun hl=>?_)]
 ·exact e
 ·rw[e,hl];rfl
theorem F195_same {l:List D}(h:l.length≤1000000):F195 2 l=some l:=by
 have e:L195_1 2 l false=some l:=by
  show (if false=true then some ([]:List D)else appF 16 [] l fun l3=>some l3)=some l
  rw[if_neg (by simp)]
  unfold appF
  rw[if_pos (by simp only[List.length_nil,Nat.zero_add,maxLen];constructor<;>omega)]
  simp
 unfold F195
 rw[nilF_eq (fun hl=>?_)]
 ·exact e
 ·rw[e,hl];rfl
theorem F196_same {l:List D}(h:l.length≤1000000):F196 2 l=some l:=by
 have e:L196_1 2 l false=some l:=by
  show (if false=true then some ([]:List D)else appF 64 [] l fun l3=>some l3)=some l
  rw[if_neg (by simp)]
  unfold appF
  rw[if_pos (by simp only[List.length_nil,Nat.zero_add,maxLen];constructor<;>omega)]
  simp
 unfold F196
 rw[nilF_eq (fun hl=>?_)]
 ·exact e
 ·rw[e,hl];rfl
theorem extZ_ok:∀f args pre e,extZ f args pre=some e→e.ok Tryz.prog inv f args pre:=by
 intro f args pre e h
 unfold extZ at h
 split at h
 ·rename_i x
  split at h
  ·rename_i hf
   have hf:=Nat.eq_of_beq_eq_true hf
   subst hf
   obtain⟨h1,h⟩:=evR_some h
   cases h
   unfold is12 at h1
   split at h1
   ·split at h1
    ·have:=Nat.eq_of_beq_eq_true h1
     subst this
     exact T125
    ·cases h1
   ·cases h1
  ·split at h
   ·split at h
    ·rename_i ag sz rows hx
     obtain⟨h1,h⟩:=evR_some h
     obtain⟨h2,h⟩:=evR_some h
     have h2:=Nat.le_of_ble_eq_true h2
     cases h
     refine norm1 hx ?_
     unfold cloneB at h1
     cases ag with
     | true=>
      simp only[Bool.or_eq_true,Bool.and_eq_true]at h1
      rcases h1 with⟨a,b⟩ | ⟨a,b⟩
      ·have a:=Nat.eq_of_beq_eq_true a;have b:=Nat.eq_of_beq_eq_true b;subst a;subst b;exact T126 2 (F126_same h2)
      ·have a:=Nat.eq_of_beq_eq_true a;have b:=Nat.eq_of_beq_eq_true b;subst a;subst b;exact T196 2 (F196_same h2)
     | false=>
      simp only[Bool.or_eq_true,Bool.and_eq_true]at h1
      obtain⟨a | a,b⟩:=h1
      ·have a:=Nat.eq_of_beq_eq_true a;have b:=Nat.eq_of_beq_eq_true b;subst a;subst b;exact T28 2 (F28_same h2)
      ·have a:=Nat.eq_of_beq_eq_true a;have b:=Nat.eq_of_beq_eq_true b;subst a;subst b;exact T195 2 (F195_same h2)
    ·cases h
   ·cases h
 ·cases h
theorem W7_ok:W7.ok Tryz.prog inv tab:=⟨fun f fn h=>look_ok fnL_ok h,extZ_ok,fun t i fs h=>by cases h⟩
end Go.Proofs.YtaomkgkdfafiiaaGreatDoor
end
