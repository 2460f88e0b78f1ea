/- Part of a proof. No condition. (Part 5.) -/
import Derived.Test.YtaomkgkdfafiiaaGreatDoorNilD
set_option linter.unusedVariables false
set_option linter.unusedSimpArgs false
set_option linter.unusedVariables false
namespace Go.Proofs.YtaomkgkdfafiiaaGreatDoor
open Go Go.AM
section
variable {P:Program}{ops:Array Oper}{Q:Exit→Act→World→Prop}{i:Nat}{rest:List Nat}{a:Act}{w w':World}{o:Oper}
theorem wpo_value {v:Value}(hi:ops[i]?=some o) (hg:o.guard=none) (hr:(execOp a.eval o).run P w= .ok (.value v) w') (h:wpOps P ops Q rest (a.put o.dst v) w'):wpOps P ops Q (i::rest) a w:=by
 unfold wpOps
 rw[hi]
 simp only[]
 rw[if_pos (by simp[Region.wanted,hg])]
 unfold Oper.wp
 rw[hr]
 exact .inl h
theorem wpo_skip (hi:ops[i]?=some o) (hg:o.guard=none) (hr:(execOp a.eval o).run P w= .ok .skip w') (h:wpOps P ops Q rest (a.put o.dst undef) w'):wpOps P ops Q (i::rest) a w:=by
 unfold wpOps
 rw[hi]
 simp only[]
 rw[if_pos (by simp[Region.wanted,hg])]
 unfold Oper.wp
 rw[hr]
 exact .inl h
end
theorem und236:Tryz.prog.underlying 236=some (.map 5 166):=by kernel_rfl
theorem und5:Tryz.prog.underlying 5=some (.int .u8):=by kernel_rfl
theorem findK {k:Int}{es:List MapEntry}{x:Option (Nat×Value)}(h:Instr.findNow (.int .u8) (.int .u8 k) es 0=some x) (w:World):(Instr.findKey 5 (.int .u8 k) es).run Tryz.prog w= .ok x w:=by
 simp[Instr.findKey,run_underlying und5,h]
theorem chkK (b:Bool) (k:Int) (w:World):(Instr.checkKey b 10000 5 (.int .u8 k)).run Tryz.prog w= .ok () w:=by
 have:∀n,(Instr.checkKey b (n+1) 5 (.int .u8 k)).run Tryz.prog w= .ok () w:=fun n=>by simp[Instr.checkKey,run_underlying und5]
 exact this 9999
theorem insK {w:World}{es:Array MapEntry}{n:Nat}{k:Int}{v:Value}(h:Instr.findNow (.int .u8) (.int .u8 k) es.toList 0=some none):
  (Instr.mapUpdate 236 (.map (some w.heap.size)) (.int .u8 k) v).run Tryz.prog (w.alloc (.map es n))= .ok () (w.alloc (.map (es.push ⟨.int .u8 k,v,n⟩) (n+1))):=by
 have hb:(w.alloc (.map es n)).heap[w.heap.size]?=some (.map es n):=by
  show (w.heap.push _)[w.heap.size]?=_
  simp
 have hs:({w.alloc (.map es n)with heap:=(w.alloc (.map es n)).heap.setIfInBounds w.heap.size (.map (es.push ⟨.int .u8 k,v,n⟩) (n+1))}:World)=w.alloc (.map (es.push ⟨.int .u8 k,v,n⟩) (n+1)):=by
  simp only[World.alloc]
  congr 1
  apply Array.ext'
  simp[List.set_append]
 simp only[Instr.mapUpdate,Sem.run_bind,run_underlying und236,Result.andThen,MapKept.run_getObj_map hb,chkK,findK h,MapKept.run_setObj_map _ hb,hs]
theorem newK (w:World):(Instr.makeMap 236 none).run Tryz.prog w= .ok (.map (some w.heap.size)) (w.alloc (.map #[] 0)):=by
 simp[Instr.makeMap,newObj]
 rfl
def E5:Array MapEntry:=#[⟨.int .u8 9,.func (.func 182) #[] #[],0⟩,⟨.int .u8 10,.func (.func 183) #[] #[],1⟩,⟨.int .u8 11,.func (.func 184) #[] #[],2⟩,⟨.int .u8 12,.func (.func 185) #[] #[],3⟩,⟨.int .u8 13,.func (.func 186) #[] #[],4⟩]
theorem lookK (w:World):(Instr.lookup 236 (.map (some w.heap.size)) (.int .u8 12) false).run Tryz.prog (w.alloc (.map E5 5))= .ok (.func (.func 185) #[] #[]) (w.alloc (.map E5 5)):=by
 have hb:(w.alloc (.map E5 5)).heap[w.heap.size]?=some (.map E5 5):=by
  show (w.heap.push _)[w.heap.size]?=_
  simp
 have hf:Instr.findNow (.int .u8) (.int .u8 12) E5.toList 0=some (some (3,.func (.func 185) #[] #[])):=by rfl
 simp[Instr.lookup,run_underlying und236,MapKept.run_getObj_map hb,chkK,findK hf,Result.andThen]
theorem insO {w:World}{es:Array MapEntry}{n:Nat}{k:Int}{f:Nat}{a:Act}{o:Oper}{w2:World}(ho:o.op= .insert 236 (.tmp 3) (.const (.int .u8 k)) (.func f)) (h3:a.eval (.tmp 3)= .map (some w.heap.size)) (h:Instr.findNow (.int .u8) (.int .u8 k) es.toList 0=some none)
  (hw:w2=w.alloc (.map (es.push ⟨.int .u8 k,.func (.func f) #[] #[],n⟩) (n+1))):(execOp a.eval o).run Tryz.prog (w.alloc (.map es n))= .ok .skip w2:=by
 have:=insK (w:=w) (es:=es) (n:=n) (k:=k) (v:=.func (.func f) #[] #[]) h
 subst hw
 have e1:a.eval (.const (.int .u8 k))= .int .u8 k:=rfl
 have e2:a.eval (.func f)= .func (.func f) #[] #[]:=rfl
 simp[execOp,ho,h3,e1,e2,this]
theorem lookO {w:World}{a:Act}{o:Oper}(ho:o.op= .lookup 236 (.tmp 4) (.tmp 5) false) (h3:a.eval (.tmp 4)= .map (some w.heap.size)) (h4:a.eval (.tmp 5)= .int .u8 12):(execOp a.eval o).run Tryz.prog (w.alloc (.map E5 5))= .ok (.value (.func (.func 185) #[] #[])) (w.alloc (.map E5 5)):=by
 simp[execOp,ho,h3,h4,lookK]
theorem res1 {P:Program}{fn:Func}{t:Nat}(h:fn.results=#[.tmp t]) (tmps:Array Value) (v:Value) (hv:tmps.getD t undef=v) (w:World):(results fn tmps).run P w= .ok v w:=by
 subst hv
 simp[results,h]
theorem apartK (w:World) (o:Obj):ApartW (fun _=>False) w (w.alloc o) where
 os:=rfl
 tape:=rfl
 output:=rfl
 size:=by show _≤(w.heap.push o).size;simp
 block:=fun b hb _=>by show (w.heap.push o)[b]?=_;rw[Array.getElem?_push,if_neg (by omega)]
theorem T125:Trip Tryz.prog inv 125 [.d (.int .u8 12)] [] (.v (.c (.fn 185 []))) [] []:=by
 refine Trip.ofCalls (xs:=[.int .u8 12]) ⟨_,_,Tryz.func125,rfl,by kernel_rfl⟩ fun w Z vals _ hsz hargs=>?_
 have hv:vals=#[.int .u8 12]:=by
  have h0:vals[0]'(by rw[hsz];decide)= .int .u8 12:=relI (g:=fun _=>undef) (h:=fun _=>none) (hargs 0 _ (vals[0]'(by rw[hsz];decide)) rfl (by simp))
  apply Array.ext
  ·simpa using hsz
  ·intro i h1 h2
   match i,h2 with
   | 0,_=>simpa using h0
 subst hv
 have post:∃v,Ending.returned (.func (.func 185) #[] #[])= .returned v∧ApartW (fun _=>False) w (w.alloc (.map E5 5))∧∀Z' g' h',RelV1 (w.alloc (.map E5 5)) Z' g' h' (.c (.fn 185 [])) v:=
  ⟨_,rfl,apartK w _,fun Z' g' h'=>⟨rfl,by simp⟩⟩
 refine calls_of_wp Tryz.func125 rfl ?_
 refine wp_seq (wp_region ?_)
 refine wpo_value (i:=0) rfl rfl (v:=.nilFunc) (w':=w) (by rfl) ?_
 refine wp_seq (wp_region ?_)
 refine wpo_value (i:=0) rfl rfl (v:=.map (some w.heap.size)) (w':=w.alloc (.map #[] 0)) (by simp[execOp,newK]) ?_
 refine wpo_skip (i:=1) rfl rfl (w':=w.alloc (.map (E5.extract 0 1) 1)) (insO (w:=w) (es:=E5.extract 0 0) (n:=0) rfl rfl rfl rfl) ?_
 refine wpo_skip (i:=2) rfl rfl (w':=w.alloc (.map (E5.extract 0 2) 2)) (insO (w:=w) (es:=E5.extract 0 1) (n:=1) rfl rfl rfl rfl) ?_
 refine wpo_skip (i:=3) rfl rfl (w':=w.alloc (.map (E5.extract 0 3) 3)) (insO (w:=w) (es:=E5.extract 0 2) (n:=2) rfl rfl rfl rfl) ?_
 refine wpo_skip (i:=4) rfl rfl (w':=w.alloc (.map (E5.extract 0 4) 4)) (insO (w:=w) (es:=E5.extract 0 3) (n:=3) rfl rfl rfl rfl) ?_
 refine wpo_skip (i:=5) rfl rfl (w':=w.alloc (.map (E5.extract 0 5) 5)) (insO (w:=w) (es:=E5.extract 0 4) (n:=4) rfl rfl rfl rfl) ?_
 refine wpo_value (i:=6) rfl rfl (v:=.map (some w.heap.size)) (w':=w.alloc (.map E5 5)) (by rfl) ?_
 refine wpo_value (i:=7) rfl rfl (v:=.int .u8 12) (w':=w.alloc (.map E5 5)) (by rfl) ?_
 refine wpo_value (i:=8) rfl rfl (v:=.func (.func 185) #[] #[]) (w':=w.alloc (.map E5 5)) (lookO rfl rfl rfl) ?_
 refine wpo_value (i:=9) rfl rfl (v:=.func (.func 185) #[] #[]) (w':=w.alloc (.map E5 5)) (by rfl) ?_
 refine wp_ret ?_
 exact⟨rfl,_,res1 (t:=2) rfl _ _ rfl _,post⟩
end Go.Proofs.YtaomkgkdfafiiaaGreatDoor
namespace Go.AM
open Go Go.RowKit
structure Ret where
 res:AV
 post:List AObj
 new:List AObj
section
variable {γ:Type}{r:γ}
def evInt (op:BinOp) (q:IntKind) (a b:Int) (k:D→Option γ):Option γ:=
 match op with
 | .add=>letF (q.wrap (a+b)) fun z=>k (.int q z)
 | .sub=>letF (q.wrap (a - b)) fun z=>k (.int q z)
 | .mul=>letF (q.wrap (a*b)) fun z=>k (.int q z)
 | .eql=>if a=b then k (.bool true)else k (.bool false)
 | .neq=>if a=b then k (.bool false)else k (.bool true)
 | .lss=>if a<b then k (.bool true)else k (.bool false)
 | .leq=>if a≤b then k (.bool true)else k (.bool false)
 | .gtr=>if b<a then k (.bool true)else k (.bool false)
 | .geq=>if b≤a then k (.bool true)else k (.bool false)
 | _=>none
theorem evInt_ok {M:Mach}{op:BinOp}{q:IntKind}{a b:Int}{k:D→Option γ}{P:D→Prop}(hk:∀d,k d=some r→P d) (h:evInt op q a b k=some r):intOp M op q a b P:=by
 cases op<;>simp only[evInt]at h<;>try contradiction
 ·exact⟨_,rfl,hk _ h⟩
 ·exact⟨_,rfl,hk _ h⟩
 ·exact⟨_,rfl,hk _ h⟩
 ·simp only[intOp,M.split_iff,M.eqI_eq]
  by_cases c:a=b
  ·rw[if_pos c]at h;rw[beq_iff_eq.2 c];exact hk _ h
  ·rw[if_neg c]at h;rw[beq_eq_false_iff_ne.2 c];exact hk _ h
 ·simp only[intOp,M.split_iff,M.eqI_eq]
  by_cases c:a=b
  ·rw[if_pos c]at h;rw[beq_iff_eq.2 c];exact hk _ h
  ·rw[if_neg c]at h;rw[beq_eq_false_iff_ne.2 c];exact hk _ h
 ·simp only[intOp,M.split_iff,M.ltI_eq]
  by_cases c:a<b
  ·rw[if_pos c]at h;rw[decide_eq_true c];exact hk _ h
  ·rw[if_neg c]at h;rw[decide_eq_false c];exact hk _ h
 ·simp only[intOp,M.split_iff,M.leI_eq]
  by_cases c:a≤b
  ·rw[if_pos c]at h;rw[decide_eq_true c];exact hk _ h
  ·rw[if_neg c]at h;rw[decide_eq_false c];exact hk _ h
 ·simp only[intOp,M.split_iff,M.ltI_eq]
  by_cases c:b<a
  ·rw[if_pos c]at h;rw[decide_eq_true c];exact hk _ h
  ·rw[if_neg c]at h;rw[decide_eq_false c];exact hk _ h
 ·simp only[intOp,M.split_iff,M.leI_eq]
  by_cases c:b≤a
  ·rw[if_pos c]at h;rw[decide_eq_true c];exact hk _ h
  ·rw[if_neg c]at h;rw[decide_eq_false c];exact hk _ h
def evStr (op:BinOp) (a b:ByteArray) (k:D→Option γ):Option γ:=
 match op with
 | .add=>catF a b fun c=>k (.str c)
 | .eql=>if a=b then k (.bool true)else k (.bool false)
 | .neq=>if a=b then k (.bool false)else k (.bool true)
 | _=>none
theorem evStr_ok {M:Mach}{op:BinOp}{a b:ByteArray}{k:D→Option γ}{P:D→Prop}(hk:∀d,k d=some r→P d) (h:evStr op a b k=some r):strOp M op a b P:=by
 cases op<;>simp only[evStr]at h<;>try contradiction
 ·obtain⟨c,h1,h2,h3⟩:=catF_inv h
  exact⟨c,h1,h2,hk _ h3⟩
 ·simp only[strOp,M.split_iff,M.eqS_eq]
  by_cases c:a=b
  ·rw[if_pos c]at h;rw[bytes_eq.2 c];exact hk _ h
  ·rw[if_neg c]at h;rw[Bool.eq_false_iff.2 fun e=>c (bytes_eq.1 e)];exact hk _ h
 ·simp only[strOp,M.split_iff,M.eqS_eq]
  by_cases c:a=b
  ·rw[if_pos c]at h;rw[bytes_eq.2 c];exact hk _ h
  ·rw[if_neg c]at h;rw[Bool.eq_false_iff.2 fun e=>c (bytes_eq.1 e)];exact hk _ h
def evB (x:AV) (k:Bool→Option γ):Option γ:=
 match x with
 | .v (.d (.bool b))=>k b
 | _=>none
def evI (x:AV) (k:Int→Option γ):Option γ:=
 match x with
 | .v (.d (.int _ n))=>k n
 | _=>none
def evT (ti:Types) (t:TypeId) (k:TI→Option γ):Option γ:=
 match ti t with
 | some x=>k x
 | none=>none
def evL (x:AV) (k:Bool→Nat→List D→Option γ):Option γ:=
 match x with
 | .v (.d (.list ag sz rows))=>k ag sz rows
 | .v (.c (.lst _ ag sz rows))=>k ag sz rows
 | .v (.c (.nils ag sz))=>k ag sz []
 | .v (.c (.tl ag sz rows))=>k ag sz rows
 | _=>none
def evR (c:Bool) (x:Option γ):Option γ:=
 match c with
 | true=>x
 | false=>none
theorem evT_ok {ti:Types}{t:TypeId}{k:TI→Option γ}{P:TI→Prop}(hk:∀i,k i=some r→P i) (h:evT ti t k=some r):withT ti t P:=by
 unfold evT at h
 unfold withT
 split at h
 ·rename_i x hx;rw[hx];exact hk _ h
 ·cases h
theorem evR_ok {c:Bool}{x:Option γ}{P:Prop}(hk:x=some r→P) (h:evR c x=some r):req c P:=by
 cases c
 ·cases h
 ·exact hk h
theorem evI_ok {x:AV}{k:Int→Option γ}{P:IntKind→Int→Prop}(hk:∀q n,k n=some r→P q n) (h:evI x k=some r):withI x P:=by
 unfold evI at h
 split at h
 ·exact hk _ _ h
 ·cases h
theorem evL_ok {x:AV}{k:Bool→Nat→List D→Option γ}{P:Bool→Nat→List D→Prop}(hk:∀a s l,k a s l=some r→P a s l) (h:evL x k=some r):withL x P:=by
 unfold evL at h
 split at h
 ·exact hk _ _ _ h
 ·exact hk _ _ _ h
 ·exact hk _ _ _ h
 ·exact hk _ _ _ h
 ·cases h
theorem evB_ok {x:AV}{k:Bool→Option γ}{P:Bool→Prop}(hk:∀b,k b=some r→P b) (h:evB x k=some r):withB x P:=by
 unfold evB at h
 split at h
 ·exact hk _ h
 ·cases h
def evLoad (ti:Types) (t:TypeId) (x:AV) (h:Heap) (k:Out→Option γ):Option γ:=
 evT ti t fun i=>match x with
 | .v (.c (.ptr id o))=>(match h id with
  | some (.cells cs)=>evR (Nat.ble (o+i.size) cs.length) (k ⟨.v (V1.ofCells (rowD i.desc) ((cs.drop o).take i.size)),[id],[]⟩)
  | _=>none)
 | .v (.c (.row ag sz d))=>evR (rowD i.desc==ag) (evR (Nat.beq sz i.size) (k ⟨.v (.d d),[],[]⟩))
 | .v (.c (.rp cs))=>evR (Nat.ble i.size cs.length) (k ⟨.v (V1.ofCells (rowD i.desc) ((cs.take i.size).map CV.d)),[],[]⟩)
 | .v (.c (.fb id))=>evR (Nat.beq i.size 1) (k ⟨.v (V1.ofCells (rowD i.desc) [.ptr id 0]),[],[]⟩)
 | _=>none
theorem evLoad_ok {ti:Types}{t:TypeId}{x:AV}{h:Heap}{k:Out→Option γ}{P:Out→Prop}(hk:∀o,k o=some r→P o) (e:evLoad ti t x h k=some r):outLoad ti t x h P:=by
 unfold evLoad at e
 unfold outLoad
 refine evT_ok (fun i e=>?_) e
 split at e
 ·split at e
  ·rename_i hc
   simp only[hc]
   exact evR_ok (hk _) e
  ·cases e
 ·exact evR_ok (evR_ok (hk _)) e
 ·exact evR_ok (hk _) e
 ·exact evR_ok (hk _) e
 ·cases e
def evStore (ti:Types) (t:TypeId) (x y:AV) (h:Heap) (k:Out→Option γ):Option γ:=
 evT ti t fun i=>match y with
 | .v y=>(match x with
  | .v (.c (.ptr id o))=>(match h id with
   | some (.cells cs)=>evR (Nat.ble (o+i.size) cs.length) (evR (Nat.beq y.cells.length i.size) (k ⟨.u,[id],[(id,.cells (cs.take o++y.cells++cs.drop (o+i.size)))]⟩))
   | _=>none)
  | _=>none)
 | _=>none
theorem evStore_ok {ti:Types}{t:TypeId}{x y:AV}{h:Heap}{k:Out→Option γ}{P:Out→Prop}(hk:∀o,k o=some r→P o) (e:evStore ti t x y h k=some r):outStore ti t x y h P:=by
 unfold evStore at e
 unfold outStore
 refine evT_ok (fun i e=>?_) e
 split at e
 ·split at e
  ·split at e
   ·rename_i hc
    simp only[withV,hc]
    exact evR_ok (evR_ok (hk _)) e
   ·cases e
  ·cases e
 ·cases e
def evField (ti:Types) (t:TypeId) (x:AV) (f:Nat) (k:Out→Option γ):Option γ:=
 evT ti t fun i=>match i.desc with
 | .struct fs=>(match fs[f]? with
  | some fd=>evT ti fd.type fun j=>evR (Nat.blt 0 j.size) (match x with
   | .v (.c (.ptr id o))=>k ⟨.v (.c (.ptr id (o+fd.offset))),[],[]⟩
   | .v (.c (.row _ _ d))=>k ⟨.v (.c (.rp (d.cells.drop fd.offset))),[],[]⟩
   | .v (.c (.rp cs))=>k ⟨.v (.c (.rp (cs.drop fd.offset))),[],[]⟩
   | _=>none)
  | none=>none)
 | _=>none
theorem evField_ok {ti:Types}{t:TypeId}{x:AV}{f:Nat}{k:Out→Option γ}{P:Out→Prop}(hk:∀o,k o=some r→P o) (e:evField ti t x f k=some r):outField ti t x f P:=by
 unfold evField at e
 unfold outField
 refine evT_ok (fun i e=>?_) e
 split at e
 ·rename_i fs hf
  split at e
  ·rename_i fd hfd
   simp only[hf,hfd]
   refine evT_ok (fun j e=>evR_ok (fun e=>?_) e) e
   split at e
   ·exact hk _ e
   ·exact hk _ e
   ·exact hk _ e
   ·cases e
  ·cases e
 ·cases e
abbrev Ds (γ:Type):=TypeId→D→(D→Option γ)→Option γ
def Ds.ok (ds:Ds γ):Prop:=∀t x k r,ds t x k=some r→k x=some r
theorem evR_t {c:Bool}{x:Option γ}(h:evR c x=some r):c=true∧x=some r:=by
 cases c
 ·cases h
 ·exact⟨rfl,h⟩
def evIndex (ds:Ds γ) (ti:Types) (t:TypeId) (x i:AV) (k:Out→Option γ):Option γ:=
 evI i fun n=>evT ti t fun q=>match q.desc with
 | .slice e=>evT ti e fun j=>(match x with
  | .v (.c (.sl id len))=>(match n with
   | .ofNat p=>evR (Nat.blt p len) (k ⟨.v (.c (.ptr id (p*j.size))),[],[]⟩)
   | .negSucc _=>none)
  | x=>evL x fun ag sz rows=>evR (rowD j.desc==ag)<| evR (Nat.beq sz j.size)<| getF rows n fun d=>ds e d fun d=>k ⟨.v (.c (.row ag sz d)),[],[]⟩)
 | .array len e=>evT ti e fun j=>(match x with
  | .v (.c (.ptr id o))=>(match n with
   | .ofNat p=>evR (Nat.blt p len) (k ⟨.v (.c (.ptr id (o+p*j.size))),[],[]⟩)
   | .negSucc _=>none)
  | _=>none)
 | _=>none
theorem evIndex_ok {ds:Ds γ}(hd:ds.ok) {ti:Types}{t:TypeId}{x i:AV}{k:Out→Option γ}{P:Out→Prop}(hk:∀o,k o=some r→P o) (e:evIndex ds ti t x i k=some r):outIndex ti t x i P:=by
 unfold evIndex at e
 unfold outIndex
 refine evI_ok (fun _ n e=>evT_ok (fun q e=>?_) e) e
 split at e
 ·rename_i el hq
  simp only[hq]
  refine evT_ok (fun j e=>?_) e
  split at e
  ·split at e
   ·obtain⟨h1,e⟩:=evR_t e
    exact⟨_,⟨rfl,by simpa using h1⟩,hk _ e⟩
   ·cases e
  have main:withL x fun ag sz rows=>req (rowD j.desc==ag)<| req (Nat.beq sz j.size)<| ∃r_1,0≤n∧rows[n.toNat]?=some r_1∧P ⟨.v (.c (.row ag sz r_1)),[],[]⟩:=by
   refine evL_ok (fun ag sz rows e=>evR_ok (evR_ok fun e=>?_) e) e
   obtain⟨d,⟨h1,h2⟩,h3⟩:=getF_inv e
   exact⟨d,h1,h2,hk _ (hd _ _ _ _ h3)⟩
  split
  ·exact main.elim
  ·exact main
 ·rename_i hq
  simp only[hq]
  refine evT_ok (fun j e=>?_) e
  split at e
  ·split at e
   ·obtain⟨h1,e⟩:=evR_t e
    exact⟨Int.natCast_nonneg _,Int.ofNat_lt.2 (by simpa using h1),true,hk _ e⟩
   ·cases e
  ·cases e
 ·cases e
def evBin (ti:Types) (op:BinOp) (t:TypeId) (x y:AV) (k:Out→Option γ):Option γ:=
 match x,y with
 | .v (.d (.int q a)),.v (.d (.int q' b))=>evR (decide (q=q')) (evInt op q a b fun d=>k ⟨.v (.d d),[],[]⟩)
 | .v (.d (.str a)),.v (.d (.str b))=>evStr op a b fun d=>k ⟨.v (.d d),[],[]⟩
 | .v (.d (.bool a)),.v (.d (.bool b))=>evT ti t fun i=>(match i.desc with
  | .bool=>(match op with
   | .eql=>letB (a==b) fun q=>k ⟨.v (.d (.bool q)),[],[]⟩
   | .neq=>letB (!(a==b)) fun q=>k ⟨.v (.d (.bool q)),[],[]⟩
   | _=>none)
  | _=>none)
 | _,_=>none
theorem evBin_ok {M:Mach}{ti:Types}{op:BinOp}{t:TypeId}{x y:AV}{k:Out→Option γ}{P:Out→Prop}(hk:∀o,k o=some r→P o) (e:evBin ti op t x y k=some r):outBin M ti op t x y P:=by
 unfold evBin at e
 split at e
 ·exact evR_ok (fun e=>evInt_ok (fun d h=>hk _ h) e) e
 ·exact evStr_ok (fun d h=>hk _ h) e
 ·refine evT_ok (fun i e=>?_) e
  split at e
  ·rename_i hi
   simp only[hi]
   split at e
   ·exact⟨_,eqvB_eq _ _,hk _ e⟩
   ·exact⟨_,by rw[notB_eq,eqvB_eq],hk _ e⟩
   ·cases e
  ·cases e
 ·cases e
def evUn (op:UnOp) (x:AV) (k:Out→Option γ):Option γ:=
 match op,x with
 | .not,.v (.d (.bool b))=>letB (!b) fun q=>k ⟨.v (.d (.bool q)),[],[]⟩
 | _,_=>none
theorem evUn_ok {op:UnOp}{x:AV}{k:Out→Option γ}{P:Out→Prop}(hk:∀o,k o=some r→P o) (e:evUn op x k=some r):outUn op x P:=by
 unfold evUn at e
 split at e
 ·exact⟨_,notB_eq _,hk _ e⟩
 ·cases e
def evLen (ti:Types) (t:TypeId) (x:AV) (k:Out→Option γ):Option γ:=
 evT ti t fun q=>match q.desc with
 | .slice _=>(match x with
  | .v (.c (.sl _ n))=>k ⟨.v (.d (.int .i64 n)),[],[]⟩
  | x=>evL x fun _ _ rows=>lenF rows fun z=>k ⟨.v (.d (.int .i64 z)),[],[]⟩)
 | .string=>(match x with
  | .v (.d (.str s))=>szF s fun z=>k ⟨.v (.d (.int .i64 z)),[],[]⟩
  | _=>none)
 | .array n _=>k ⟨.v (.d (.int .i64 n)),[],[]⟩
 | _=>none
theorem evLen_ok {M:Mach}{ti:Types}{t:TypeId}{x:AV}{k:Out→Option γ}{P:Out→Prop}(hk:∀o,k o=some r→P o) (e:evLen ti t x k=some r):outLen M ti t x P:=by
 unfold evLen at e
 unfold outLen
 refine evT_ok (fun q e=>?_) e
 split at e
 ·rename_i hq
  simp only[hq]
  split at e
  ·exact⟨_,rfl,hk _ e⟩
  have main:withL x fun _ _ rows=>∃z:Int,M.lenI rows=z∧P ⟨.v (.d (.int .i64 z)),[],[]⟩:=evL_ok (fun _ _ rows e=>(lenF_inv M e).imp fun z h=>⟨h.1,hk _ h.2⟩) e
  split
  ·exact main.elim
  ·exact main
 ·rename_i hq
  simp only[hq]
  split at e
  ·exact (szF_inv M e).imp fun z h=>⟨h.1,hk _ h.2⟩
  ·cases e
 ·rename_i hq
  simp only[hq]
  exact hk _ e
 ·cases e
def evFill (ti:Types) (s:Slots) (fs:List Field) (cs:List CV):List (Nat×Operand)→(List CV→Option γ)→Option γ
 | [],k=>k cs
 | (i,x)::r,k=>match fs[i]? with
  | some fd=>evT ti fd.type fun j=>(match opd ti s fd.type x with
   | .v y=>evR (Nat.beq y.cells.length j.size)<| evR (Nat.ble (fd.offset+j.size) cs.length)<| evFill ti s fs (cs.take fd.offset++y.cells++cs.drop (fd.offset+j.size)) r k
   | _=>none)
  | none=>none
theorem evFill_ok {ti:Types}{s:Slots}{fs:List Field}:∀{l:List (Nat×Operand)}{cs:List CV}{k:List CV→Option γ}{P:List CV→Prop},(∀cs,k cs=some r→P cs)→evFill ti s fs cs l k=some r→fillP ti s fs cs l P
 | [],_,_,_,hk,e=>hk _ e
 | (i,x)::l,cs,k,P,hk,e=>by
  unfold evFill at e
  unfold fillP
  split at e
  ·rename_i fd hfd
   simp only[hfd]
   refine evT_ok (fun j e=>?_) e
   split at e
   ·rename_i y hy
    simp only[hy,withV]
    exact evR_ok (evR_ok fun e=>evFill_ok hk e) e
   ·cases e
  ·cases e
def evFillA (ti:Types) (s:Slots) (e:TypeId) (sz:Nat) (cs:List CV):List (Nat×Operand)→(List CV→Option γ)→Option γ
 | [],k=>k cs
 | (i,x)::r,k=>match opd ti s e x with
  | .v y=>evR (Nat.beq y.cells.length sz)<| evR (Nat.ble (i*sz+sz) cs.length)<| evFillA ti s e sz (cs.take (i*sz)++y.cells++cs.drop (i*sz+sz)) r k
  | _=>none
theorem evFillA_ok {ti:Types}{s:Slots}{e:TypeId}{sz:Nat}:∀{l:List (Nat×Operand)}{cs:List CV}{k:List CV→Option γ}{P:List CV→Prop},(∀cs,k cs=some r→P cs)→evFillA ti s e sz cs l k=some r→fillA ti s e sz cs l P
 | [],_,_,_,hk,h=>hk _ h
 | (i,x)::l,cs,k,P,hk,h=>by
  unfold evFillA at h
  unfold fillA
  split at h
  ·rename_i y hy
   simp only[hy,withV]
   exact evR_ok (evR_ok fun h=>evFillA_ok hk h) h
  ·cases h
def evBuild (ti:Types) (s:Slots) (t:TypeId) (parts:List (Nat×Operand)) (k:Out→Option γ):Option γ:=
 evT ti t fun q=>match q.desc with
 | .struct fs=>evR (tiAll ti fs.toList)<| evFill ti s fs.toList q.zc parts fun cs=>k ⟨.v (V1.ofCells true cs),[],[]⟩
 | .array _ e=>evT ti e fun j=>evFillA ti s e j.size q.zc parts fun cs=>k ⟨.v (V1.ofCells true cs),[],[]⟩
 | _=>none
theorem evBuild_ok {ti:Types}{s:Slots}{t:TypeId}{parts:List (Nat×Operand)}{k:Out→Option γ}{P:Out→Prop}(hk:∀o,k o=some r→P o) (e:evBuild ti s t parts k=some r):outBuild ti s t parts P:=by
 unfold evBuild at e
 unfold outBuild
 refine evT_ok (fun q e=>?_) e
 split at e
 ·rename_i hq
  simp only[hq]
  exact evR_ok (fun e=>evFill_ok (fun cs h=>hk _ h) e) e
 ·rename_i hq
  simp only[hq]
  exact evT_ok (fun j e=>evFillA_ok (fun cs h=>hk _ h) e) e
 ·cases e
def evFieldV (ti:Types) (t:TypeId) (x:AV) (f:Nat) (k:Out→Option γ):Option γ:=
 evT ti t fun i=>match i.desc with
 | .struct fs=>(match fs[f]? with
  | some fd=>evT ti fd.type fun j=>(match x with
   | .v y=>evR (isAggV y)<| evR (Nat.ble (fd.offset+j.size) y.cells.length)<| k ⟨.v (V1.ofCells (rowD j.desc) ((y.cells.drop fd.offset).take j.size)),[],[]⟩
   | _=>none)
  | none=>none)
 | _=>none
theorem evFieldV_ok {ti:Types}{t:TypeId}{x:AV}{f:Nat}{k:Out→Option γ}{P:Out→Prop}(hk:∀o,k o=some r→P o) (e:evFieldV ti t x f k=some r):outFieldV ti t x f P:=by
 unfold evFieldV at e
 unfold outFieldV
 refine evT_ok (fun i e=>?_) e
 split at e
 ·rename_i fs hf
  split at e
  ·rename_i fd hfd
   simp only[hf,hfd]
   refine evT_ok (fun j e=>?_) e
   split at e
   ·simp only[withV];exact evR_ok (evR_ok (hk _)) e
   ·cases e
  ·cases e
 ·cases e
def evExtract (x:AV) (i:Nat) (k:Out→Option γ):Option γ:=
 match x with
 | .t xs=>(match nthV xs i with
  | some y=>k ⟨.v y,[],[]⟩
  | none=>none)
 | _=>none
theorem evExtract_ok {x:AV}{i:Nat}{k:Out→Option γ}{P:Out→Prop}(hk:∀o,k o=some r→P o) (e:evExtract x i k=some r):outExtract x i P:=by
 unfold evExtract at e
 split at e
 ·split at e
  ·rename_i hy
   simp only[outExtract,hy];exact hk _ e
  ·cases e
 ·cases e
def evAtF (ti:Types) (t:TypeId) (x i:AV) (k:Out→Option γ):Option γ:=
 evI i fun n=>evT ti t fun q=>match q.desc with
 | .string=>(match x with
  | .v (.d (.str b))=>atF b n fun z=>k ⟨.v (.d (.int .u8 z)),[],[]⟩
  | _=>none)
 | _=>none
theorem evAtF_ok {ti:Types}{t:TypeId}{x i:AV}{k:Out→Option γ}{P:Out→Prop}(hk:∀o,k o=some r→P o) (e:evAtF ti t x i k=some r):outIndexV ti t x i P:=by
 unfold evAtF at e
 unfold outIndexV
 refine evI_ok (fun _ n e=>evT_ok (fun q e=>?_) e) e
 split at e
 ·rename_i hq
  simp only[hq]
  split at e
  ·obtain⟨z,h1,h2⟩:=atF_inv e
   exact⟨z,h1,hk _ h2⟩
  ·cases e
 ·cases e
def evConvert (ti:Types) (src dst:TypeId) (x:AV) (k:Out→Option γ):Option γ:=
 evT ti src fun a=>evT ti dst fun b=>match a.desc,b.desc with
 | .int _,.int q=>evI x fun n=>letF (q.wrap n) fun z=>k ⟨.v (.d (.int q z)),[],[]⟩
 | _,_=>none
theorem evConvert_ok {ti:Types}{src dst:TypeId}{x:AV}{k:Out→Option γ}{P:Out→Prop}(hk:∀o,k o=some r→P o) (e:evConvert ti src dst x k=some r):outConvert ti src dst x P:=by
 unfold evConvert at e
 unfold outConvert
 refine evT_ok (fun a e=>evT_ok (fun b e=>?_) e) e
 split at e
 ·rename_i h1 h2
  simp only[h1,h2]
  exact evI_ok (fun _ n e=>(letF_inv e).imp fun z h=>⟨h.1,hk _ h.2⟩) e
 ·cases e
def evOp0 (ds:Ds γ) (ti:Types) (o:Oper) (fresh:Nat) (s:Slots) (h:Heap) (k:Out→Option γ):Option γ:=
 match o.op with
 | .move x=>k ⟨opd ti s o.type x,[],[]⟩
 | .assign x=>k ⟨opd ti s o.type x,[],[]⟩
 | .alloc t=>evT ti t fun i=>k ⟨ptrTo fresh,[],[(.loc fresh,.cells i.zc)]⟩
 | .box t x=>(match opd ti s t x with
  | .v y=>k ⟨ptrTo fresh,[],[(.loc fresh,.cells y.cells)]⟩
  | _=>none)
 | .load t x=>evLoad ti t (opd ti s 0 x) h k
 | .store t x y=>evStore ti t (opd ti s 0 x) (opd ti s t y) h k
 | .fieldAddr t x f=>evField ti t (opd ti s 0 x) f k
 | .indexAddr t x i=>evIndex ds ti t (opd ti s t x) (opd ti s 3 i) k
 | .nilCheck x=>(match opd ti s 0 x with
  | .v (.c (.ptr i q))=>k ⟨.v (.c (.ptr i q)),[],[]⟩
  | _=>none)
 | .binOp op t x y _=>evBin ti op t (opd ti s t x) (opd ti s t y) k
 | .unOp op _ x=>evUn op (opd ti s o.type x) k
 | .makeFunc fn first captured=>(match fn,first.toList with
  | .func f,[]=>(match caps (captured.toList.map (opd ti s 0))with
   | some l=>k ⟨.v (.c (.fn f l)),[],[]⟩
   | none=>none)
  | _,_=>none)
 | .build t parts=>evBuild ti s t parts.toList k
 | .index t x i=>evAtF ti t (opd ti s t x) (opd ti s 3 i) k
 | .field t x f=>evFieldV ti t (opd ti s t x) f k
 | .extract x i=>evExtract (opd ti s 0 x) i k
 | .convert a b x=>evConvert ti a b (opd ti s a x) k
 | .call c=>(match c.callee with
  | .builtin .len=>(match c.args.toList,c.argTypes.toList with
   | [x],[t]=>evLen ti t (opd ti s t x) k
   | _,_=>none)
  | _=>none)
 | _=>none
theorem evOp0_ok {ds:Ds γ}(hd:ds.ok) {M:Mach}{ti:Types}{o:Oper}{fresh:Nat}{s:Slots}{h:Heap}{k:Out→Option γ}{P:Out→Prop}(hk:∀o,k o=some r→P o) (e:evOp0 ds ti o fresh s h k=some r):opOut0 M ti o fresh s h P:=by
 unfold evOp0 at e
 unfold opOut0
 split at e<;>rename_i ho<;>first | (cases e;done) | simp only[ho]
 ·exact hk _ e
 ·exact hk _ e
 ·exact evT_ok (fun _ e=>hk _ e) e
 ·split at e
  ·rename_i hy;simp only[hy,withV];exact hk _ e
  ·cases e
 ·exact evLoad_ok hk e
 ·exact evStore_ok hk e
 ·exact evField_ok hk e
 ·exact evIndex_ok hd hk e
 ·split at e
  ·rename_i hy;simp only[hy];exact hk _ e
  ·cases e
 ·exact evBin_ok hk e
 ·exact evUn_ok hk e
 ·split at e
  ·rename_i hf
   simp only[hf]
   split at e
   ·rename_i h3;simp only[h3];exact hk _ e
   ·cases e
  ·cases e
 ·exact evBuild_ok hk e
 ·exact evAtF_ok hk e
 ·exact evFieldV_ok hk e
 ·exact evExtract_ok hk e
 ·exact evConvert_ok hk e
 ·split at e
  ·rename_i hc
   simp only[hc]
   split at e
   ·rename_i h1 h2
    simp only[h1,h2]
    exact evLen_ok hk e
   ·cases e
  ·cases e
end
end Go.AM
namespace Go.AM
open Go Go.RowKit
def idsC:CV→List Id
 | .ptr i _=>[i]
 | .fn _ cap=>cap
 | .lst i _ _ _=>[i]
 | .sl i _=>[i]
 | .map i=>[i]
 | .ap i _ _ _ _=>[i]
 | .ow i=>[i]
 | .op i _ _ _=>[i]
 | .yl i=>[i]
 | .bm _ i=>[i]
 | .fb i=>[i]
 | _=>[]
def idsCs:List CV→List Id
 | []=>[]
 | c::cs=>idsC c++idsCs cs
def idsV:V1→List Id
 | .d _=>[]
 | .c x=>idsC x
 | .agg cs=>idsCs cs
def idsVs:List V1→List Id
 | []=>[]
 | x::xs=>idsV x++idsVs xs
def idsO:Option AObj→List Id
 | some (.cells cs)=>idsCs cs
 | _=>[]
def reachI (h:Heap):Nat→List Id→List Id→List Id
 | 0,_,acc=>acc
 | _+1,[],acc=>acc
 | n+1,i::t,acc=>match idIn i acc with
  | true=>reachI h n t acc
  | false=>reachI h n (idsO (h i)++t) (acc++[i])
def posI:List Id→Nat→Id→Option Nat
 | [],_,_=>none
 | j::l,n,i=>match Id.beq j i with
  | true=>some n
  | false=>posI l (n+1) i
def inId (m:List Id) (i:Id):Id:=match posI m 0 i with
 | some j=>.ext j
 | none=>i
def objsAt (h:Heap):List Id→Option (List AObj)
 | []=>some []
 | i::l=>match h i with
  | some o=>(match objsAt h l with
   | some r=>some (o::r)
   | none=>none)
  | none=>none
theorem objsAt_len {h:Heap}:∀{l:List Id}{r:List AObj},objsAt h l=some r→l.length=r.length∧∀(j:Nat) i o,l[j]?=some i→r[j]?=some o→h i=some o
 | [],r,e=>by cases e;exact⟨rfl,by simp⟩
 | i::l,r,e=>by
  unfold objsAt at e
  split at e
  ·rename_i o ho
   split at e
   ·rename_i r' hr
    cases e
    obtain⟨h1,h2⟩:=objsAt_len hr
    refine⟨by simp[h1],fun j x y hx hy=>?_⟩
    cases j with
    | zero=>simp at hx hy;subst hx;subst hy;exact ho
    | succ j=>simp at hx hy;exact h2 j x y hx hy
   ·cases e
  ·cases e
def kindB:AObj→AObj→Bool
 | .cells _,.cells _=>true
 | _,.gone=>true
 | _,_=>false
def kindsB:List AObj→List AObj→Bool
 | [],[]=>true
 | a::al,b::bs=>match kindB a b with
  | true=>kindsB al bs
  | false=>false
 | _,_=>false
theorem kindB_ok {a b:AObj}(h:kindB a b=true):sameKind a b:=by
 unfold kindB at h
 split at h
 ·trivial
 ·cases a<;>trivial
 ·cases h
theorem kindsB_ok:∀{a b:List AObj},kindsB a b=true→allKinds a b
 | [],[],_=>trivial
 | a::al,b::bs,h=>by
  unfold kindsB at h
  split at h
  ·rename_i hk;exact⟨kindB_ok hk,kindsB_ok h⟩
  ·cases h
 | [],_::_,h=>by cases h
 | _::_,[],h=>by cases h
section
variable {γ:Type}{r:γ}
abbrev Cl (γ:Type):=FuncId→List V1→List AObj→(Ret→Option γ)→Option γ
def Cl.ok (P:Program) (I:Inv) (call:Cl γ):Prop:=∀f args pre k r,call f args pre k=some r→∃res post new,Trip P I f args pre res post new∧k ⟨res,post,new⟩=some r
def backB (m:List Id) (fresh:Nat) (i:Id):Bool:=Id.beq (renM m fresh (inId m i)) i
theorem backB_ok {m:List Id}{fresh:Nat}{i:Id}(h:backB m fresh i=true):renM m fresh (inId m i)=i:=Id.beq_iff.1 h
def evCall (call:Cl γ) (f:FuncId) (xs:List V1) (fresh:Nat) (h:Heap) (k:Out→Option γ):Option γ:=
 match objsAt h (reachI h 100 (idsVs xs) [])with
 | none=>none
 | some objs=>evR (allB (v1P (backB (reachI h 100 (idsVs xs) []) fresh)) xs)<| evR (allB (objP (backB (reachI h 100 (idsVs xs) []) fresh)) objs)<| evR (nodupB (reachI h 100 (idsVs xs) []))<|
   call f (xs.map (V1.ren (inId (reachI h 100 (idsVs xs) [])))) (objs.map (AObj.ren (inId (reachI h 100 (idsVs xs) [])))) fun ret=>
    evR (kindsB (objs.map (AObj.ren (inId (reachI h 100 (idsVs xs) [])))) ret.post)<| evR (Nat.ble ret.new.length 31)<|
     k ⟨ret.res.ren (renM (reachI h 100 (idsVs xs) []) fresh),reachI h 100 (idsVs xs) [],wrM (reachI h 100 (idsVs xs) []) (renM (reachI h 100 (idsVs xs) []) fresh) ret.post++wrNew fresh (renM (reachI h 100 (idsVs xs) []) fresh) 0 ret.new⟩
theorem evR_some {c:Bool}{x:Option γ}(h:evR c x=some r):c=true∧x=some r:=by
 cases c
 ·cases h
 ·exact⟨rfl,h⟩
theorem nodup_of {l:List Id}(h:nodupB l=true):l.Nodup:=by
 induction l with
 | nil=>exact List.nodup_nil
 | cons i l ih=>
  unfold nodupB at h
  split at h
  ·cases h
  ·rename_i hi
   refine List.nodup_cons.2 ⟨fun hm=>?_,ih h⟩
   rw[idIn_iff.2 hm]at hi
   cases hi
theorem evCall_ok {P:Program}{I:Inv}{call:Cl γ}(hc:call.ok P I) {f:FuncId}{xs:List V1}{fresh:Nat}{h:Heap}{k:Out→Option γ}{A:Out→Prop}(hk:∀o,k o=some r→A o) (e:evCall call f xs fresh h k=some r):outCall P I f xs fresh h A:=by
 unfold evCall at e
 generalize reachI h 100 (idsVs xs) []=m at e
 split at e
 ·cases e
 ·rename_i objs ho
  obtain⟨h1,e⟩:=evR_some e
  obtain⟨h2,e⟩:=evR_some e
  obtain⟨h3,e⟩:=evR_some e
  obtain⟨res,post,new,ht,e⟩:=hc _ _ _ _ _ e
  obtain⟨h4,e⟩:=evR_some e
  obtain⟨h5,e⟩:=evR_some e
  obtain⟨g1,g2⟩:=objsAt_len ho
  refine⟨m,_,_,res,post,new,ht,?_,by simpa using g1,nodup_of h3,fun j i o hm hp=>?_,kindsB_ok h4,Nat.le_of_ble_eq_true h5,hk _ e⟩
  ·rw[List.map_map]
   rw[allB_iff]at h1
   exact (map_same fun x hx=>ren_v1 (fun i hi=>backB_ok hi) (h1 x hx)).symm
  ·rw[List.getElem?_map,Option.map_eq_some_iff]at hp
   obtain⟨o',ho',rfl⟩:=hp
   rw[allB_iff]at h2
   rw[ren_obj (p:=backB m fresh) (fun i hi=>backB_ok hi) (h2 o' (List.mem_of_getElem? ho'))]
   exact g2 j i o' hm ho'
def eqIdl:List Id→List Id→Bool
 | [],[]=>true
 | i::a,j::b=>(match Id.beq i j with
  | true=>eqIdl a b
  | false=>false)
 | _,_=>false
theorem eqIdl_ok:∀{a b:List Id},eqIdl a b=true→a=b
 | [],[],_=>rfl
 | i::a,j::b,h=>by
  unfold eqIdl at h
  split at h
  ·rename_i hb;rw[Id.beq_iff.1 hb,eqIdl_ok h]
  ·cases h
 | [],_::_,h=>by cases h
 | _::_,[],h=>by cases h
def eqCV:CV→CV→Bool
 | .ptr i o,.ptr j q=>(match Id.beq i j with
  | true=>Nat.beq o q
  | false=>false)
 | .fn f c,.fn g d=>(match Nat.beq f g with
  | true=>eqIdl c d
  | false=>false)
 | .nilp,.nilp=>true
 | .nilf,.nilf=>true
 | _,_=>false
theorem eqCV_ok {a b:CV}(h:eqCV a b=true):a=b:=by
 unfold eqCV at h
 split at h
 ·split at h
  ·rename_i hb;rw[Id.beq_iff.1 hb,Nat.eq_of_beq_eq_true h]
  ·cases h
 ·split at h
  ·rename_i hb;rw[Nat.eq_of_beq_eq_true hb,eqIdl_ok h]
  ·cases h
 ·rfl
 ·rfl
 ·cases h
def eqCVs:List CV→List CV→Bool
 | [],[]=>true
 | i::a,j::b=>(match eqCV i j with
  | true=>eqCVs a b
  | false=>false)
 | _,_=>false
theorem eqCVs_ok:∀{a b:List CV},eqCVs a b=true→a=b
 | [],[],_=>rfl
 | i::a,j::b,h=>by
  unfold eqCVs at h
  split at h
  ·rename_i hb;rw[eqCV_ok hb,eqCVs_ok h]
  ·cases h
 | [],_::_,h=>by cases h
 | _::_,[],h=>by cases h
def constIds (h:Heap):List Id→List Id
 | []=>[]
 | i::l=>(match h i with
  | some (.cells cs)=>(match eqCVs cs cs with
   | true=>i::constIds h l
   | false=>constIds h l)
  | _=>constIds h l)
def evKeepW (h:Heap) (ids rd:List Id):List (Id×AObj)→(List (Id×AObj)→Option γ)→Option γ
 | [],K=>K []
 | x::l,K=>(match idIn x.1 ids with
  | true=>(match idIn x.1 rd with
   | true=>(match h x.1,x.2 with
    | some (.cells a),.cells b=>evR (eqCVs a b) (evKeepW h ids rd l K)
    | _,_=>none)
   | false=>none)
  | false=>evKeepW h ids rd l fun wr=>K (x::wr))
theorem evKeepW_ok {h:Heap}{ids rd:List Id}:∀{wr:List (Id×AObj)}{K:List (Id×AObj)→Option γ}{A:List (Id×AObj)→Prop},(∀w,K w=some r→A w)→evKeepW h ids rd wr K=some r→keepW h ids rd wr A
 | [],_,_,hk,e=>hk _ e
 | x::l,K,A,hk,e=>by
  obtain⟨i,o⟩:=x
  unfold evKeepW at e
  unfold keepW
  simp only[]at e ⊢
  split at e
  ·rename_i h1
   rw[h1]
   split at e
   ·rename_i h2
    rw[h2]
    split at e
    ·rename_i h3
     obtain⟨h4,e⟩:=evR_some e
     exact⟨by rw[h3,eqCVs_ok h4],evKeepW_ok hk e⟩
    ·cases e
   ·cases e
  ·rename_i h1
   rw[h1]
   exact evKeepW_ok (fun w hw=>hk _ hw) e
def evRows (ti:Types) (s:Slots) (e:TypeId) (ag:Bool) (sz:Nat):Nat→List (Nat×Operand)→(List D→Option γ)→Option γ
 | _,[],k=>k []
 | n,(i,x)::l,k=>evR (Nat.beq i n)<| (match opd ti s e x with
  | .v y=>(match y.norm with
   | .d d=>evR (d.isAgg==ag)<| evR (Nat.beq d.cells.length sz)<| evRows ti s e ag sz (n+1) l fun ds=>k (d::ds)
   | _=>none)
  | _=>none)
theorem evRows_ok {ti:Types}{s:Slots}{e:TypeId}{ag:Bool}{sz:Nat}:∀{l:List (Nat×Operand)}{n:Nat}{k:List D→Option γ}{A:List D→Prop},(∀w,k w=some r→A w)→evRows ti s e ag sz n l k=some r→rowsP ti s e ag sz n l A
 | [],_,_,_,hk,h=>hk _ h
 | (i,x)::l,n,k,A,hk,h=>by
  unfold evRows at h
  unfold rowsP
  refine evR_ok (fun h=>?_) h
  split at h
  ·rename_i hy
   simp only[hy]
   split at h
   ·rename_i hd
    simp only[hd]
    exact evR_ok (evR_ok fun h=>evRows_ok (fun w hw=>hk _ hw) h) h
   ·cases h
  ·cases h
def evBuildSlice (ti:Types) (s:Slots) (t:TypeId) (len:Nat) (parts:List (Nat×Operand)) (k:Out→Option γ):Option γ:=
 evT ti t fun q=>match q.desc with
 | .slice e=>evT ti e fun j=>evR (Nat.ble (len*j.size) 16777216)<| evR (Nat.beq parts.length len)<| evR (Nat.blt 0 j.size)<| evRows ti s e (rowD j.desc) j.size 0 parts fun ds=>
   k ⟨.v (.c (.tl (rowD j.desc) j.size ds)),[],[]⟩
 | _=>none
theorem evBuildSlice_ok {ti:Types}{s:Slots}{t:TypeId}{len:Nat}{parts:List (Nat×Operand)}{k:Out→Option γ}{A:Out→Prop}(hk:∀o,k o=some r→A o) (h:evBuildSlice ti s t len parts k=some r):outBuildSlice ti s t len parts A:=by
 unfold evBuildSlice at h
 unfold outBuildSlice
 refine evT_ok (fun q h=>?_) h
 split at h
 ·rename_i hq
  simp only[hq]
  exact evT_ok (fun j h=>evR_ok (evR_ok (evR_ok fun h=>evRows_ok (fun w hw=>hk _ hw) h)) h) h
 ·cases h
def evMM (mn:Bool) (x y:AV) (k:Out→Option γ):Option γ:=
 match x,y with
 | .v (.d (.int q a)),.v (.d (.int q' b))=>evR (decide (q=q'))<| (match mn with
  | true=>letF (if b<a then b else a) fun z=>k ⟨.v (.d (.int q z)),[],[]⟩
  | false=>letF (if b>a then b else a) fun z=>k ⟨.v (.d (.int q z)),[],[]⟩)
 | _,_=>none
theorem evMM_ok {mn:Bool}{x y:AV}{k:Out→Option γ}{A:Out→Prop}(hk:∀o,k o=some r→A o) (e:evMM mn x y k=some r):outMinMax mn x y A:=by
 unfold evMM at e
 split at e
 ·refine evR_ok (fun e=>?_) e
  cases mn with
  | true=>obtain⟨z,h1,h2⟩:=letF_inv e;exact⟨z,h1,hk _ h2⟩
  | false=>obtain⟨z,h1,h2⟩:=letF_inv e;exact⟨z,h1,hk _ h2⟩
 ·cases e
def evOp (ds:Ds γ) (call:Cl γ) (ti:Types) (o:Oper) (fresh:Nat) (s:Slots) (h:Heap) (k:Out→Option γ):Option γ:=
 match o.op with
 | .call c=>(match c.callee with
  | .value f=>(match opd ti s 0 f with
   | .v (.c (.fn n cap))=>(match vals1 (opsArgs ti s c.args.toList c.argTypes.toList)with
    | some xs=>evCall call n (xs++cap.map fun i=>V1.c (.ptr i 0)) fresh h fun out=>evKeepW h (constIds h (reachI h 100 (idsVs (xs++cap.map fun i=>V1.c (.ptr i 0))) [])) out.rd out.wr fun wr=>k ⟨out.val,out.rd,wr⟩
    | none=>none)
   | _=>none)
  | .builtin .len=>(match c.args.toList,c.argTypes.toList with
   | [x],[t]=>evR (notB (isT (opd ti s t x))) (evOp0 ds ti o fresh s h k)
   | _,_=>none)
  | .builtin .max=>(match c.args.toList,c.argTypes.toList with
   | [x,y],[t,t']=>evMM false (opd ti s t x) (opd ti s t' y) k
   | _,_=>none)
  | .builtin .min=>(match c.args.toList,c.argTypes.toList with
   | [x,y],[t,t']=>evMM true (opd ti s t x) (opd ti s t' y) k
   | _,_=>none)
  | _=>none)
 | .load _ x=>evR (notB (isT (opd ti s 0 x)))<| evR (notB (isArr (opd ti s 0 x) h)) (evOp0 ds ti o fresh s h k)
 | .store _ x _=>evR (notB (isT (opd ti s 0 x)))<| evR (notB (isArr (opd ti s 0 x) h)) (evOp0 ds ti o fresh s h k)
 | .fieldAddr _ x _=>evR (notB (isT (opd ti s 0 x))) (evOp0 ds ti o fresh s h k)
 | .indexAddr t x _=>evR (notB (isT (opd ti s t x))) (evOp0 ds ti o fresh s h k)
 | .nilCheck x=>evR (notB (isT (opd ti s 0 x))) (evOp0 ds ti o fresh s h k)
 | .binOp _ t x _ _=>evR (notB (isAggA (opd ti s t x)))<| evR (notB (isT (opd ti s t x))) (evOp0 ds ti o fresh s h k)
 | .convert a _ x=>evR (isIntA (opd ti s a x)) (evOp0 ds ti o fresh s h k)
 | .move _=>evOp0 ds ti o fresh s h k
 | .assign _=>evOp0 ds ti o fresh s h k
 | .alloc _=>evOp0 ds ti o fresh s h k
 | .box _ _=>evOp0 ds ti o fresh s h k
 | .unOp _ _ _=>evOp0 ds ti o fresh s h k
 | .makeFunc _ _ _=>evOp0 ds ti o fresh s h k
 | .build _ _=>evOp0 ds ti o fresh s h k
 | .index _ _ _=>evOp0 ds ti o fresh s h k
 | .field _ _ _=>evOp0 ds ti o fresh s h k
 | .extract _ _=>evOp0 ds ti o fresh s h k
 | .buildSlice t len parts=>evR (notB (anyFz ti s parts.toList)) (evBuildSlice ti s t len parts.toList k)
 | .pick c a b=>evB (opd ti s 0 c) fun q=>if q=true then k ⟨opd ti s o.type a,[],[]⟩else k ⟨opd ti s o.type b,[],[]⟩
 | _=>none
theorem notB_t {b:Bool}(h:notB b=true):b=false:=by cases b;rfl;cases h
theorem evOp_ok {M:Mach}{ds:Ds γ}(hd:ds.ok) {call:Cl γ}(hc:call.ok M.P M.I) {ti:Types}{o:Oper}{fresh:Nat}{s:Slots}{h:Heap}{k:Out→Option γ}{A:Out→Prop}(hk:∀o,k o=some r→A o) (e:evOp ds call ti o fresh s h k=some r):opOut M ti o fresh s h A:=by
 unfold evOp at e
 unfold opOut
 split at e<;>rename_i ho<;>first | (cases e;done) | simp only[ho]
 ·split at e
  ·rename_i hcal
   simp only[hcal]
   split at e
   ·rename_i n cap hf
    split at e
    ·rename_i xs hxs
     refine .inr (.inr ⟨constIds h (reachI h 100 (idsVs (xs++cap.map fun i=>V1.c (.ptr i 0))) []),?_⟩)
     show opOut0 M ti o fresh s h _
     unfold opOut0
     simp only[ho,hcal]
     unfold outCallV
     simp only[hf]
     refine⟨true,?_⟩
     show withArgs _ _
     unfold withArgs
     simp only[hxs]
     exact (M.lock_iff _).2 (evCall_ok hc (fun out e=>evKeepW_ok (fun w hw=>hk _ hw) e) e)
    ·cases e
   ·cases e
  ·rename_i hcal
   simp only[hcal]
   split at e
   ·rename_i h1 h2
    simp only[h1,h2]
    obtain⟨h3,e⟩:=evR_some e
    simp only[notB_t h3]
    exact evOp0_ok hd hk e
   ·cases e
  ·rename_i hcal
   simp only[hcal]
   split at e
   ·rename_i h1 h2
    simp only[h1,h2]
    exact evMM_ok hk e
   ·cases e
  ·rename_i hcal
   simp only[hcal]
   split at e
   ·rename_i h1 h2
    simp only[h1,h2]
    exact evMM_ok hk e
   ·cases e
  ·cases e
 all_goals first | exact evOp0_ok hd hk e | skip
 rotate_right 2
 ·obtain⟨h3,e⟩:=evR_some e
  simp only[notB_t h3]
  refine⟨false,?_⟩
  show opOut0 M ti o fresh s h _
  unfold opOut0
  simp only[ho]
  exact⟨true,evBuildSlice_ok hk e⟩
 ·show opOut0 M ti o fresh s h _
  unfold opOut0
  simp only[ho]
  refine evB_ok (fun q e=>?_) e
  cases q with
  | true=>rw[if_pos rfl]at e;exact hk _ e
  | false=>rw[if_neg Bool.false_ne_true]at e;exact hk _ e
 ·obtain⟨h3,e⟩:=evR_some e
  obtain⟨h4,e⟩:=evR_some e
  simp only[notB_t h3,notB_t h4];exact evOp0_ok hd hk e
 ·obtain⟨h3,e⟩:=evR_some e
  obtain⟨h4,e⟩:=evR_some e
  simp only[notB_t h3,notB_t h4];exact evOp0_ok hd hk e
 ·obtain⟨h3,e⟩:=evR_some e;simp only[notB_t h3];exact evOp0_ok hd hk e
 ·obtain⟨h3,e⟩:=evR_some e;simp only[notB_t h3];exact evOp0_ok hd hk e
 ·obtain⟨h3,e⟩:=evR_some e;simp only[notB_t h3];exact evOp0_ok hd hk e
 ·obtain⟨h3,e⟩:=evR_some e
  obtain⟨h4,e⟩:=evR_some e
  simp only[notB_t h3,notB_t h4];exact evOp0_ok hd hk e
 ·obtain⟨h3,e⟩:=evR_some e;simp only[h3];exact evOp0_ok hd hk e
def storeB (o:Oper):Bool:=
 match o.op with
 | .store ..=>o.dst.isNone
 | .mapUpdate ..=>o.dst.isNone
 | .insert ..=>o.dst.isNone
 | .defer _=>false
 | _=>true
theorem dfCall_none {o:Oper}(h:storeB o=true):dfCall o=none:=by
 unfold storeB at h
 unfold dfCall
 split at h<;>rename_i ho<;>simp[ho]at h ⊢
theorem storeB_ok {o:Oper}{K:Prop}(h:storeB o=true) (hk:K):storeOK o K:=by
 unfold storeB at h
 unfold storeOK
 split at h<;>rename_i ho<;>simp only[ho]
 ·cases hd:o.dst with
  | none=>exact hk
  | some d=>rw[hd]at h;cases h
 ·cases hd:o.dst with
  | none=>exact hk
  | some d=>rw[hd]at h;cases h
 ·cases hd:o.dst with
  | none=>exact hk
  | some d=>rw[hd]at h;cases h
 ·cases h
 ·exact hk
def dstB (nt:Nat) (d:Option Tmp):Bool:=
 match d with
 | none=>true
 | some d=>Nat.blt d nt
theorem dstB_ok {nt:Nat}{d:Option Tmp}{K:Prop}(h:dstB nt d=true) (hk:K):dstOK nt d K:=by
 cases d with
 | none=>exact hk
 | some d=>exact req_iff.2 ⟨h,hk⟩
def isNone {α:Type}:Option α→Bool
 | none=>true
 | some _=>false
theorem isNone_ok {α:Type}{x:Option α}(h:isNone x=true):x=none:=by cases x;rfl;cases h
def repS:List (Nat×AV)→Nat→AV→List (Nat×AV)
 | [],_,_=>[]
 | x::l,t,v=>(match Nat.beq x.1 t with
  | true=>(x.1,v)::l
  | false=>x::repS l t v)
theorem repS_id:∀{l:List (Nat×AV)}{t:Nat}{v:AV},getS l t=v→repS l t v=l
 | [],_,_,_=>rfl
 | (k,v0)::l,t,v,h=>by
  unfold getS at h
  unfold repS
  split at h
  ·rename_i hb;simp only[hb,h]
  ·rename_i hb;simp only[hb,repS_id h]
def evGuard (ops:Array Oper) (o:Oper) (σ:St) (K1 K0:St→Option γ):Option γ:=
 match o.guard with
 | none=>K1 σ
 | some (j,want)=>(match (ops[j]?).bind (·.dst)with
  | none=>none
  | some d=>(match getS σ.slots d with
   | .v (.d (.bool c))=>(match want with
    | true=>if c=true then K1 ⟨repS σ.slots d (.v (.d (.bool true))),σ.heap,σ.next⟩else K0 ⟨repS σ.slots d (.v (.d (.bool false))),σ.heap,σ.next⟩
    | false=>if c=true then K0 ⟨repS σ.slots d (.v (.d (.bool true))),σ.heap,σ.next⟩else K1 ⟨repS σ.slots d (.v (.d (.bool false))),σ.heap,σ.next⟩)
   | .t []=>K0 σ
   | _=>none))
theorem evGuard_ok {ops:Array Oper}{o:Oper}{σ:St}{K1 K0:St→Option γ}{P1 P0:St→Prop}(h1:K1 σ=some r→P1 σ) (h0:K0 σ=some r→P0 σ) (e:evGuard ops o σ K1 K0=some r):guarded ops o σ P1 P0:=by
 unfold evGuard at e
 unfold guarded
 split at e
 ·rename_i hg;simp only[hg];exact h1 e
 ·rename_i j want hg
  simp only[hg]
  split at e
  ·cases e
  ·rename_i d hd
   simp only[hd]
   split at e
   ·rename_i c hs
    simp only[hs]
    cases want<;>cases c<;>simp only[if_true,Bool.false_eq_true,if_false,repS_id hs]at e ⊢
    ·exact h1 e
    ·exact h0 e
    ·exact h0 e
    ·exact h1 e
   ·rename_i hs;simp only[hs];exact h0 e
   ·cases e
def evStep (ds:Ds γ) (call:Cl γ) (ti:Types) (nt:Nat) (o:Oper) (fresh:Nat) (σ:St) (K:St→Option γ):Option γ:=
 evR (storeB o)<| evR (dstB nt o.dst)<| evR (isNone (nilCmp ti o (getS σ.slots) (getH σ.heap)))<| evR (isValCall o || isNone (gsel ti o (getS σ.slots) (getH σ.heap)))<|
  evOp ds call ti o fresh (getS σ.slots) (getH σ.heap) fun out=>K ⟨putS σ.slots o.dst out.val,setW σ.heap out.wr,σ.next⟩
theorem evStep_ok {M:Mach}{ds:Ds γ}(hd:ds.ok) {call:Cl γ}(hc:call.ok M.P M.I) {ti:Types}{nt:Nat}{o:Oper}{fresh:Nat}{σ:St}{K:St→Option γ}{P:St→Prop}(hK:∀σ,K σ=some r→P σ) (e:evStep ds call ti nt o fresh σ K=some r):stepOp M ti nt o fresh σ P:=by
 unfold evStep at e
 obtain⟨h1,e⟩:=evR_some e
 obtain⟨h2,e⟩:=evR_some e
 obtain⟨h3,e⟩:=evR_some e
 obtain⟨h4,e⟩:=evR_some e
 unfold stepOp
 refine storeB_ok h1 (dstB_ok h2 ?_)
 simp only[isNone_ok h3]
 have main:opOut M ti o fresh (getS σ.slots) (getH σ.heap) fun out=>P ⟨putS σ.slots o.dst out.val,setW σ.heap out.wr,σ.next⟩:=evOp_ok hd hc (fun out h=>hK _ h) e
 cases hv:isValCall o with
 | true=>exact (M.lock_iff _).2 (.inl main)
 | false=>
  rw[hv,Bool.false_or]at h4
  simp only[isNone_ok h4]
  exact main
end
end Go.AM
namespace Go.AM
open Go Go.RowKit
inductive Pl where
 | e
 | n (k:Nat) (r:Pl)
 | g (gs:List Gh) (l:List (Nat×Nat)) (r:Pl)
 | w (r:Pl)
 | b (p q:Pl)
def Pl.at:Pl→Bool→Pl
 | .b p q,true=>p
 | .b p q,false=>q
 | x,_=>x
def Pl.nth (p:Pl) (m:Nat):Pl:=
 match m with
 | 0=>p.at true
 | m+1=>(p.at false).nth m
structure Tk where
 gs:List Gh
 l:List (Nat×Nat)
 w:Bool
 r:Pl
def Pl.take:Pl→Tk
 | .n k r=>(match k with
  | 0=>⟨[],[],false,r⟩
  | k+1=>⟨[],[],false,.n k r⟩)
 | .g gs l r=>⟨gs,l,false,r⟩
 | .w r=>⟨[],[],true,r⟩
 | x=>⟨[],[],false,x⟩
section
variable {γ:Type}{r:γ}
def gd (a b:Nat) (x:Option γ):Option γ:=if a=b then x else none
theorem gd_inv {a b:Nat}{x:Option γ}(h:gd a b x=some r):a=b∧x=some r:=by
 unfold gd at h
 split at h
 ·rename_i e;exact⟨e,h⟩
 ·cases h
def evIntP (op:BinOp) (q:IntKind) (a b:Int) (pl:Pl) (k:Pl→D→Option γ):Option γ:=
 match op with
 | .add=>letF (q.wrap (a+b)) fun z=>k pl (.int q z)
 | .sub=>letF (q.wrap (a - b)) fun z=>k pl (.int q z)
 | .mul=>letF (q.wrap (a*b)) fun z=>k pl (.int q z)
 | .eql=>if a=b then k (pl.at true) (.bool true)else k (pl.at false) (.bool false)
 | .neq=>if a=b then k (pl.at true) (.bool false)else k (pl.at false) (.bool true)
 | .lss=>if a<b then k (pl.at true) (.bool true)else k (pl.at false) (.bool false)
 | .leq=>if a≤b then k (pl.at true) (.bool true)else k (pl.at false) (.bool false)
 | .gtr=>if b<a then k (pl.at true) (.bool true)else k (pl.at false) (.bool false)
 | .geq=>if b≤a then k (pl.at true) (.bool true)else k (pl.at false) (.bool false)
 | .quo=>needF (b≠0) (letF (q.wrap (Int.tdiv a b)) fun z=>k pl (.int q z))
 | .rem=>needF (b≠0) (letF (Int.tmod a b) fun z=>k pl (.int q z))
 | _=>none
theorem evIntP_ok {M:Mach}{op:BinOp}{q:IntKind}{a b:Int}{pl:Pl}{k:Pl→D→Option γ}{P:D→Prop}(hk:∀p d,k p d=some r→P d) (h:evIntP op q a b pl k=some r):intOp M op q a b P:=by
 cases op<;>simp only[evIntP]at h<;>try contradiction
 ·exact⟨_,rfl,hk _ _ h⟩
 ·exact⟨_,rfl,hk _ _ h⟩
 ·exact⟨_,rfl,hk _ _ h⟩
 ·obtain⟨h1,h2⟩:=needF_inv h
  exact⟨_,h1,rfl,hk _ _ h2⟩
 ·obtain⟨h1,h2⟩:=needF_inv h
  exact⟨_,h1,rfl,hk _ _ h2⟩
 ·simp only[intOp,M.split_iff,M.eqI_eq]
  by_cases c:a=b
  ·rw[if_pos c]at h;rw[beq_iff_eq.2 c];exact hk _ _ h
  ·rw[if_neg c]at h;rw[beq_eq_false_iff_ne.2 c];exact hk _ _ h
 ·simp only[intOp,M.split_iff,M.eqI_eq]
  by_cases c:a=b
  ·rw[if_pos c]at h;rw[beq_iff_eq.2 c];exact hk _ _ h
  ·rw[if_neg c]at h;rw[beq_eq_false_iff_ne.2 c];exact hk _ _ h
 ·simp only[intOp,M.split_iff,M.ltI_eq]
  by_cases c:a<b
  ·rw[if_pos c]at h;rw[decide_eq_true c];exact hk _ _ h
  ·rw[if_neg c]at h;rw[decide_eq_false c];exact hk _ _ h
 ·simp only[intOp,M.split_iff,M.leI_eq]
  by_cases c:a≤b
  ·rw[if_pos c]at h;rw[decide_eq_true c];exact hk _ _ h
  ·rw[if_neg c]at h;rw[decide_eq_false c];exact hk _ _ h
 ·simp only[intOp,M.split_iff,M.ltI_eq]
  by_cases c:b<a
  ·rw[if_pos c]at h;rw[decide_eq_true c];exact hk _ _ h
  ·rw[if_neg c]at h;rw[decide_eq_false c];exact hk _ _ h
 ·simp only[intOp,M.split_iff,M.leI_eq]
  by_cases c:b≤a
  ·rw[if_pos c]at h;rw[decide_eq_true c];exact hk _ _ h
  ·rw[if_neg c]at h;rw[decide_eq_false c];exact hk _ _ h
def evStrP (op:BinOp) (a b:ByteArray) (pl:Pl) (k:Pl→D→Option γ):Option γ:=
 match op with
 | .add=>catF a b fun c=>k pl (.str c)
 | .eql=>if a=b then k (pl.at true) (.bool true)else k (pl.at false) (.bool false)
 | .neq=>if a=b then k (pl.at true) (.bool false)else k (pl.at false) (.bool true)
 | _=>none
theorem evStrP_ok {M:Mach}{op:BinOp}{a b:ByteArray}{pl:Pl}{k:Pl→D→Option γ}{P:D→Prop}(hk:∀p d,k p d=some r→P d) (h:evStrP op a b pl k=some r):strOp M op a b P:=by
 cases op<;>simp only[evStrP]at h<;>try contradiction
 ·obtain⟨c,h1,h2,h3⟩:=catF_inv h
  exact⟨c,h1,h2,hk _ _ h3⟩
 ·simp only[strOp,M.split_iff,M.eqS_eq]
  by_cases c:a=b
  ·rw[if_pos c]at h;rw[bytes_eq.2 c];exact hk _ _ h
  ·rw[if_neg c]at h;rw[Bool.eq_false_iff.2 fun e=>c (bytes_eq.1 e)];exact hk _ _ h
 ·simp only[strOp,M.split_iff,M.eqS_eq]
  by_cases c:a=b
  ·rw[if_pos c]at h;rw[bytes_eq.2 c];exact hk _ _ h
  ·rw[if_neg c]at h;rw[Bool.eq_false_iff.2 fun e=>c (bytes_eq.1 e)];exact hk _ _ h
def evEqL (op:BinOp) (b:Bool) (k:D→Option γ):Option γ:=
 match op with
 | .eql=>k (.bool b)
 | .neq=>k (.bool (notB b))
 | _=>none
theorem evEqL_ok {op:BinOp}{b:Bool}{k:D→Option γ}{P:D→Prop}(hk:∀d,k d=some r→P d) (h:evEqL op b k=some r):eqOpL op b P:=by
 unfold evEqL at h
 unfold eqOpL
 split at h
 ·exact hk _ h
 ·exact hk _ h
 ·cases h
def evBinP (ti:Types) (op:BinOp) (t:TypeId) (x y:AV) (pl:Pl) (k:Pl→Out→Option γ):Option γ:=
 match x,y with
 | .v (.d (.int q a)),.v (.d (.int q' b))=>evR (decide (q=q')) (evIntP op q a b pl fun p d=>k p ⟨.v (.d d),[],[]⟩)
 | .v (.d (.str a)),.v (.d (.str b))=>evStrP op a b pl fun p d=>k p ⟨.v (.d d),[],[]⟩
 | .v (.d (.bool a)),.v (.d (.bool b))=>evT ti t fun i=>(match i.desc with
  | .bool=>(match op with
   | .eql=>letB (a==b) fun q=>k pl ⟨.v (.d (.bool q)),[],[]⟩
   | .neq=>letB (!(a==b)) fun q=>k pl ⟨.v (.d (.bool q)),[],[]⟩
   | _=>none)
  | _=>none)
 | .v (.c (.ptr _ _)),.v (.c .nilp)=>evT ti t fun i=>(match i.desc with
  | .pointer _=>evEqL op false fun d=>k pl ⟨.v (.d d),[],[]⟩
  | _=>none)
 | .v (.c .nilp),.v (.c .nilp)=>evT ti t fun i=>(match i.desc with
  | .pointer _=>evEqL op true fun d=>k pl ⟨.v (.d d),[],[]⟩
  | _=>none)
 | .v (.c (.kv u)),.v (.c (.kv v))=>evT ti t fun i=>(match i.desc with
  | .interface ms=>evR ms.isEmpty (match ifNil u v with
   | some q=>evEqL op q fun d=>k pl ⟨.v (.d d),[],[]⟩
   | none=>none)
  | _=>none)
 | _,_=>none
theorem evBinP_ok {M:Mach}{ti:Types}{op:BinOp}{t:TypeId}{x y:AV}{pl:Pl}{k:Pl→Out→Option γ}{P:Out→Prop}(hk:∀p o,k p o=some r→P o) (e:evBinP ti op t x y pl k=some r):outBin M ti op t x y P:=by
 unfold evBinP at e
 split at e
 ·exact evR_ok (fun e=>evIntP_ok (fun p d h=>hk _ _ h) e) e
 ·exact evStrP_ok (fun p d h=>hk _ _ h) e
 ·refine evT_ok (fun i e=>?_) e
  split at e
  ·rename_i hi
   simp only[hi]
   split at e
   ·exact⟨_,eqvB_eq _ _,hk _ _ e⟩
   ·exact⟨_,by rw[notB_eq,eqvB_eq],hk _ _ e⟩
   ·cases e
  ·cases e
 ·refine evT_ok (fun i e=>?_) e
  split at e
  ·rename_i hi;simp only[hi];exact evEqL_ok (fun d h=>hk _ _ h) e
  ·cases e
 ·refine evT_ok (fun i e=>?_) e
  split at e
  ·rename_i hi;simp only[hi];exact evEqL_ok (fun d h=>hk _ _ h) e
  ·cases e
 ·refine evT_ok (fun i e=>?_) e
  split at e
  ·rename_i hi
   simp only[hi]
   refine evR_ok (fun e=>?_) e
   split at e
   ·rename_i hq;simp only[hq];exact evEqL_ok (fun d h=>hk _ _ h) e
   ·cases e
  ·cases e
 ·cases e
end
end Go.AM
namespace Go.AM
open Go Go.RowKit
section
variable {γ:Type}{r:γ}
def evCloseL (f:CV→(D→List Id→Option γ)→Option γ):List CV→(List D→List Id→Option γ)→Option γ
 | [],K=>K [] []
 | c::l,K=>f c fun d is=>evCloseL f l fun ds js=>K (d::ds) (is++js)
def evCloseD (h:Heap):Nat→CV→(D→List Id→Option γ)→Option γ
 | 0,_,_=>none
 | n+1,c,K=>match c with
  | .d d=>(match isCon d with
   | true=>none
   | false=>K d [])
  | .nilp=>K .nil []
  | .nils ag sz=>(match Nat.blt 0 sz with
   | true=>K (.list ag sz []) []
   | false=>none)
  | .ow j=>(match h j with
   | some (.tree k ag sz rows none)=>(match conD k ag sz rows with
    | some x=>K x [j]
    | none=>none)
   | _=>none)
  | .ptr j o=>(match o with
   | 0=>(match h j with
    | some (.cells (c::cs))=>evCloseL (evCloseD h n) (c::cs) fun ds is=>K (.box ds) (j::is)
    | _=>none)
   | _=>none)
  | _=>none
theorem evCloseL_ok {f:CV→(D→List Id→Option γ)→Option γ}{g:CV→(D→List Id→Prop)→Prop}(hf:∀c (K:D→List Id→Option γ) (P:D→List Id→Prop),(∀d is,K d is=some r→P d is)→f c K=some r→g c P):
  ∀{l:List CV} {K:List D→List Id→Option γ} {P:List D→List Id→Prop},(∀d is,K d is=some r→P d is)→evCloseL f l K=some r→closeL g l P
 | [],_,_,hk,e=>hk _ _ e
 | c::l,_,_,hk,e=>hf c _ _ (fun _ _ e=>evCloseL_ok hf (fun _ _ e=>hk _ _ e) e) e
theorem evCloseD_ok {h:Heap}:∀{n:Nat}(c:CV) (K:D→List Id→Option γ) (P:D→List Id→Prop),(∀d is,K d is=some r→P d is)→evCloseD h n c K=some r→closeD h n c P
 | 0,_,_,_,_,e=>by cases e
 | n+1,c,K,P,hk,e=>by
  unfold evCloseD at e
  unfold closeD
  split at e
  ·split at e
   ·cases e
   ·rename_i hc;simp only[hc];exact hk _ _ e
  ·exact hk _ _ e
  ·split at e
   ·rename_i hc;simp only[hc];exact hk _ _ e
   ·cases e
  ·split at e
   ·rename_i hj
    split at e
    ·rename_i hx;simp only[hj,hx];exact hk _ _ e
    ·cases e
   ·cases e
  ·split at e
   ·split at e
    ·rename_i hj
     simp only[hj]
     exact evCloseL_ok (fun c K P hk e=>evCloseD_ok c K P hk e) (fun _ _ e=>hk _ _ e) e
    ·cases e
   ·cases e
  ·cases e
def evCloseC (h:Heap) (cs:List CV) (K:List D→List Id→Option γ):Option γ:=evCloseL (evCloseD h 3) cs K
theorem evCloseC_ok {h:Heap}{cs:List CV}{K:List D→List Id→Option γ}{P:List D→List Id→Prop}(hk:∀d is,K d is=some r→P d is) (e:evCloseC h cs K=some r):closeC h cs P:=evCloseL_ok (fun c K P hk e=>evCloseD_ok c K P hk e) hk e
def evCloses (h:Heap):List Id→(Heap→List Id→List (Id×AObj)→Option γ)→Option γ
 | [],K=>K h [] []
 | i::l,K=>match h i with
  | some (.tree kd ag sz rows (some (k,cs)))=>evR (notFlat kd)<| evCloseC h cs fun ds is=>evR (nodupB is)<| evR (ag || Nat.beq ds.length 1)<|
    setF rows k (rowOf ag ds) fun rows'=>evCloses (updW (updO h i (.tree kd ag sz rows' none)) (goneAll is)) l fun h' rd wr=>K h' (i::(is++rd)) ((i,.tree kd ag sz rows' none)::(goneAll is++wr))
  | _=>none
theorem evCloses_ok:∀{l:List Id}{h:Heap}{K:Heap→List Id→List (Id×AObj)→Option γ}{P:Heap→List Id→List (Id×AObj)→Prop},(∀h rd wr,K h rd wr=some r→P h rd wr)→evCloses h l K=some r→closes h l P
 | [],_,_,_,hk,e=>hk _ _ _ e
 | i::l,h,K,P,hk,e=>by
  unfold evCloses at e
  unfold closes
  split at e
  ·rename_i hi
   simp only[hi]
   obtain⟨h1,e⟩:=evR_some e
   refine req_iff.2 ⟨h1,evCloseC_ok (fun ds is e=>?_) e⟩
   obtain⟨h2,e⟩:=evR_some e
   obtain⟨h3,e⟩:=evR_some e
   obtain⟨rows',h4,e⟩:=setF_inv e
   rw[h2,h3]
   exact⟨rows',h4,evCloses_ok (fun h' rd wr e=>hk _ _ _ e) e⟩
  ·cases e
def owsOf (f:Id→List Id):List CV→List Id
 | []=>[]
 | c::l=>(match c with
  | .ow j=>f j++owsOf f l
  | _=>owsOf f l)
def openIds (h:Heap):Nat→Id→List Id
 | 0,_=>[]
 | n+1,i=>match h i with
  | some (.tree _ _ _ _ foc)=>(match foc with
   | some x=>owsOf (openIds h n) x.2++[i]
   | none=>[])
  | _=>[]
def evWithCl (h:Heap) (gs:List Id) (E:Heap→(Out→Option γ)→Option γ) (k:Out→Option γ):Option γ:=evCloses h gs fun h' rd wr=>E h' fun out=>k ⟨out.val,rd++out.rd,wr++out.wr⟩
theorem evWithCl_ok {h:Heap}{gs:List Id}{E:Heap→(Out→Option γ)→Option γ}{F:Heap→(Out→Prop)→Prop}{k:Out→Option γ}{P:Out→Prop}(hk:∀o,k o=some r→P o)
  (hE:∀h' (k:Out→Option γ) (P:Out→Prop),(∀o,k o=some r→P o)→E h' k=some r→F h' P) (e:evWithCl h gs E k=some r):withCl h F P:=
 ⟨gs,evCloses_ok (fun h' rd wr e=>hE h' _ _ (fun o e=>hk _ e) e) e⟩
def evP (x:AV) (h:Heap) (K:Id→Kd→Bool→Nat→List D→Option (Nat×List CV)→Nat→Nat→Option γ):Option γ:=
 match x with
 | .v (.c (.op id sz kk o))=>(match h id with
  | some (.tree kd ag sz' rows foc)=>evR (Nat.beq sz' sz) (evR (notMap kd) (K id kd ag sz' rows foc kk o))
  | _=>none)
 | .v (.c (.ow id))=>(match h id with
  | some (.tree kd ag sz rows foc)=>(match kd with
   | .box=>K id .box ag sz rows foc 0 0
   | _=>none)
  | _=>none)
 | _=>none
theorem evP_ok {x:AV}{h:Heap}{K:Id→Kd→Bool→Nat→List D→Option (Nat×List CV)→Nat→Nat→Option γ}{P:Id→Kd→Bool→Nat→List D→Option (Nat×List CV)→Nat→Nat→Prop}
  (hk:∀a b c d e f g i,K a b c d e f g i=some r→P a b c d e f g i) (e:evP x h K=some r):withP x h P:=by
 unfold evP at e
 unfold withP
 split at e
 ·split at e
  ·rename_i hi
   simp only[hi]
   exact evR_ok (evR_ok (hk _ _ _ _ _ _ _ _)) e
  ·cases e
 ·split at e
  ·rename_i hi
   split at e
   ·simp only[hi];exact hk _ _ _ _ _ _ _ _ e
   ·cases e
  ·cases e
 ·cases e
abbrev Els:=Bool→Nat→TypeId→Nat→TypeId
def evLoadT (ds:Ds γ) (el:Els) (ti:Types) (t:TypeId) (x:AV) (fresh:Nat) (h:Heap) (pl:Pl) (k:Pl→Out→Option γ):Option γ:=
 evT ti t fun i=>evP x h fun id kd ag sz rows foc kk o=>match foc with
 | some (k',cs)=>gd k' kk<| evR (Nat.ble (o+i.size) cs.length) (k pl ⟨.v (V1.ofCells (rowD i.desc) ((cs.drop o).take i.size)),[id],[]⟩)
 | none=>getN rows kk fun d=>ds (el ag sz t o) d fun d=>evR (Nat.ble (o+i.size) d.cells.length)<| (match allB notCon ((d.cells.drop o).take i.size)with
  | true=>k pl ⟨.v (V1.ofCells (rowD i.desc) (((d.cells.drop o).take i.size).map CV.d)),[id],[]⟩
  | false=>evR (Nat.ble d.cells.length 32) (k pl ⟨.v (V1.ofCells (rowD i.desc) (((openC fresh 0 d.cells).drop o).take i.size)),[id],(id,.tree kd ag sz rows (some (kk,openC fresh 0 d.cells)))::openO fresh 0 d.cells⟩))
theorem evLoadT_ok {ds:Ds γ}(hd:ds.ok) {el:Els}{ti:Types}{t:TypeId}{x:AV}{fresh:Nat}{h:Heap}{pl:Pl}{k:Pl→Out→Option γ}{P:Out→Prop}(hk:∀p o,k p o=some r→P o) (e:evLoadT ds el ti t x fresh h pl k=some r):loadT ti t x fresh h P:=by
 unfold evLoadT at e
 unfold loadT
 refine evT_ok (fun i e=>evP_ok (fun id kd ag sz rows foc kk o e=>?_) e) e
 split at e
 ·obtain⟨h1,e⟩:=gd_inv e
  exact⟨h1,evR_ok (hk _ _) e⟩
 ·obtain⟨d,h1,e⟩:=getN_inv e
  replace e:=hd _ _ _ _ e
  refine⟨d,h1,evR_ok (fun e=>?_) e⟩
  split at e
  ·rename_i h2
   exact⟨true,req_iff.2 ⟨h2,hk _ _ e⟩⟩
  ·exact⟨false,evR_ok (hk _ _) e⟩
def evStoreT (ds:Ds γ) (el:Els) (ti:Types) (t:TypeId) (x y:AV) (fresh:Nat) (h:Heap) (pl:Pl) (k:Pl→Out→Option γ):Option γ:=
 evT ti t fun i=>match y with
 | .v y=>evR (Nat.beq y.cells.length i.size)<| evP x h fun id kd ag sz rows foc kk o=>(match foc with
  | some (k',cs)=>gd k' kk<| evR (Nat.ble (o+i.size) cs.length) (k pl ⟨.u,[id],[(id,.tree kd ag sz rows (some (kk,cs.take o++y.cells++cs.drop (o+i.size))))]⟩)
  | none=>getN rows kk fun d=>ds (el ag sz t o) d fun d=>evR (Nat.ble (o+i.size) d.cells.length)<| evR (Nat.ble d.cells.length 32)
    (k pl ⟨.u,[id],(id,.tree kd ag sz rows (some (kk,(openC fresh 0 d.cells).take o++y.cells++(openC fresh 0 d.cells).drop (o+i.size))))::openO fresh 0 d.cells⟩))
 | _=>none
theorem evStoreT_ok {ds:Ds γ}(hd:ds.ok) {el:Els}{ti:Types}{t:TypeId}{x y:AV}{fresh:Nat}{h:Heap}{pl:Pl}{k:Pl→Out→Option γ}{P:Out→Prop}(hk:∀p o,k p o=some r→P o) (e:evStoreT ds el ti t x y fresh h pl k=some r):storeT ti t x y fresh h P:=by
 unfold evStoreT at e
 unfold storeT
 refine evT_ok (fun i e=>?_) e
 split at e
 ·simp only[withV]
  refine evR_ok (fun e=>evP_ok (fun id kd ag sz rows foc kk o e=>?_) e) e
  split at e
  ·obtain⟨h1,e⟩:=gd_inv e
   exact⟨h1,evR_ok (hk _ _) e⟩
  ·obtain⟨d,h1,e⟩:=getN_inv e
   replace e:=hd _ _ _ _ e
   exact⟨d,h1,evR_ok (evR_ok (hk _ _)) e⟩
 ·cases e
def evFieldT (ti:Types) (t:TypeId) (x:AV) (f:Nat) (h:Heap) (k:Out→Option γ):Option γ:=
 evT ti t fun i=>match i.desc with
 | .struct fs=>(match fs[f]? with
  | some fd=>evT ti fd.type fun j=>evR (Nat.blt 0 j.size)<| evP x h fun id _ _ sz _ _ kk o=>k ⟨.v (.c (.op id sz kk (o+fd.offset))),[id],[]⟩
  | none=>none)
 | _=>none
theorem evFieldT_ok {ti:Types}{t:TypeId}{x:AV}{f:Nat}{h:Heap}{k:Out→Option γ}{P:Out→Prop}(hk:∀o,k o=some r→P o) (e:evFieldT ti t x f h k=some r):outFieldT ti t x f h P:=by
 unfold evFieldT at e
 unfold outFieldT
 refine evT_ok (fun i e=>?_) e
 split at e
 ·rename_i hf
  split at e
  ·rename_i hfd
   simp only[hf,hfd]
   exact evT_ok (fun j e=>evR_ok (fun e=>evP_ok (fun _ _ _ _ _ _ _ _ e=>hk _ e) e) e) e
  ·cases e
 ·cases e
def evIndexT (ti:Types) (t:TypeId) (x i:AV) (h:Heap) (k:Out→Option γ):Option γ:=
 evI i fun n=>evT ti t fun q=>match q.desc with
 | .slice e=>evT ti e fun j=>(match x with
  | .v (.c (.ow id))=>(match h id with
   | some (.tree kd _ sz rows _)=>(match kd with
    | .row=>evR (Nat.beq sz j.size)<| needF (0≤n∧n.toNat<rows.length) (k ⟨.v (.c (.op id sz n.toNat 0)),[id],[]⟩)
    | _=>none)
   | _=>none)
  | _=>none)
 | _=>none
theorem evIndexT_ok {M:Mach}{ti:Types}{t:TypeId}{x i:AV}{h:Heap}{k:Out→Option γ}{P:Out→Prop}(hk:∀o,k o=some r→P o) (e:evIndexT ti t x i h k=some r):outIndexT M ti t x i h P:=by
 unfold evIndexT at e
 unfold outIndexT
 refine evI_ok (fun _ n e=>evT_ok (fun q e=>?_) e) e
 split at e
 ·rename_i hq
  simp only[hq]
  refine evT_ok (fun j e=>?_) e
  split at e
  ·split at e
   ·rename_i hi
    split at e
    ·simp only[hi]
     refine evR_ok (fun e=>?_) e
     obtain⟨h1,e⟩:=needF_inv e
     exact⟨(M.lock_iff _).2 h1,hk _ e⟩
    ·cases e
   ·cases e
  ·cases e
 ·cases e
def evLenT (ti:Types) (t:TypeId) (x:AV) (h:Heap) (k:Out→Option γ):Option γ:=
 evT ti t fun q=>match x with
 | .v (.c (.ow id))=>(match h id with
  | some (.tree kd _ _ rows _)=>(match kd with
   | .row=>(match q.desc with
    | .slice _=>lenF rows fun z=>k ⟨.v (.d (.int .i64 z)),[id],[]⟩
    | _=>none)
   | _=>none)
  | _=>none)
 | _=>none
theorem evLenT_ok {M:Mach}{ti:Types}{t:TypeId}{x:AV}{h:Heap}{k:Out→Option γ}{P:Out→Prop}(hk:∀o,k o=some r→P o) (e:evLenT ti t x h k=some r):outLenT M ti t x h P:=by
 unfold evLenT at e
 unfold outLenT
 refine evT_ok (fun q e=>?_) e
 split at e
 ·split at e
  ·rename_i hi
   split at e
   ·split at e
    ·rename_i hq;simp only[hi,hq];exact (lenF_inv M e).imp fun z h=>⟨h.1,hk _ h.2⟩
    ·cases e
   ·cases e
  ·cases e
 ·cases e
def evOldT (x:AV) (h:Heap) (ag:Bool) (sz:Nat) (K:List Id→List D→Option γ):Option γ:=
 match x with
 | .v (.c (.nils _ _))=>K [] []
 | .v (.c (.ow i))=>(match h i with
  | some (.tree kd ag' sz' rows foc)=>(match kd with
   | .row=>(match foc with
    | none=>evR (ag'==ag) (evR (Nat.beq sz' sz) (K [i] rows))
    | some _=>none)
   | _=>none)
  | _=>none)
 | _=>none
theorem evOldT_ok {x:AV}{h:Heap}{ag:Bool}{sz:Nat}{K:List Id→List D→Option γ}{P:List Id→List D→Prop}(hk:∀a b,K a b=some r→P a b) (e:evOldT x h ag sz K=some r):oldT x h ag sz P:=by
 unfold evOldT at e
 unfold oldT
 split at e
 ·exact hk _ _ e
 ·split at e
  ·rename_i hi
   split at e
   ·split at e
    ·simp only[hi];exact evR_ok (evR_ok (hk _ _)) e
    ·cases e
   ·cases e
  ·cases e
 ·cases e
def evNewT (y:AV) (h:Heap) (ag:Bool) (sz:Nat) (K:List Id→List D→Option γ):Option γ:=
 match y with
 | .v (.c (.sl jj n))=>(match h jj with
  | some (.cells cs)=>evR (Nat.beq cs.length (n*sz)) (evCloseC h cs fun ds is=>K is (rowsOf ag sz n ds))
  | _=>none)
 | .v (.c (.ow i))=>(match h i with
  | some (.tree kd ag' sz' rows foc)=>(match kd with
   | .row=>(match foc with
    | none=>evR (ag'==ag) (evR (Nat.beq sz' sz) (K [i] rows))
    | some _=>none)
   | _=>none)
  | _=>none)
 | .v (.d (.list ag' sz' ys))=>evR (ag'==ag) (evR (Nat.beq sz' sz) (needF (scalB ys=true) (K [] ys)))
 | .v (.c (.tl ag' sz' ys))=>evR (ag'==ag) (evR (Nat.beq sz' sz) (needF (scalB ys=true) (K [] ys)))
 | .v (.c (.nils ag' sz'))=>evR (ag'==ag) (evR (Nat.beq sz' sz) (needF (scalB []=true) (K [] [])))
 | _=>none
theorem evNewT_ok {y:AV}{h:Heap}{ag:Bool}{sz:Nat}{K:List Id→List D→Option γ}{P:List Id→List D→Prop}(hk:∀a b,K a b=some r→P a b) (e:evNewT y h ag sz K=some r):newT y h ag sz P:=by
 unfold evNewT at e
 unfold newT
 split at e
 ·split at e
  ·rename_i hi
   simp only[hi]
   exact evR_ok (fun e=>evCloseC_ok (fun ds is e=>⟨_,rfl,hk _ _ e⟩) e) e
  ·cases e
 ·split at e
  ·rename_i hi
   split at e
   ·split at e
    ·simp only[hi];exact evR_ok (evR_ok (hk _ _)) e
    ·cases e
   ·cases e
  ·cases e
 ·exact evR_ok (evR_ok fun e=>⟨scalB_iff.1 (needF_inv e).1,hk _ _ (needF_inv e).2⟩) e
 ·exact evR_ok (evR_ok fun e=>⟨scalB_iff.1 (needF_inv e).1,hk _ _ (needF_inv e).2⟩) e
 ·exact evR_ok (evR_ok fun e=>⟨scalB_iff.1 (needF_inv e).1,hk _ _ (needF_inv e).2⟩) e
 ·cases e
def evAppendT (ti:Types) (t:TypeId) (x y:AV) (fresh:Nat) (h:Heap) (k:Out→Option γ):Option γ:=
 evT ti t fun q=>match q.desc with
 | .slice e=>evT ti e fun j=>evR (Nat.blt 0 j.size)<| evOldT x h (rowD j.desc) j.size fun ids rows=>evNewT y h (rowD j.desc) j.size fun is ys=>
   evR (nodupB (ids++is))<| appF j.bytes rows ys fun out=>k ⟨.v (.c (.ow (.loc fresh))),ids++(is++slId y),goneAll (ids++is)++[(.loc fresh,.tree .row (rowD j.desc) j.size out none)]⟩
 | _=>none
theorem evAppendT_ok {M:Mach}{ti:Types}{t:TypeId}{x y:AV}{fresh:Nat}{h:Heap}{k:Out→Option γ}{P:Out→Prop}(hk:∀o,k o=some r→P o) (e:evAppendT ti t x y fresh h k=some r):appendT M ti t x y fresh h P:=by
 unfold evAppendT at e
 unfold appendT
 refine evT_ok (fun q e=>?_) e
 split at e
 ·rename_i hq
  simp only[hq]
  refine evT_ok (fun j e=>evR_ok (fun e=>evOldT_ok (fun ids rows e=>evNewT_ok (fun is ys e=>evR_ok (fun e=>?_) e) e) e) e) e
  obtain⟨out,h1,h2,e⟩:=appF_inv e
  exact⟨(M.lock_iff _).2 h1,out,h2,hk _ e⟩
 ·cases e
def evOldF (x:AV) (h:Heap) (ag:Bool) (sz:Nat) (K:List Id→List D→Option γ):Option γ:=
 match x with
 | .v (.c (.nils _ _))=>K [] []
 | .v (.c (.ow i))=>(match h i with
  | some (.tree kd ag' sz' rows foc)=>(match foc with
   | none=>(match kd with
    | .flat=>evR (ag'==ag) (evR (Nat.beq sz' sz) (K [i] rows))
    | .row=>(match rows with
     | []=>evR (ag'==ag) (evR (Nat.beq sz' sz) (K [i] []))
     | _=>none)
    | _=>none)
   | some _=>none)
  | _=>none)
 | _=>none
theorem evOldF_ok {x:AV}{h:Heap}{ag:Bool}{sz:Nat}{K:List Id→List D→Option γ}{P:List Id→List D→Prop}(hk:∀a b,K a b=some r→P a b) (e:evOldF x h ag sz K=some r):oldF x h ag sz P:=by
 unfold evOldF at e
 unfold oldF
 split at e
 ·exact hk _ _ e
 ·split at e
  ·rename_i hi
   split at e
   ·split at e
    ·simp only[hi];exact evR_ok (evR_ok (hk _ _)) e
    ·split at e
     ·simp only[hi];exact evR_ok (evR_ok (hk _ _)) e
     ·cases e
    ·cases e
   ·cases e
  ·cases e
 ·cases e
def evAppendF (ti:Types) (t:TypeId) (x y:AV) (fresh:Nat) (h:Heap) (k:Out→Option γ):Option γ:=
 evT ti t fun q=>match q.desc with
 | .slice e=>evT ti e fun j=>evR (Nat.blt 0 j.size)<| evOldF x h (rowD j.desc) j.size fun ids rows=>evL y fun ag sz ys=>evR (ag==rowD j.desc)<| evR (Nat.beq sz j.size)<|
   appF j.bytes rows ys fun out=>k ⟨.v (.c (.ow (.loc fresh))),ids,goneAll ids++[(.loc fresh,.tree .flat (rowD j.desc) j.size out none)]⟩
 | _=>none
theorem evAppendF_ok {M:Mach}{ti:Types}{t:TypeId}{x y:AV}{fresh:Nat}{h:Heap}{k:Out→Option γ}{P:Out→Prop}(hk:∀o,k o=some r→P o) (e:evAppendF ti t x y fresh h k=some r):appendF' M ti t x y fresh h P:=by
 unfold evAppendF at e
 unfold appendF'
 refine evT_ok (fun q e=>?_) e
 split at e
 ·rename_i hq
  simp only[hq]
  refine evT_ok (fun j e=>evR_ok (fun e=>evOldF_ok (fun ids rows e=>evL_ok (fun ag sz ys e=>evR_ok (evR_ok fun e=>?_) e) e) e) e) e
  obtain⟨out,h1,h2,e⟩:=appF_inv e
  exact⟨(M.lock_iff _).2 h1,out,h2,hk _ e⟩
 ·cases e
def evCellsP (ti:Types) (s:Slots) (e:TypeId) (sz:Nat):Nat→List (Nat×Operand)→(List CV→Option γ)→Option γ
 | _,[],k=>k []
 | n,(i,x)::l,k=>evR (Nat.beq i n)<| match opd ti s e x with
  | .v y=>evR (Nat.beq y.cells.length sz)<| evCellsP ti s e sz (n+1) l fun cs=>k (y.cells++cs)
  | _=>none
theorem evCellsP_ok {ti:Types}{s:Slots}{e:TypeId}{sz:Nat}:∀{l:List (Nat×Operand)}{n:Nat}{k:List CV→Option γ}{P:List CV→Prop},(∀c,k c=some r→P c)→evCellsP ti s e sz n l k=some r→cellsP ti s e sz n l P
 | [],_,_,_,hk,h=>hk _ h
 | (i,x)::l,n,k,P,hk,h=>by
  unfold evCellsP at h
  unfold cellsP
  refine evR_ok (fun h=>?_) h
  split at h
  ·rename_i hy
   simp only[hy]
   exact evR_ok (fun h=>evCellsP_ok (fun c h=>hk _ h) h) h
  ·cases h
def evLetN (ys:List D) (k:List D→Option γ):Option γ:=match ys with
 | []=>k []
 | y::l=>letL (y::l) k
theorem evLetN_inv {ys:List D}{k:List D→Option γ}(h:evLetN ys k=some r):k ys=some r:=by
 unfold evLetN at h
 split at h
 ·exact h
 ·exact h
def evBuildSliceT (ti:Types) (s:Slots) (t:TypeId) (len:Nat) (parts:List (Nat×Operand)) (fresh:Nat) (h:Heap) (k:Out→Option γ):Option γ:=
 evT ti t fun q=>match q.desc with
 | .slice e=>evT ti e fun j=>evR (Nat.ble (len*j.size) 16777216)<| evR (Nat.beq parts.length len)<| evR (Nat.blt 0 j.size)<| evCellsP ti s e j.size 0 parts fun cs=>
   evCloseC h cs fun ds is=>evR (nodupB is)<| evR (Nat.ble len maxLen)<| evLetN (rowsOf (rowD j.desc) j.size len ds) fun ys=>k ⟨.v (.c (.ow (.loc fresh))),is,goneAll is++[(.loc fresh,.tree .row (rowD j.desc) j.size ys none)]⟩
 | _=>none
theorem evBuildSliceT_ok {ti:Types}{s:Slots}{t:TypeId}{len:Nat}{parts:List (Nat×Operand)}{fresh:Nat}{h:Heap}{k:Out→Option γ}{P:Out→Prop}(hk:∀o,k o=some r→P o) (e:evBuildSliceT ti s t len parts fresh h k=some r):buildSliceT ti s t len parts fresh h P:=by
 unfold evBuildSliceT at e
 unfold buildSliceT
 refine evT_ok (fun q e=>?_) e
 split at e
 ·rename_i hq
  simp only[hq]
  refine evT_ok (fun j e=>evR_ok (evR_ok (evR_ok fun e=>evCellsP_ok (fun cs e=>?_) e)) e) e
  exact evCloseC_ok (fun ds is e=>evR_ok (evR_ok fun e=>⟨_,rfl,hk _ (evLetN_inv e)⟩) e) e
 ·cases e
def evBuildSliceC (ti:Types) (s:Slots) (t:TypeId) (len:Nat) (parts:List (Nat×Operand)) (fresh:Nat) (k:Out→Option γ):Option γ:=
 evT ti t fun q=>match q.desc with
 | .slice e=>evT ti e fun j=>evR (Nat.ble (len*j.size) 16777216)<| evR (Nat.beq parts.length len)<| evR (Nat.blt 0 j.size)<| evCellsP ti s e j.size 0 parts fun cs=>
   k ⟨.v (.c (.sl (.loc fresh) len)),[],[(.loc fresh,.cells cs)]⟩
 | _=>none
theorem evBuildSliceC_ok {ti:Types}{s:Slots}{t:TypeId}{len:Nat}{parts:List (Nat×Operand)}{fresh:Nat}{k:Out→Option γ}{P:Out→Prop}(hk:∀o,k o=some r→P o) (e:evBuildSliceC ti s t len parts fresh k=some r):outBuildSliceC ti s t len parts fresh P:=by
 unfold evBuildSliceC at e
 unfold outBuildSliceC
 refine evT_ok (fun q e=>?_) e
 split at e
 ·rename_i hq
  simp only[hq]
  exact evT_ok (fun j e=>evR_ok (evR_ok (evR_ok fun e=>evCellsP_ok (fun cs e=>hk _ e) e)) e) e
 ·cases e
def evMake (own:Bool) (ti:Types) (t:TypeId) (x y:AV) (fresh:Nat) (k:Out→Option γ):Option γ:=
 evI x fun n=>evI y fun m=>evT ti t fun q=>match q.desc with
 | .slice e=>evT ti e fun j=>evR (Nat.blt 0 j.size)<| (match zDs j.zc with
  | some ds=>makeF j.bytes (rowOf (rowD j.desc) ds) n m fun rows=>(match own with
   | true=>k ⟨.v (.c (.ow (.loc fresh))),[],[(.loc fresh,.tree .row (rowD j.desc) j.size rows none)]⟩
   | false=>k ⟨.v (.c (.tl (rowD j.desc) j.size rows)),[],[]⟩)
  | none=>none)
 | _=>none
theorem evMake_ok {M:Mach}{own:Bool}{ti:Types}{t:TypeId}{x y:AV}{fresh:Nat}{k:Out→Option γ}{P:Out→Prop}(hk:∀o,k o=some r→P o) (e:evMake own ti t x y fresh k=some r):outMakeSlice M ti t x y fresh P:=by
 unfold evMake at e
 unfold outMakeSlice
 refine evI_ok (fun _ n e=>evI_ok (fun _ m e=>evT_ok (fun q e=>?_) e) e) e
 split at e
 ·rename_i hq
  simp only[hq]
  refine evT_ok (fun j e=>evR_ok (fun e=>?_) e) e
  split at e
  ·rename_i hz
   obtain⟨rows,h1,h2,e⟩:=makeF_inv e
   simp only[hz]
   refine⟨(M.lock_iff _).2 h1,rows,h2,own,?_⟩
   cases own with
   | true=>exact hk _ e
   | false=>exact hk _ e
  ·cases e
 ·cases e
def evFl (x:AV) (h:Heap) (K:Id→Bool→Nat→List D→Option γ):Option γ:=
 match x with
 | .v (.c (.ow id))=>(match h id with
  | some (.tree kd ag sz rows foc)=>(match kd with
   | .flat=>(match foc with
    | none=>K id ag sz rows
    | some _=>none)
   | _=>none)
  | _=>none)
 | _=>none
theorem evFl_ok {x:AV}{h:Heap}{K:Id→Bool→Nat→List D→Option γ}{P:Id→Bool→Nat→List D→Prop}(hk:∀a b c d,K a b c d=some r→P a b c d) (e:evFl x h K=some r):withFl x h P:=by
 unfold evFl at e
 unfold withFl
 split at e
 ·split at e
  ·rename_i hi
   split at e
   ·split at e
    ·simp only[hi];exact hk _ _ _ _ e
    ·cases e
   ·cases e
  ·cases e
 ·cases e
def evFp (x:AV) (h:Heap) (K:Id→Bool→Nat→List D→Nat→Nat→Option γ):Option γ:=
 match x with
 | .v (.c (.op id sz kk o))=>(match h id with
  | some (.tree kd ag sz' rows foc)=>(match kd with
   | .flat=>(match foc with
    | none=>evR (Nat.beq sz' sz) (K id ag sz' rows kk o)
    | some _=>none)
   | _=>none)
  | _=>none)
 | _=>none
theorem evFp_ok {x:AV}{h:Heap}{K:Id→Bool→Nat→List D→Nat→Nat→Option γ}{P:Id→Bool→Nat→List D→Nat→Nat→Prop}(hk:∀a b c d e f,K a b c d e f=some r→P a b c d e f) (e:evFp x h K=some r):withFp x h P:=by
 unfold evFp at e
 unfold withFp
 split at e
 ·split at e
  ·rename_i hi
   split at e
   ·split at e
    ·simp only[hi];exact evR_ok (hk _ _ _ _ _ _) e
    ·cases e
   ·cases e
  ·cases e
 ·cases e
def evLoadFl (ds:Ds γ) (el:Els) (ti:Types) (t:TypeId) (x:AV) (h:Heap) (k:Out→Option γ):Option γ:=
 evT ti t fun i=>evFp x h fun id ag sz rows kk o=>getN rows kk fun d=>ds (el ag sz t o) d fun d=>evR (Nat.ble (o+i.size) d.cells.length) (k ⟨.v (V1.ofCells (rowD i.desc) (((d.cells.drop o).take i.size).map CV.d)),[id],[]⟩)
theorem evLoadFl_ok {ds:Ds γ}(hd:ds.ok) {el:Els}{ti:Types}{t:TypeId}{x:AV}{h:Heap}{k:Out→Option γ}{P:Out→Prop}(hk:∀o,k o=some r→P o) (e:evLoadFl ds el ti t x h k=some r):outLoadF ti t x h P:=by
 refine evT_ok (fun i e=>evFp_ok (fun id ag sz rows kk o e=>?_) e) e
 obtain⟨d,h1,e⟩:=getN_inv e
 replace e:=hd _ _ _ _ e
 exact⟨d,h1,evR_ok (hk _) e⟩
def evStoreFl (ds:Ds γ) (el:Els) (ti:Types) (t:TypeId) (x y:AV) (h:Heap) (k:Out→Option γ):Option γ:=
 evT ti t fun i=>match y with
 | .v y=>(match y.norm with
  | .d v=>evR (Nat.beq v.cells.length i.size)<| evFp x h fun id ag sz rows kk o=>getN rows kk fun d=>ds (el ag sz t o) d fun d=>evR (Nat.ble (o+i.size) d.cells.length)<|
    setF rows kk (rowOf ag (d.cells.take o++v.cells++d.cells.drop (o+i.size))) fun rows'=>k ⟨.u,[id],[(id,.tree .flat ag sz rows' none)]⟩
  | _=>none)
 | _=>none
theorem evStoreFl_ok {ds:Ds γ}(hd:ds.ok) {el:Els}{ti:Types}{t:TypeId}{x y:AV}{h:Heap}{k:Out→Option γ}{P:Out→Prop}(hk:∀o,k o=some r→P o) (e:evStoreFl ds el ti t x y h k=some r):outStoreF ti t x y h P:=by
 refine evT_ok (fun i e=>?_) e
 split at e
 ·split at e
  ·rename_i hn
   simp only[withV,hn]
   refine evR_ok (fun e=>evFp_ok (fun id ag sz rows kk o e=>?_) e) e
   obtain⟨d,h1,e⟩:=getN_inv e
   replace e:=hd _ _ _ _ e
   refine⟨d,h1,evR_ok (fun e=>?_) e⟩
   obtain⟨out,h2,e⟩:=setF_inv e
   exact⟨out,h2,hk _ e⟩
  ·cases e
 ·cases e
def evFieldFl (ti:Types) (t:TypeId) (x:AV) (f:Nat) (h:Heap) (k:Out→Option γ):Option γ:=
 evT ti t fun i=>match i.desc with
 | .struct fs=>(match fs[f]? with
  | some fd=>evT ti fd.type fun j=>evR (Nat.blt 0 j.size)<| evFp x h fun id _ sz _ kk o=>k ⟨.v (.c (.op id sz kk (o+fd.offset))),[id],[]⟩
  | none=>none)
 | _=>none
theorem evFieldFl_ok {ti:Types}{t:TypeId}{x:AV}{f:Nat}{h:Heap}{k:Out→Option γ}{P:Out→Prop}(hk:∀o,k o=some r→P o) (e:evFieldFl ti t x f h k=some r):outFieldF ti t x f h P:=by
 unfold evFieldFl at e
 unfold outFieldF
 refine evT_ok (fun i e=>?_) e
 split at e
 ·rename_i hf
  split at e
  ·rename_i hfd
   simp only[hf,hfd]
   exact evT_ok (fun j e=>evR_ok (fun e=>evFp_ok (fun _ _ _ _ _ _ e=>hk _ e) e) e) e
  ·cases e
 ·cases e
def evIndexFl (ti:Types) (t:TypeId) (x i:AV) (h:Heap) (k:Out→Option γ):Option γ:=
 evI i fun n=>evT ti t fun q=>match q.desc with
 | .slice e=>evT ti e fun j=>evFl x h fun id _ sz rows=>evR (Nat.beq sz j.size)<| needF (0≤n∧n.toNat<rows.length) (k ⟨.v (.c (.op id sz n.toNat 0)),[id],[]⟩)
 | _=>none
theorem evIndexFl_ok {M:Mach}{ti:Types}{t:TypeId}{x i:AV}{h:Heap}{k:Out→Option γ}{P:Out→Prop}(hk:∀o,k o=some r→P o) (e:evIndexFl ti t x i h k=some r):outIndexF M ti t x i h P:=by
 unfold evIndexFl at e
 unfold outIndexF
 refine evI_ok (fun _ n e=>evT_ok (fun q e=>?_) e) e
 split at e
 ·rename_i hq
  simp only[hq]
  refine evT_ok (fun j e=>evFl_ok (fun id ag sz rows e=>evR_ok (fun e=>?_) e) e) e
  obtain⟨h1,e⟩:=needF_inv e
  exact⟨(M.lock_iff _).2 h1,hk _ e⟩
 ·cases e
def evLenFl (ti:Types) (t:TypeId) (x:AV) (h:Heap) (k:Out→Option γ):Option γ:=
 evT ti t fun q=>match q.desc with
 | .slice _=>evFl x h fun id _ _ rows=>lenF rows fun z=>k ⟨.v (.d (.int .i64 z)),[id],[]⟩
 | _=>none
theorem evLenFl_ok {M:Mach}{ti:Types}{t:TypeId}{x:AV}{h:Heap}{k:Out→Option γ}{P:Out→Prop}(hk:∀o,k o=some r→P o) (e:evLenFl ti t x h k=some r):outLenF M ti t x h P:=by
 unfold evLenFl at e
 unfold outLenF
 refine evT_ok (fun q e=>?_) e
 split at e
 ·rename_i hq
  simp only[hq]
  exact evFl_ok (fun id _ _ rows e=>(lenF_inv M e).imp fun z h=>⟨h.1,hk _ h.2⟩) e
 ·cases e
def evM (x:AV) (h:Heap) (K:Id→Bool→Nat→List D→Option γ):Option γ:=
 match x with
 | .v (.c (.ow id))=>(match h id with
  | some (.tree kd ag sz rows foc)=>(match kd with
   | .fmap e=>(match ag with
    | true=>(match foc with
     | none=>K id e sz rows
     | some _=>none)
    | false=>none)
   | _=>none)
  | _=>none)
 | _=>none
theorem evM_ok {x:AV}{h:Heap}{K:Id→Bool→Nat→List D→Option γ}{P:Id→Bool→Nat→List D→Prop}(hk:∀a b c d,K a b c d=some r→P a b c d) (e:evM x h K=some r):withM x h P:=by
 unfold evM at e
 unfold withM
 split at e
 ·split at e
  ·rename_i hi
   split at e
   ·split at e
    ·split at e
     ·simp only[hi];exact hk _ _ _ _ e
     ·cases e
    ·cases e
   ·cases e
  ·cases e
 ·cases e
def evLookupM (ds:Ds γ) (ti:Types) (t:TypeId) (x key:AV) (ok:Bool) (h:Heap) (pl:Pl) (k:Pl→Out→Option γ):Option γ:=
 evT ti t fun q=>match q.desc with
 | .map kt et=>evT ti kt fun kk=>evT ti et fun j=>evR (zeroOK j)<| (match key with
  | .v (.d key)=>evR (keyOK kk.desc key)<| evM x h fun id e _ rows=>evR (e==rowD j.desc)<| findF e key rows
    (fun y=>ds et y fun y=>match ok with
     | true=>k (pl.at true) ⟨.t [.d y,.d (.bool true)],[id],[]⟩
     | false=>k (pl.at true) ⟨.v (.d y),[id],[]⟩)
    (match ok with
     | true=>k (pl.at false) ⟨.t [V1.ofCells (rowD j.desc) j.zc,.d (.bool false)],[id],[]⟩
     | false=>k (pl.at false) ⟨.v (V1.ofCells (rowD j.desc) j.zc),[id],[]⟩)
  | _=>none)
 | _=>none
theorem evLookupM_ok {M:Mach}{ds:Ds γ}(hd:ds.ok) {ti:Types}{t:TypeId}{x key:AV}{ok:Bool}{h:Heap}{pl:Pl}{k:Pl→Out→Option γ}{P:Out→Prop}(hk:∀p o,k p o=some r→P o) (e:evLookupM ds ti t x key ok h pl k=some r):outLookupM M ti t x key ok h P:=by
 unfold evLookupM at e
 unfold outLookupM
 refine evT_ok (fun q e=>?_) e
 split at e
 ·rename_i hq
  simp only[hq]
  refine evT_ok (fun kk e=>evT_ok (fun j e=>evR_ok (fun e=>?_) e) e) e
  split at e
  ·refine evR_ok (fun e=>evM_ok (fun id e' sz rows e=>evR_ok (fun e=>?_) e) e) e
   rcases findF_inv e with⟨y,h1,e⟩ | ⟨h1,e⟩
   ·refine⟨some y,(M.lock_iff _).2 h1,?_⟩
    replace e:=hd _ _ _ _ e
    cases ok with
    | true=>exact hk _ _ e
    | false=>exact hk _ _ e
   ·refine⟨none,(M.lock_iff _).2 h1,?_⟩
    cases ok with
    | true=>exact hk _ _ e
    | false=>exact hk _ _ e
  ·cases e
 ·cases e
def evUpdateM (ti:Types) (t:TypeId) (x key y:AV) (h:Heap) (k:Out→Option γ):Option γ:=
 evT ti t fun q=>match q.desc with
 | .map kt et=>evT ti kt fun kk=>evT ti et fun j=>(match key with
  | .v (.d key)=>evR (keyOK kk.desc key)<| (match y with
   | .v y=>(match y.norm with
    | .d d=>evR (d.isAgg==rowD j.desc)<| evR (Nat.beq d.cells.length j.size)<| evM x h fun id e sz rows=>evR (e==rowD j.desc)<| evR (Nat.beq sz (j.size+1))<|
      putF key d.cells rows fun rows'=>k ⟨.u,[id],[(id,.tree (.fmap e) true sz rows' none)]⟩
    | _=>none)
   | _=>none)
  | _=>none)
 | _=>none
theorem evUpdateM_ok {M:Mach}{ti:Types}{t:TypeId}{x key y:AV}{h:Heap}{k:Out→Option γ}{P:Out→Prop}(hk:∀o,k o=some r→P o) (e:evUpdateM ti t x key y h k=some r):outUpdateM M ti t x key y h P:=by
 unfold evUpdateM at e
 unfold outUpdateM
 refine evT_ok (fun q e=>?_) e
 split at e
 ·rename_i hq
  simp only[hq]
  refine evT_ok (fun kk e=>evT_ok (fun j e=>?_) e) e
  split at e
  ·refine evR_ok (fun e=>?_) e
   split at e
   ·split at e
    ·rename_i hn
     simp only[withV,hn]
     refine evR_ok (evR_ok fun e=>evM_ok (fun id e' sz rows e=>evR_ok (evR_ok fun e=>?_) e) e) e
     obtain⟨out,h1,e⟩:=putF_inv e
     exact⟨out,(M.lock_iff _).2 h1,hk _ e⟩
    ·cases e
   ·cases e
  ·cases e
 ·cases e
def evMakeMap (ti:Types) (t:TypeId) (fresh:Nat) (k:Out→Option γ):Option γ:=
 evT ti t fun q=>match q.desc with
 | .map _ et=>evT ti et fun j=>k ⟨.v (.c (.ow (.loc fresh))),[],[(.loc fresh,.tree (.fmap (rowD j.desc)) true (j.size+1) [] none)]⟩
 | _=>none
theorem evMakeMap_ok {ti:Types}{t:TypeId}{fresh:Nat}{k:Out→Option γ}{P:Out→Prop}(hk:∀o,k o=some r→P o) (e:evMakeMap ti t fresh k=some r):outMakeMapM ti t fresh P:=by
 refine evT_ok (fun q e=>?_) e
 split at e
 ·rename_i hq;simp only[hq];exact evT_ok (fun j e=>hk _ e) e
 ·cases e
def evNilM (ti:Types) (op:BinOp) (t:TypeId) (x y:AV) (h:Heap) (k:Out→Option γ):Option γ:=
 match y with
 | .v (.c .nilm)=>evT ti t fun q=>(match q.desc with
  | .map _ _=>evM x h fun id _ _ _=>evEqL op false fun d=>k ⟨.v (.d d),[id],[]⟩
  | _=>none)
 | _=>none
theorem evNilM_ok {ti:Types}{op:BinOp}{t:TypeId}{x y:AV}{h:Heap}{k:Out→Option γ}{P:Out→Prop}(hk:∀o,k o=some r→P o) (e:evNilM ti op t x y h k=some r):outNilM ti op t x y h P:=by
 unfold evNilM at e
 unfold outNilM
 split at e
 ·refine evT_ok (fun q e=>?_) e
  split at e
  ·rename_i hq;simp only[hq];exact evM_ok (fun id _ _ _ e=>evEqL_ok (fun d e=>hk _ e) e) e
  ·cases e
 ·cases e
end
end Go.AM
namespace Go.AM
open Go Go.RowKit
section
variable {γ:Type}{r:γ}
def evBnd (ti:Types) (s:Slots) (x:Option Operand) (d:Option γ) (k:Int→Option γ):Option γ:=
 match x with
 | none=>d
 | some x=>evI (opd ti s 3 x) k
def evSlice (ti:Types) (s:Slots) (t:TypeId) (x:AV) (lo hi mx:Option Operand) (k:Out→Option γ):Option γ:=
 evT ti t fun q=>match q.desc with
 | .string=>(match x with
  | .v (.d (.str b))=>(match mx with
   | none=>(match lo with
    | none=>(match hi with
     | none=>none
     | some u=>evI (opd ti s 3 u) fun u=>subF b 0 u fun c=>k ⟨.v (.d (.str c)),[],[]⟩)
    | some l=>evI (opd ti s 3 l) fun l=>(match hi with
     | none=>subToF b l fun c=>k ⟨.v (.d (.str c)),[],[]⟩
     | some u=>evI (opd ti s 3 u) fun u=>subF b l u fun c=>k ⟨.v (.d (.str c)),[],[]⟩))
   | some _=>none)
  | _=>none)
 | .slice e=>evT ti e fun j=>match x with
  | .v (.c (.sl _ n))=>(match lo,hi,mx with
   | none,some u,none=>evI (opd ti s 3 u) fun z=>(match z with
    | .ofNat 0=>evR (Nat.ble n 4294967296) (k ⟨.v (.d (.list (rowD j.desc) j.size [])),[],[]⟩)
    | _=>none)
   | _,_,_=>none)
  | x=>evL x fun ag sz rows=>evR (rowD j.desc==ag)<| evR (Nat.beq sz j.size)<| evBnd ti s lo
   (match hi with
    | none=>none
    | some u=>evI (opd ti s 3 u) fun u=>(match mx with
     | none=>sliceF rows 0 u fun out=>k ⟨.v (.d (.list ag sz out)),[],[]⟩
     | some m=>evI (opd ti s 3 m) fun v=>slice3F rows 0 u v fun out=>k ⟨.v (.c (.tl ag sz out)),[],[]⟩))
   fun l=>(match hi with
    | none=>(match mx with
     | none=>fromF rows l fun out=>k ⟨.v (.d (.list ag sz out)),[],[]⟩
     | some _=>none)
    | some u=>evI (opd ti s 3 u) fun u=>(match mx with
     | none=>sliceF rows l u fun out=>k ⟨.v (.d (.list ag sz out)),[],[]⟩
     | some m=>evI (opd ti s 3 m) fun v=>slice3F rows l u v fun out=>k ⟨.v (.c (.tl ag sz out)),[],[]⟩))
 | _=>none
theorem evI_some {x:AV}{k:Int→Option γ}(h:evI x k=some r):∃q n,x= .v (.d (.int q n))∧k n=some r:=by
 unfold evI at h
 split at h
 ·exact⟨_,_,rfl,h⟩
 ·cases h
theorem evSlice_ok {M:Mach}{ti:Types}{s:Slots}{t:TypeId}{x:AV}{lo hi mx:Option Operand}{k:Out→Option γ}{P:Out→Prop}(hk:∀o,k o=some r→P o) (e:evSlice ti s t x lo hi mx k=some r):outSlice M ti s t x lo hi mx P:=by
 unfold evSlice at e
 unfold outSlice
 refine evT_ok (fun q e=>?_) e
 split at e
 ·rename_i hq
  simp only[hq]
  split at e
  ·split at e
   ·split at e
    ·split at e
     ·cases e
     ·obtain⟨q2,u,h2,e⟩:=evI_some e
      obtain⟨c,h3,h4,e⟩:=subF_inv M e
      simp only[bndI,h2,withI]
      exact⟨c,h3,h4,hk _ e⟩
    ·obtain⟨q1,l,h1,e⟩:=evI_some e
     split at e
     ·obtain⟨c,h3,h4,e⟩:=subToF_inv M e
      simp only[bndI,h1,withI]
      exact⟨c,h3,h4,hk _ e⟩
     ·obtain⟨q2,u,h2,e⟩:=evI_some e
      obtain⟨c,h3,h4,e⟩:=subF_inv M e
      simp only[bndI,h1,h2,withI]
      exact⟨c,h3,h4,hk _ e⟩
   ·cases e
  ·cases e
 ·rename_i el hq
  simp only[hq]
  refine evT_ok (fun j e=>?_) e
  split at e
  ·split at e
   ·obtain⟨q1,z,h1,e⟩:=evI_some e
    split at e
    ·obtain⟨h2,e⟩:=evR_some e
     simp only[outSl0,h1,withI]
     exact req_iff.2 ⟨h2,rfl,hk _ e⟩
    ·cases e
   ·cases e
  split
  ·unfold evL at e;cases e
  refine evL_ok (fun ag sz rows e=>evR_ok (evR_ok fun e=>?_) e) e
  unfold evBnd at e
  split at e
  ·split at e
   ·cases e
   ·obtain⟨q2,u,h2,e⟩:=evI_some e
    simp only[bndI,h2,withI]
    split at e
    ·obtain⟨c,h3,h4,e⟩:=sliceF_inv M e
     exact⟨c,h3,h4,hk _ e⟩
    ·obtain⟨q3,v,h5,e⟩:=evI_some e
     obtain⟨c,h3,h4,e⟩:=slice3F_inv M e
     simp only[h5]
     exact⟨c,h3,h4,hk _ e⟩
  ·obtain⟨q1,l,h1,e⟩:=evI_some e
   split at e
   ·split at e
    ·obtain⟨c,h3,h4,e⟩:=fromF_inv M e
     simp only[bndI,h1,withI]
     exact⟨c,h3,h4,hk _ e⟩
    ·cases e
   ·obtain⟨q2,u,h2,e⟩:=evI_some e
    simp only[bndI,h1,h2,withI]
    split at e
    ·obtain⟨c,h3,h4,e⟩:=sliceF_inv M e
     exact⟨c,h3,h4,hk _ e⟩
    ·obtain⟨q3,v,h5,e⟩:=evI_some e
     obtain⟨c,h3,h4,e⟩:=slice3F_inv M e
     simp only[h5]
     exact⟨c,h3,h4,hk _ e⟩
 ·cases e
def evIdx (ds:Ds γ) (ti:Types) (t:TypeId) (x i:AV) (k:Out→Option γ):Option γ:=
 evI i fun n=>evT ti t fun q=>match q.desc with
 | .string=>(match x with
  | .v (.d (.str b))=>atF b n fun z=>k ⟨.v (.d (.int .u8 z)),[],[]⟩
  | _=>none)
 | .array len e=>evT ti e fun j=>(match x with
  | .v (.d (.agg cs))=>evR (Nat.beq cs.length (len*j.size))<| getF (rowsOf (rowD j.desc) j.size len cs) n fun d=>ds e d fun d=>k ⟨.v (.d d),[],[]⟩
  | .v (.agg cs)=>evR (Nat.beq cs.length (len*j.size))<| (match n with
   | .ofNat p=>evR (Nat.blt p len) (k ⟨.v (V1.ofCells (rowD j.desc) ((cs.drop (p*j.size)).take j.size)),[],[]⟩)
   | .negSucc _=>none)
  | _=>none)
 | _=>none
theorem evIdx_ok {ds:Ds γ}(hd:ds.ok) {ti:Types}{t:TypeId}{x i:AV}{k:Out→Option γ}{P:Out→Prop}(hk:∀o,k o=some r→P o) (e:evIdx ds ti t x i k=some r):outIndexV ti t x i P:=by
 unfold evIdx at e
 unfold outIndexV
 refine evI_ok (fun _ n e=>evT_ok (fun q e=>?_) e) e
 split at e
 ·rename_i hq
  simp only[hq]
  split at e
  ·obtain⟨z,h1,h2⟩:=atF_inv e
   exact⟨z,h1,hk _ h2⟩
  ·cases e
 ·rename_i hq
  simp only[hq]
  refine evT_ok (fun j e=>?_) e
  split at e
  ·refine evR_ok (fun e=>?_) e
   obtain⟨d,⟨h1,h2⟩,h3⟩:=getF_inv e
   exact⟨d,h1,h2,hk _ (hd _ _ _ _ h3)⟩
  ·refine evR_ok (fun e=>?_) e
   split at e
   ·obtain⟨h1,e⟩:=evR_some e
    exact⟨_,⟨rfl,by simpa using h1⟩,hk _ e⟩
   ·cases e
  ·cases e
 ·cases e
def evBytes (ti:Types) (src dst:TypeId) (x:AV) (k:Out→Option γ):Option γ:=
 evT ti src fun a=>evT ti dst fun b=>match a.desc with
 | .slice e=>evT ti e fun j=>(match j.desc with
  | .int .u8=>(match b.desc with
   | .string=>evL x fun _ _ rows=>strF rows fun bs=>k ⟨.v (.d (.str bs)),[],[]⟩
   | _=>none)
  | _=>none)
 | _=>none
theorem evBytes_ok {M:Mach}{ti:Types}{src dst:TypeId}{x:AV}{k:Out→Option γ}{P:Out→Prop}(hk:∀o,k o=some r→P o) (e:evBytes ti src dst x k=some r):outBytes M ti src dst x P:=by
 unfold evBytes at e
 unfold outBytes
 refine evT_ok (fun a e=>evT_ok (fun b e=>?_) e) e
 split at e
 ·rename_i h1
  simp only[h1]
  refine evT_ok (fun j e=>?_) e
  split at e
  ·rename_i h2
   split at e
   ·rename_i h3
    simp only[h2,h3]
    refine evL_ok (fun _ _ rows e=>?_) e
    obtain⟨ns,bs,h4,h5,e⟩:=strF_inv e
    exact⟨ns,(M.lock_iff _).2 h4,bs,h5,hk _ e⟩
   ·cases e
  ·cases e
 ·cases e
def evLookN (ti:Types) (t:TypeId) (x:AV) (ok:Bool) (k:Out→Option γ):Option γ:=
 evT ti t fun q=>match q.desc with
 | .map kt et=>evT ti kt fun kk=>evT ti et fun j=>evR (plainKey kk.desc)<| evR (zeroOK j)<| (match x with
  | .v (.c .nilm)=>(match ok with
   | true=>k ⟨.t [V1.ofCells (rowD j.desc) j.zc,.d (.bool false)],[],[]⟩
   | false=>k ⟨.v (V1.ofCells (rowD j.desc) j.zc),[],[]⟩)
  | _=>none)
 | _=>none
theorem evLookN_ok {ti:Types}{t:TypeId}{x key:AV}{ok:Bool}{k:Out→Option γ}{P:Out→Prop}(hk:∀o,k o=some r→P o) (e:evLookN ti t x ok k=some r):outLookup ti t x key ok P:=by
 unfold evLookN at e
 unfold outLookup
 refine evT_ok (fun q e=>?_) e
 split at e
 ·rename_i hq
  simp only[hq]
  refine evT_ok (fun kk e=>evT_ok (fun j e=>evR_ok (evR_ok fun e=>?_) e) e) e
  split at e
  ·cases ok with
   | true=>exact hk _ e
   | false=>exact hk _ e
  ·cases e
 ·cases e
def evGh:List Gh→St→(St→Option γ)→Option γ
 | [],σ,K=>K σ
 | x::l,σ,K=>match x with
  | .close i=>evCloses (getH σ.heap) [i] fun _ _ wr=>evGh l ⟨σ.slots,setW σ.heap wr,σ.next⟩ K
  | .treeS t ag sz=>evR (Nat.blt 0 sz)<| evR (isNilsA ag sz (getS σ.slots t))<| evGh l (treeSlot t ag sz σ) K
  | .treeC i j ag sz=>evR (Nat.blt 0 sz)<| (match getH σ.heap i with
   | some (.cells cs)=>evR (isNils ag sz (nthC cs j))<| evGh l (treeCell i j ag sz σ) K
   | _=>none)
  | .freeze i=>(match getH σ.heap i with
   | some (.tree kd ag sz rows foc)=>(match foc with
    | none=>evR (isRF kd)<| evGh l (fzSt i (.list ag sz rows) σ) K
    | some _=>none)
   | _=>none)
  | .unC i j=>(match getH σ.heap i with
   | some (.cells cs)=>evGh l ⟨σ.slots,setH σ.heap i (.cells (setNth cs j .un)),σ.next⟩ K
   | _=>none)
  | .drop i=>(match getH σ.heap i with
   | some _=>evGh l ⟨σ.slots,setH σ.heap i .gone,σ.next⟩ K
   | none=>none)
  | .treeA t j ag sz=>evR (Nat.blt 0 sz)<| (match getS σ.slots t with
   | .v (.agg cs)=>evR (isNils ag sz (nthC cs j))<| evGh l (treeArr t cs j ag sz σ) K
   | _=>none)
  | .flatten i=>(match getH σ.heap i with
   | some (.tree kd ag sz rows foc)=>(match kd with
    | .row=>(match foc with
     | none=>evGh l ⟨σ.slots,setH σ.heap i (.tree .flat ag sz rows none),σ.next⟩ K
     | some _=>none)
    | _=>none)
   | _=>none)
  | .move i=>(match getH σ.heap i with
   | some (.tree kd ag sz rows foc)=>(match foc with
    | none=>evGh l (mvSt i (.tree kd ag sz rows none) σ) K
    | some _=>none)
   | _=>none)
  | .freezeC i ag sz n=>(match getH σ.heap i with
   | some (.cells cs)=>(match datas cs with
    | some ds=>evR (Nat.beq (n*sz) ds.length)<| evR (Nat.blt 0 sz)<| evR (ag || Nat.beq sz 1)<| evR (Nat.ble n maxLen)<| evGh l (fzSt i (.list ag sz (rowsOf ag sz n ds)) σ) K
    | none=>none)
   | _=>none)
  | _=>none
theorem evGh_ok:∀{l:List Gh}{σ:St}{K:St→Option γ}{P:St→Prop},(∀σ,K σ=some r→P σ)→evGh l σ K=some r→gh l σ P
 | [],_,_,_,hk,e=>hk _ e
 | x::l,σ,K,P,hk,e=>by
  unfold evGh at e
  unfold gh
  split at e
  ·exact evCloses_ok (fun _ _ wr e=>evGh_ok hk e) e
  ·exact evR_ok (evR_ok fun e=>evGh_ok hk e) e
  ·refine evR_ok (fun e=>?_) e
   split at e
   ·rename_i hi;simp only[hi];exact evR_ok (fun e=>evGh_ok hk e) e
   ·cases e
  ·split at e
   ·rename_i hi
    split at e
    ·simp only[hi];exact evR_ok (fun e=>evGh_ok hk e) e
    ·cases e
   ·cases e
  ·split at e
   ·rename_i hi;simp only[hi];exact evGh_ok hk e
   ·cases e
  ·split at e
   ·rename_i hi;simp only[hi];exact evGh_ok hk e
   ·cases e
  ·refine evR_ok (fun e=>?_) e
   split at e
   ·rename_i hi;simp only[hi];exact evR_ok (fun e=>evGh_ok hk e) e
   ·cases e
  ·split at e
   ·rename_i hi
    split at e
    ·split at e
     ·simp only[hi];exact evGh_ok hk e
     ·cases e
    ·cases e
   ·cases e
  ·split at e
   ·rename_i hi
    split at e
    ·simp only[hi];exact evGh_ok hk e
    ·cases e
   ·cases e
  ·split at e
   ·rename_i hi
    split at e
    ·rename_i hd
     simp only[hi,hd]
     exact evR_ok (evR_ok (evR_ok (evR_ok fun e=>⟨_,rfl,evGh_ok hk e⟩))) e
    ·cases e
   ·cases e
  ·cases e
def idsFC:List FC→List Id
 | []=>[]
 | .p i::l=>i::idsFC l
 | _::l=>idsFC l
def idsC2:CV→List Id
 | .fz _ cs=>idsFC cs
 | c=>idsC c
def idsCs2:List CV→List Id
 | []=>[]
 | c::cs=>idsC2 c++idsCs2 cs
def idsV2:V1→List Id
 | .d _=>[]
 | .c x=>idsC2 x
 | .agg cs=>idsCs2 cs
def idsVs2:List V1→List Id
 | []=>[]
 | x::xs=>idsV2 x++idsVs2 xs
def idsA2:AV→List Id
 | .u=>[]
 | .v x=>idsV2 x
 | .t xs=>idsVs2 xs
 | .df _ cs _=>idsFC cs
def idsS2:List (Nat×AV)→List Id
 | []=>[]
 | x::l=>idsA2 x.2++idsS2 l
def idsO2:Option AObj→List Id
 | some (.rnd _ sl)=>idsS2 sl
 | some (.cells cs)=>idsCs2 cs
 | some (.tree _ _ _ _ foc)=>(match foc with
  | some x=>idsCs2 x.2
  | none=>[])
 | some (.fnl _ cs _)=>idsFC cs
 | _=>[]
def reach2 (h:Heap):Nat→List Id→List Id→List Id
 | 0,_,acc=>acc
 | _+1,[],acc=>acc
 | n+1,i::t,acc=>match idIn i acc with
  | true=>reach2 h n t acc
  | false=>reach2 h n (idsO2 (h i)++t) (acc++[i])
def kindP:AObj→AObj→Bool
 | .cells _,.cells _=>true
 | .tree ..,.tree ..=>true
 | .arr ..,.arr ..=>true
 | .map ..,.map ..=>true
 | .pmap ..,.pmap ..=>true
 | .rnd ..,.rnd ..=>true
 | .rnd ..,.rndX _=>true
 | .rndX _,.rndX _=>true
 | _,.gone=>true
 | _,_=>false
def kindsP:List AObj→List AObj→Bool
 | [],[]=>true
 | a::al,b::bs=>match kindP a b with
  | true=>kindsP al bs
  | false=>false
 | _,_=>false
theorem kindP_ok {a b:AObj}(h:kindP a b=true):sameKind a b:=by
 unfold kindP at h
 split at h
 ·trivial
 ·trivial
 ·trivial
 ·trivial
 ·trivial
 ·trivial
 ·trivial
 ·trivial
 ·cases a<;>trivial
 ·cases h
theorem kindsP_ok:∀{a b:List AObj},kindsP a b=true→allKinds a b
 | [],[],_=>trivial
 | a::al,b::bs,h=>by
  unfold kindsP at h
  split at h
  ·rename_i hk;exact⟨kindP_ok hk,kindsP_ok h⟩
  ·cases h
 | [],_::_,h=>by cases h
 | _::_,[],h=>by cases h
abbrev ClP (γ:Type):=FuncId→List V1→List AObj→(Nat→Ret→Option γ)→Option γ
def ClP.ok (P:Program) (I:Inv) (call:ClP γ):Prop:=∀f args pre k r,call f args pre k=some r→∃i res post new,Trip P I f args pre res post new∧k i ⟨res,post,new⟩=some r
def evCallP (call:ClP γ) (f:FuncId) (xs:List V1) (m:List Id) (fresh:Nat) (h:Heap) (pl:Pl) (k:Pl→AV→List (Id×AObj)→Option γ):Option γ:=
 match objsAt h m with
 | none=>none
 | some objs=>evR (allB (v1P (backB m fresh)) xs)<| evR (allB (objP (backB m fresh)) objs)<| evR (nodupB m)<|
   call f (xs.map (V1.ren (inId m))) (objs.map (AObj.ren (inId m))) fun i ret=>
    evR (kindsP (objs.map (AObj.ren (inId m))) ret.post)<| evR (Nat.ble ret.new.length 31)<|
     k (pl.nth i) (ret.res.ren (renM m fresh)) (wrM m (renM m fresh) ret.post++wrNew fresh (renM m fresh) 0 ret.new)
theorem evCallP_ok {P:Program}{I:Inv}{call:ClP γ}(hc:call.ok P I) {f:FuncId}{xs:List V1}{m:List Id}{fresh:Nat}{h:Heap}{pl:Pl}{k:Pl→AV→List (Id×AObj)→Option γ}(e:evCallP call f xs m fresh h pl k=some r):
  ∃(targs:List V1) (pre:List AObj) (res:AV) (post new:List AObj) (p:Pl),Trip P I f targs pre res post new∧xs=targs.map (V1.ren (renM m fresh))∧m.length=pre.length∧m.Nodup∧
   (∀(j:Nat) i o,m[j]?=some i→pre[j]?=some o→h i=some (o.ren (renM m fresh)))∧allKinds pre post∧new.length≤31∧k p (res.ren (renM m fresh)) (wrM m (renM m fresh) post++wrNew fresh (renM m fresh) 0 new)=some r:=by
 unfold evCallP at e
 split at e
 ·cases e
 ·rename_i objs ho
  obtain⟨h1,e⟩:=evR_some e
  obtain⟨h2,e⟩:=evR_some e
  obtain⟨h3,e⟩:=evR_some e
  obtain⟨i,res,post,new,ht,e⟩:=hc _ _ _ _ _ e
  obtain⟨h4,e⟩:=evR_some e
  obtain⟨h5,e⟩:=evR_some e
  obtain⟨g1,g2⟩:=objsAt_len ho
  refine⟨_,_,res,post,new,_,ht,?_,by simpa using g1,nodup_of h3,fun j i o hm hp=>?_,kindsP_ok h4,Nat.le_of_ble_eq_true h5,e⟩
  ·rw[List.map_map]
   rw[allB_iff]at h1
   exact (map_same fun x hx=>ren_v1 (fun i hi=>backB_ok hi) (h1 x hx)).symm
  ·rw[List.getElem?_map,Option.map_eq_some_iff]at hp
   obtain⟨o',ho',rfl⟩:=hp
   rw[allB_iff]at h2
   rw[ren_obj (p:=backB m fresh) (fun i hi=>backB_ok hi) (h2 o' (List.mem_of_getElem? ho'))]
   exact g2 j i o' hm ho'
def calleeOf:AV→Option (FuncId×List V1×List V1)
 | .v (.c (.fn n cap))=>some (n,[],cap.map fun i=>V1.c (.ptr i 0))
 | .v (.c (.bm n i))=>some (n,[V1.c (.ptr i 0)],[])
 | .v (.c (.fz n cs))=>some (n,[],cs.map capV)
 | _=>none
def valsW (w:Bool) (l:List AV):Option (List V1):=match w with
 | true=>vals0 l
 | false=>vals1 l
def evCall0 (call:ClP γ) (ti:Types) (c:Call) (f:Operand) (w:Bool) (fresh:Nat) (s:Slots) (h:Heap) (pl:Pl) (k:Pl→Out→Option γ):Option γ:=
 match calleeOf (opd ti s 0 f)with
 | some (n,ays,bs)=>(match valsW w (opsArgs ti s c.args.toList c.argTypes.toList)with
  | some xs=>evCallP call n (ays++(xs++bs)) (reach2 h 100 (idsVs2 (ays++(xs++bs))) []) fresh h pl fun p v wr=>
    evKeepW h (constIds h (reach2 h 100 (idsVs2 (ays++(xs++bs))) [])) (reach2 h 100 (idsVs2 (ays++(xs++bs))) []) wr fun wr=>k p ⟨v,reach2 h 100 (idsVs2 (ays++(xs++bs))) [],wr⟩
  | none=>none)
 | none=>none
theorem outCallV_of {M:Mach}{f:AV}{args:List AV}{fresh:Nat}{h:Heap}{K:Out→Prop}{n:FuncId}{ays bs:List V1}{w:Bool}{xs:List V1}(h1:calleeOf f=some (n,ays,bs)) (h2:valsW w args=some xs) (h3:outCall M.P M.I n (ays++(xs++bs)) fresh h K):outCallV M f args fresh h K:=by
 have hb:∀K:List V1→Prop,K xs→withArgsB args K:=fun K hk=>by
  cases w with
  | true=>exact⟨false,by show (match vals0 args with | some xs=>K xs | none=>False);rw[show vals0 args=some xs from h2];exact hk⟩
  | false=>exact⟨true,by show withArgs args K;unfold withArgs;rw[show vals1 args=some xs from h2];exact hk⟩
 unfold calleeOf at h1
 unfold outCallV
 split at h1
 ·cases h1;exact hb _ ((M.lock_iff _).2 h3)
 ·cases h1;rw[List.append_nil]at h3;exact hb _ ((M.lock_iff _).2 h3)
 ·cases h1;exact hb _ ((M.lock_iff _).2 h3)
 ·cases h1
theorem evCall0_ok {M:Mach}{call:ClP γ}(hc:call.ok M.P M.I) {ti:Types}{o:Oper}{c:Call}{f:Operand}(ho:o.op= .call c) (hf:c.callee= .value f) {w:Bool}{fresh:Nat}{s:Slots}{h:Heap}{pl:Pl}{k:Pl→Out→Option γ}{P:Out→Prop}(hk:∀p o,k p o=some r→P o)
  (e:evCall0 call ti c f w fresh s h pl k=some r):opOut M ti o fresh s h P:=by
 unfold evCall0 at e
 split at e
 ·rename_i n ays bs h1
  split at e
  ·rename_i xs h2
   generalize reach2 h 100 (idsVs2 (ays++(xs++bs))) []=m at e
   obtain⟨targs,pre,res,post,new,p,g1,g2,g3,g4,g5,g6,g7,e⟩:=evCallP_ok hc e
   unfold opOut
   rw[ho]
   simp only[]
   rw[hf]
   refine .inr (.inr ⟨constIds h m,?_⟩)
   unfold opOut0
   rw[ho]
   simp only[]
   rw[hf]
   exact outCallV_of h1 h2 ⟨m,targs,pre,res,post,new,g1,g2,g3,g4,g5,g6,g7,evKeepW_ok (fun wr hw=>hk _ _ hw) e⟩
  ·cases e
 ·cases e
def evCallG (call:ClP γ) (ti:Types) (o:Oper) (c:Call) (f:Operand) (gs:List Gh) (fresh:Nat) (σ:St) (pl:Pl) (K:Pl→St→Option γ):Option γ:=
 evGh gs ⟨σ.slots,σ.heap,fresh⟩ fun σ'=>evR (Nat.beq σ'.next fresh)<| (match opd ti (getS σ'.slots) 0 f with
  | .v (.c (.fn n cap))=>(match vals1 (opsArgs ti (getS σ'.slots) c.args.toList c.argTypes.toList)with
   | some xs=>evCallP call n (xs++cap.map fun i=>V1.c (.ptr i 0)) (reach2 (getH σ'.heap) 100 (idsVs2 (xs++cap.map fun i=>V1.c (.ptr i 0))) []) fresh (getH σ'.heap) pl fun p v wr=>K p ⟨putS σ'.slots o.dst v,setW σ'.heap wr,σ'.next⟩
   | none=>none)
  | _=>none)
theorem evCallG_ok {M:Mach}{call:ClP γ}(hc:call.ok M.P M.I) {ti:Types}{o:Oper}{c:Call}{f:Operand}(ho:o.op= .call c) (hf:c.callee= .value f) {gs:List Gh}{fresh:Nat}{σ:St}{pl:Pl}{K:Pl→St→Option γ}{P:St→Prop}(hk:∀p o,K p o=some r→P o)
  (e:evCallG call ti o c f gs fresh σ pl K=some r):callK M ti o fresh σ P:=by
 unfold evCallG at e
 unfold callK
 rw[ho]
 simp only[]
 rw[hf]
 simp only[]
 obtain⟨σ',hw,e⟩:=gh_weak (evGh_ok (P:=fun σ'=>_=some r) (fun σ h=>h) e)
 obtain⟨h1,e⟩:=evR_some e
 refine⟨σ',hw,Nat.eq_of_beq_eq_true h1,?_⟩
 split at e
 ·rename_i n cap h2
  rw[h2]
  simp only[]
  unfold withArgs
  split at e
  ·rename_i xs h3
   rw[h3]
   obtain⟨targs,pre,res,post,new,p,g1,g2,g3,g4,g5,g6,g7,e⟩:=evCallP_ok hc e
   refine⟨_,targs,pre,fun a b c=>a=res∧b=post∧c=new,g1,g2,g3,g4,g5,?_⟩
   rintro _ _ _ ⟨rfl,rfl,rfl⟩
   exact⟨⟨g6,g7⟩,hk _ _ e⟩
  ·cases e
 ·cases e
end
end Go.AM
namespace Go.AM
open Go Go.RowKit
section
variable {γ:Type}{r:γ}
def evEq1 (d:TypeDesc) (x y:D) (pl:Pl) (k:Pl→Bool→Option γ):Option γ:=
 match x,y with
 | .int q a,.int q' b=>(match d with
  | .int _=>evR (decide (q=q')) (if a=b then k (pl.at true) true else k (pl.at false) false)
  | _=>none)
 | .str a,.str b=>(match d with
  | .string=>if a=b then k (pl.at true) true else k (pl.at false) false
  | _=>none)
 | .bool a,.bool b=>(match d with
  | .bool=>if a=true then (if b=true then k ((pl.at true).at true) true else k ((pl.at true).at false) false)else (if b=true then k ((pl.at false).at true) false else k ((pl.at false).at false) true)
  | _=>none)
 | _,_=>none
theorem evEqB_ok {a b:Bool}{pl:Pl}{k:Pl→Bool→Option γ}{P:Bool→Prop}(hk:∀p b,k p b=some r→P b) (e:(if a=true then (if b=true then k ((pl.at true).at true) true else k ((pl.at true).at false) false)else (if b=true then k ((pl.at false).at true) false else k ((pl.at false).at false) true))=some r):P (a==b):=by
 cases a<;>cases b<;>exact hk _ _ e
theorem evEq1_ok {M:Mach}{d:TypeDesc}{x y:D}{pl:Pl}{k:Pl→Bool→Option γ}{P:Bool→Prop}(hk:∀p b,k p b=some r→P b) (e:evEq1 d x y pl k=some r):eq1 M d x y P:=by
 unfold evEq1 at e
 unfold eq1
 split at e
 ·split at e
  ·refine evR_ok (fun e=>?_) e
   rw[M.split_iff,M.eqI_eq]
   split at e
   ·rename_i c;rw[beq_iff_eq.2 c];exact hk _ _ e
   ·rename_i c;rw[beq_eq_false_iff_ne.2 c];exact hk _ _ e
  ·cases e
 ·split at e
  ·simp only[M.split_iff,M.eqS_eq]
   split at e
   ·rename_i c;rw[bytes_eq.2 c];exact hk _ _ e
   ·rename_i c;rw[Bool.eq_false_iff.2 fun e=>c (bytes_eq.1 e)];exact hk _ _ e
  ·cases e
 ·split at e
  ·simp only[eqvB_eq]
   exact evEqB_ok hk e
  ·cases e
 ·cases e
def evEqFs (ti:Types) (xs ys:List D):List Field→Pl→(Pl→Bool→Option γ)→Option γ
 | [],pl,k=>k pl true
 | f::fs,pl,k=>evT ti f.type fun j=>match nthD xs f.offset with
  | some x=>(match nthD ys f.offset with
   | some y=>evEq1 j.desc x y pl fun p q=>(match q with
    | true=>evEqFs ti xs ys fs p k
    | false=>k p false)
   | none=>none)
  | none=>none
theorem evEqFs_ok {M:Mach}{ti:Types}{xs ys:List D}:∀{fs:List Field}{pl:Pl}{k:Pl→Bool→Option γ}{P:Bool→Prop},(∀p b,k p b=some r→P b)→evEqFs ti xs ys fs pl k=some r→eqFs M ti xs ys fs P
 | [],_,_,_,hk,e=>hk _ _ e
 | f::fs,pl,k,P,hk,e=>by
  unfold evEqFs at e
  unfold eqFs
  refine evT_ok (fun j e=>?_) e
  split at e
  ·rename_i hx
   split at e
   ·rename_i hy
    simp only[hx,hy]
    refine evEq1_ok (fun p q e=>?_) e
    cases q with
    | true=>exact evEqFs_ok hk e
    | false=>exact hk _ _ e
   ·cases e
  ·cases e
def evEqS (sok:TypeId→Bool) (ti:Types) (op:BinOp) (t:TypeId) (x y:AV) (pl:Pl) (k:Pl→Out→Option γ):Option γ:=
 match x,y with
 | .v (.d (.agg xs)),.v (.d (.agg ys))=>evT ti t fun i=>(match i.desc with
  | .struct fs=>evR (sok t)<| evEqFs ti xs ys fs.toList pl fun p q=>evEqL op q fun d=>k p ⟨.v (.d d),[],[]⟩
  | _=>none)
 | _,_=>none
def Sok (P:Program) (ti:Types) (sok:TypeId→Bool):Prop:=∀t i fs,sok t=true→ti t=some i→i.desc= .struct fs→structOK P t fs.toList
theorem evEqS_ok {M:Mach}{sok:TypeId→Bool}{ti:Types}(hs:Sok M.P ti sok) {op:BinOp}{t:TypeId}{x y:AV}{pl:Pl}{k:Pl→Out→Option γ}{P:Out→Prop}(hk:∀p o,k p o=some r→P o) (e:evEqS sok ti op t x y pl k=some r):outEqS M ti op t x y P:=by
 unfold evEqS at e
 unfold outEqS
 split at e
 ·unfold evT at e
  unfold withT
  split at e
  ·rename_i i hi
   rw[hi]
   simp only[]at e ⊢
   split at e
   ·rename_i fs hq
    obtain⟨h1,e⟩:=evR_some e
    simp only[hq]
    exact⟨(M.lock_iff _).2 (hs t i fs h1 hi hq),evEqFs_ok (fun p q e=>evEqL_ok (fun d e=>hk _ _ e) e) e⟩
   ·cases e
  ·cases e
 ·cases e
structure EnvO (γ:Type) where
 ds:Ds γ
 el:Els
 own:Bool
 sok:TypeId→Bool
 call:ClP γ
 /-- Are lists that begin frozen? -/
 frz:Bool:=false
 /-- Are literal lists frozen, though others are its own? -/
 nolit:Bool:=false
structure EnvO.ok (P:Program) (I:Inv) (ti:Types) (E:EnvO γ):Prop where
 ds:E.ds.ok
 sok:Sok P ti E.sok
 call:E.call.ok P I
def isOpen (x:AV) (h:Heap):Option Id:=
 match x with
 | .v (.c (.op i _ _ _))=>(match h i with
  | some (.tree _ _ _ _ foc)=>(match foc with
   | some _=>some i
   | none=>none)
  | _=>none)
 | _=>none
def clOf (x:AV) (h:Heap) (pl:Pl):List Id×Pl:=
 match isOpen x h with
 | some i=>(match pl.take.w with
  | true=>(openIds h 9 i,pl.take.r)
  | false=>([],pl.take.r))
 | none=>([],pl)
def opensA (h:Heap):AV→List Id
 | .v (.c (.ow i))=>openIds h 9 i
 | .v (.c (.sl j _))=>(match h j with
  | some (.cells cs)=>owsOf (openIds h 9) cs
  | _=>[])
 | _=>[]
def isSlA:AV→Bool
 | .v (.c (.sl _ _))=>true
 | _=>false
def isNilsC:CV→Bool
 | .nils _ _=>true
 | _=>false
def appKind (own:Bool) (ti:Types) (t:TypeId) (x y:AV) (h:Heap):Option Bool:=
 match isFl x h with
 | true=>some false
 | false=>(match ti t with
  | some q=>(match q.desc with
   | .slice e=>(match ti e with
    | some j=>(match anyB isNilsC j.zc with
     | true=>(match isOwA x with
      | true=>(match isOwA y || isSlA y with
       | true=>some true
       | false=>some false)
      | false=>(match isNilA x with
       | true=>(match isSlA y with
        | true=>some true
        | false=>(match isOwA y with
         | true=>some true
         | false=>(match own with
          | true=>some false
          | false=>none)))
       | false=>none))
     | false=>(match isOwA x || isOwA y with
      | true=>some true
      | false=>(match isNilA x with
       | true=>(match own with
        | true=>some true
        | false=>none)
       | false=>none)))
    | none=>none)
   | _=>none)
  | none=>none)
def allData (ti:Types) (s:Slots) (e:TypeId):List (Nat×Operand)→Bool
 | []=>true
 | (_,x)::l=>(match opd ti s e x with
  | .v y=>(match y.norm with
   | .d _=>allData ti s e l
   | _=>false)
  | _=>false)
def anyFz2 (ti:Types) (s:Slots) (e:TypeId):List (Nat×Operand)→Bool
 | []=>false
 | (_,x)::l=>(match hasFz (opd ti s e x)with
  | true=>true
  | false=>anyFz2 ti s e l)
def elemT (ti:Types) (t:TypeId):TypeId:=
 match ti t with
 | some q=>(match q.desc with
  | .slice e=>e
  | _=>0)
 | none=>0
def evAppend0 (ti:Types) (t:TypeId) (x y:AV) (k:Out→Option γ):Option γ:=
 evT ti t fun q=>match q.desc with
 | .slice e=>evT ti e fun j=>evR (Nat.blt 0 j.size)<| evL y fun ag sz ys=>evR (rowD j.desc==ag)<| evR (Nat.beq sz j.size)<|
  (match x with
  | .v (.c (.nils _ _))=>appF j.bytes [] ys fun out=>k ⟨.v (.d (.list (rowD j.desc) j.size out)),[],[]⟩
  | .v (.c (.tl ag' sz' rows))=>evR (rowD j.desc==ag')<| evR (Nat.beq sz' j.size)<| appF j.bytes rows ys fun out=>k ⟨.v (.d (.list (rowD j.desc) j.size out)),[],[]⟩
  | _=>none)
 | _=>none
theorem evAppend0_ok {M:Mach}{ti:Types}{t:TypeId}{x y:AV}{fresh:Nat}{h:Heap}{k:Out→Option γ}{P:Out→Prop}(hk:∀o,k o=some r→P o) (e:evAppend0 ti t x y k=some r):outAppend M ti t x y fresh h P:=by
 unfold evAppend0 at e
 unfold outAppend
 refine evT_ok (fun q e=>?_) e
 split at e
 ·rename_i hq
  simp only[hq]
  refine evT_ok (fun j e=>evR_ok (fun e=>evL_ok (fun ag sz ys e=>evR_ok (evR_ok fun e=>?_) e) e) e) e
  split at e
  ·obtain⟨out,h1,h2,e⟩:=appF_inv e
   exact⟨(M.lock_iff _).2 h1,out,h2,false,hk _ e⟩
  ·refine evR_ok (evR_ok fun e=>?_) e
   obtain⟨out,h1,h2,e⟩:=appF_inv e
   exact⟨(M.lock_iff _).2 h1,out,h2,false,hk _ e⟩
  ·cases e
 ·cases e
def evLenM (ti:Types) (t:TypeId) (x:AV) (h:Heap) (k:Out→Option γ):Option γ:=
 evT ti t fun q=>match q.desc with
 | .map _ _=>evM x h fun id _ _ rows=>lenF rows fun z=>k ⟨.v (.d (.int .i64 z)),[id],[]⟩
 | _=>none
theorem evLenM_ok {M:Mach}{ti:Types}{t:TypeId}{x:AV}{h:Heap}{k:Out→Option γ}{P:Out→Prop}(hk:∀o,k o=some r→P o) (e:evLenM ti t x h k=some r):outLenM M ti t x h P:=by
 unfold evLenM at e
 unfold outLenM
 refine evT_ok (fun q e=>?_) e
 split at e
 ·rename_i hq;simp only[hq];exact evM_ok (fun id _ _ rows e=>(lenF_inv M e).imp fun z h=>⟨h.1,hk _ h.2⟩) e
 ·cases e
def isMapT (ti:Types) (t:TypeId):Bool:=
 match ti t with
 | some q=>(match q.desc with
  | .map _ _=>true
  | _=>false)
 | none=>false
def evIface (ti:Types) (t:TypeId) (x:AV) (k:Out→Option γ):Option γ:=
 evT ti t fun i=>evR (notIface i.desc)<| (match x with
 | .v (.d d)=>(match valOf d with
  | some u=>k ⟨.v (.c (.kv (.iface t u))),[],[]⟩
  | none=>none)
 | _=>none)
theorem evIface_ok {ti:Types}{t:TypeId}{x:AV}{k:Out→Option γ}{P:Out→Prop}(hk:∀o,k o=some r→P o) (e:evIface ti t x k=some r):outIface ti t x P:=by
 unfold evIface at e
 unfold outIface
 refine evT_ok (fun q e=>evR_ok (fun e=>?_) e) e
 split at e
 ·split at e
  ·rename_i hu;simp only[hu];exact hk _ e
  ·cases e
 ·cases e
def evAssert (ti:Types) (a:TypeId) (ok:Bool) (x:AV) (k:Out→Option γ):Option γ:=
 evT ti a fun j=>evR (notIface j.desc)<| evR ok<| evR (zeroOK j)<| match x with
 | .v (.c (.kv v))=>(match v with
  | .iface t u=>(match Nat.beq t a with
   | true=>(match dOf u with
    | some d=>k ⟨.t [.d d,.d (.bool true)],[],[]⟩
    | none=>none)
   | false=>k ⟨.t [V1.ofCells (rowD j.desc) j.zc,.d (.bool false)],[],[]⟩)
  | .nilIface=>k ⟨.t [V1.ofCells (rowD j.desc) j.zc,.d (.bool false)],[],[]⟩
  | _=>none)
 | _=>none
theorem evAssert_ok {ti:Types}{a:TypeId}{ok:Bool}{x:AV}{k:Out→Option γ}{P:Out→Prop}(hk:∀o,k o=some r→P o) (e:evAssert ti a ok x k=some r):outAssert ti a ok x P:=by
 unfold evAssert at e
 unfold outAssert
 refine evT_ok (fun q e=>evR_ok (fun e=>evR_ok (fun e=>evR_ok (fun e=>?_) e) e) e) e
 split at e
 ·split at e
  ·split at e
   ·rename_i hb
    simp only[hb]
    split at e
    ·rename_i hu;simp only[hu];exact hk _ e
    ·cases e
   ·rename_i hb
    simp only[hb]
    exact hk _ e
  ·exact hk _ e
  ·cases e
 ·cases e
def evOpP (E:EnvO γ) (ti:Types) (o:Oper) (fresh:Nat) (s:Slots) (h:Heap) (pl:Pl) (k:Pl→Out→Option γ):Option γ:=
 match o.op with
 | .load t x=>(match isT (opd ti s 0 x)with
  | true=>(match isFl (opd ti s 0 x) h with
   | true=>evLoadFl E.ds E.el ti t (opd ti s 0 x) h (k pl)
   | false=>evR (notB (isFnL (opd ti s 0 x) h))<| evWithCl h (clOf (opd ti s 0 x) h pl).1 (fun h' k'=>evLoadT E.ds E.el ti t (opd ti s 0 x) fresh h' pl (fun _=>k')) (k (clOf (opd ti s 0 x) h pl).2))
  | false=>evR (notB (isArr (opd ti s 0 x) h))<| evLoad ti t (opd ti s 0 x) h (k pl))
 | .store t x y=>(match isT (opd ti s 0 x)with
  | true=>(match isFl (opd ti s 0 x) h with
   | true=>evStoreFl E.ds E.el ti t (opd ti s 0 x) (opd ti s t y) h (k pl)
   | false=>evWithCl h (clOf (opd ti s 0 x) h pl).1 (fun h' k'=>evStoreT E.ds E.el ti t (opd ti s 0 x) (opd ti s t y) fresh h' pl (fun _=>k')) (k (clOf (opd ti s 0 x) h pl).2))
  | false=>evR (notB (isArr (opd ti s 0 x) h))<| evStore ti t (opd ti s 0 x) (opd ti s t y) h (k pl))
 | .fieldAddr t x f=>(match isT (opd ti s 0 x)with
  | true=>(match isFl (opd ti s 0 x) h with
   | true=>evFieldFl ti t (opd ti s 0 x) f h (k pl)
   | false=>evFieldT ti t (opd ti s 0 x) f h (k pl))
  | false=>evField ti t (opd ti s 0 x) f (k pl))
 | .indexAddr t x i=>(match isT (opd ti s t x)with
  | true=>(match isFl (opd ti s t x) h with
   | true=>evIndexFl ti t (opd ti s t x) (opd ti s 3 i) h (k pl)
   | false=>evR (notB (isFnL (opd ti s t x) h))<| evIndexT ti t (opd ti s t x) (opd ti s 3 i) h (k pl))
  | false=>evIndex E.ds ti t (opd ti s t x) (opd ti s 3 i) (k pl))
 | .nilCheck x=>evR (notB (isT (opd ti s 0 x)))<| (match opd ti s 0 x with
  | .v (.c (.ptr i q))=>k pl ⟨.v (.c (.ptr i q)),[],[]⟩
  | _=>none)
 | .buildSlice t len parts=>evR (notB (anyFz ti s parts.toList))<| (match allData ti s (elemT ti t) parts.toList with
  | true=>(match (E.own&&notB E.nolit)&&notB (anyFz2 ti s (elemT ti t) parts.toList)with
   | true=>evBuildSliceT ti s t len parts.toList fresh h (k pl)
   | false=>evBuildSlice ti s t len parts.toList (k pl))
  | false=>evBuildSliceC ti s t len parts.toList fresh (k pl))
 | .slice t x lo hi mx=>evR (notB (isT (opd ti s t x)))<| evSlice ti s t (opd ti s t x) lo hi mx (k pl)
 | .makeSlice t x y=>evMake E.own ti t (opd ti s 3 x) (opd ti s 3 y) fresh (k pl)
 | .lookup t x y ok=>(match isT (opd ti s t x)with
  | true=>evR (notB (isPm (opd ti s t x) h))<| evLookupM E.ds ti t (opd ti s t x) (opd ti s 0 y) ok h pl k
  | false=>evR (notB (isCm (opd ti s t x)))<| evLookN ti t (opd ti s t x) ok (k pl))
 | .mapUpdate t x y z=>evR (notB (isPm (opd ti s t x) h))<| evUpdateM ti t (opd ti s t x) (opd ti s 0 y) (opd ti s 0 z) h (k pl)
 | .insert t x y z=>evUpdateM ti t (opd ti s t x) (opd ti s 0 y) (opd ti s 0 z) h (k pl)
 | .makeMap t rm=>(match rm with
  | none=>(match ptrMap ti t with
   | true=>evT ti t fun q=>(match q.desc with
    | .map _ _=>k pl ⟨.v (.c (.ow (.loc fresh))),[],[(.loc fresh,.pmap 0 1 0 [] none)]⟩
    | _=>none)
   | false=>(match structMap ti t with
    | true=>evT ti t fun q=>(match q.desc with
     | .map kt et=>k pl ⟨.v (.c (.map (.loc fresh))),[],[(.loc fresh,.map kt et [])]⟩
     | _=>none)
    | false=>evMakeMap ti t fresh (k pl)))
  | some _=>none)
 | .binOp op t x y _=>(match isAggA (opd ti s t x)with
  | true=>evEqS E.sok ti op t (opd ti s t x) (opd ti s t y) pl k
  | false=>(match isT (opd ti s t x)with
   | true=>evR (notB (isPm (opd ti s t x) h))<| evNilM ti op t (opd ti s t x) (opd ti s t y) h (k pl)
   | false=>evBinP ti op t (opd ti s t x) (opd ti s t y) pl k))
 | .convert a b x=>(match isIntA (opd ti s a x)with
  | true=>evConvert ti a b (opd ti s a x) (k pl)
  | false=>evBytes ti a b (opd ti s a x) (k pl))
 | .pick c a b=>evB (opd ti s 0 c) fun q=>if q=true then k (pl.at true) ⟨opd ti s o.type a,[],[]⟩else k (pl.at false) ⟨opd ti s o.type b,[],[]⟩
 | .index t x i=>evIdx E.ds ti t (opd ti s t x) (opd ti s 3 i) (k pl)
 | .move x=>k pl ⟨opd ti s o.type x,[],[]⟩
 | .assign x=>k pl ⟨opd ti s o.type x,[],[]⟩
 | .alloc t=>evT ti t fun i=>k pl ⟨ptrTo fresh,[],[(.loc fresh,.cells i.zc)]⟩
 | .box t x=>(match opd ti s t x with
  | .v y=>k pl ⟨ptrTo fresh,[],[(.loc fresh,.cells y.cells)]⟩
  | _=>none)
 | .unOp op _ x=>evUn op (opd ti s o.type x) (k pl)
 | .makeFunc fn first captured=>(match fn,first.toList with
  | .func f,[]=>(match caps (captured.toList.map (opd ti s 0))with
   | some l=>k pl ⟨.v (.c (.fn f l)),[],[]⟩
   | none=>none)
  | .func f,[x]=>(match captured.toList,opd ti s 0 x with
   | [],.v (.c (.ptr i 0))=>k pl ⟨.v (.c (.bm f i)),[],[]⟩
   | _,_=>none)
  | _,_=>none)
 | .build t parts=>evBuild ti s t parts.toList (k pl)
 | .field t x f=>evFieldV ti t (opd ti s t x) f (k pl)
 | .extract x i=>evExtract (opd ti s 0 x) i (k pl)
 | .makeInterface t x=>evIface ti t (opd ti s t x) (k pl)
 | .typeAssert x _ a ok=>evAssert ti a ok (opd ti s 0 x) (k pl)
 | .call c=>(match c.callee with
  | .builtin .len=>(match c.args.toList,c.argTypes.toList with
   | [x],[t]=>(match isT (opd ti s t x)with
    | true=>(match isFl (opd ti s t x) h with
     | true=>evLenFl ti t (opd ti s t x) h (k pl)
     | false=>evR (notB (isFnL (opd ti s t x) h))<| (match isMapT ti t with
      | true=>evLenM ti t (opd ti s t x) h (k pl)
      | false=>evLenT ti t (opd ti s t x) h (k pl)))
    | false=>evLen ti t (opd ti s t x) (k pl))
   | _,_=>none)
  | .builtin .append=>(match c.args.toList,c.argTypes.toList with
   | [x,y],[t,t']=>evR (notB (isFnL (opd ti s t' y) h))<| evR (Nat.beq t t')<| (match (match E.frz&&isNilA (opd ti s t x)with
     | true=>none
     | false=>appKind E.own ti t (opd ti s t x) (opd ti s t y) h)with
    | some true=>evWithCl h (opensA h (opd ti s t x)++opensA h (opd ti s t y)) (fun h' k'=>evAppendT ti t (opd ti s t x) (opd ti s t y) fresh h' k') (k pl)
    | some false=>evAppendF ti t (opd ti s t x) (opd ti s t y) fresh h (k pl)
    | none=>evR (notB (isStrA (opd ti s t' y)))<| evAppend0 ti t (opd ti s t x) (opd ti s t y) (k pl))
   | _,_=>none)
  | .builtin .min=>(match c.args.toList,c.argTypes.toList with
   | [x,y],[t,t']=>evMM true (opd ti s t x) (opd ti s t' y) (k pl)
   | _,_=>none)
  | .builtin .max=>(match c.args.toList,c.argTypes.toList with
   | [x,y],[t,t']=>evMM false (opd ti s t x) (opd ti s t' y) (k pl)
   | _,_=>none)
  | _=>none)
 | _=>none
theorem evOpP_ok {M:Mach}{E:EnvO γ}{ti:Types}(hE:E.ok M.P M.I ti) {o:Oper}{fresh:Nat}{s:Slots}{h:Heap}{pl:Pl}{k:Pl→Out→Option γ}{P:Out→Prop}(hk:∀p o,k p o=some r→P o) (e:evOpP E ti o fresh s h pl k=some r):opOut M ti o fresh s h P:=by
 have dsok:=hE.ds
 unfold evOpP at e
 unfold opOut
 split at e<;>rename_i ho<;>first | (cases e;done) | simp only[ho]
 ·split at e
  ·rename_i h1
   split at e
   ·rename_i h2;simp only[h1,h2];exact evLoadFl_ok dsok (hk _) e
   ·rename_i h2
    obtain⟨h3,e⟩:=evR_some e
    simp only[h1,h2,notB_t h3]
    exact evWithCl_ok (F:=fun h'=>loadT ti _ _ fresh h') (hk _) (fun h' k' P' hk' e=>evLoadT_ok dsok (fun _=>hk') e) e
  ·rename_i h1
   obtain⟨h3,e⟩:=evR_some e
   simp only[h1,notB_t h3]
   show opOut0 M ti o fresh s h _
   unfold opOut0
   simp only[ho]
   exact evLoad_ok (hk _) e
 ·split at e
  ·rename_i h1
   split at e
   ·rename_i h2;simp only[h1,h2];exact evStoreFl_ok dsok (hk _) e
   ·rename_i h2
    simp only[h1,h2]
    exact evWithCl_ok (F:=fun h'=>storeT ti _ _ _ fresh h') (hk _) (fun h' k' P' hk' e=>evStoreT_ok dsok (fun _=>hk') e) e
  ·rename_i h1
   obtain⟨h3,e⟩:=evR_some e
   simp only[h1,notB_t h3]
   show opOut0 M ti o fresh s h _
   unfold opOut0
   simp only[ho]
   exact evStore_ok (hk _) e
 ·split at e
  ·rename_i h1
   split at e
   ·rename_i h2;simp only[h1,h2];exact evFieldFl_ok (hk _) e
   ·rename_i h2;simp only[h1,h2];exact evFieldT_ok (hk _) e
  ·rename_i h1
   simp only[h1]
   show opOut0 M ti o fresh s h _
   unfold opOut0
   simp only[ho]
   exact evField_ok (hk _) e
 ·split at e
  ·rename_i h1
   split at e
   ·rename_i h2;simp only[h1,h2];exact evIndexFl_ok (hk _) e
   ·rename_i h2
    obtain⟨h3,e⟩:=evR_some e
    simp only[h1,h2,notB_t h3]
    exact evIndexT_ok (hk _) e
  ·rename_i h1
   simp only[h1]
   show opOut0 M ti o fresh s h _
   unfold opOut0
   simp only[ho]
   exact evIndex_ok dsok (hk _) e
 ·obtain⟨h3,e⟩:=evR_some e
  simp only[notB_t h3]
  show opOut0 M ti o fresh s h _
  unfold opOut0
  simp only[ho]
  split at e
  ·rename_i h1;simp only[h1];exact hk _ _ e
  ·cases e
 ·obtain⟨h3,e⟩:=evR_some e
  simp only[notB_t h3]
  split at e
  ·split at e
   ·refine⟨true,[],?_⟩
    show buildSliceT _ _ _ _ _ _ _ _
    exact evBuildSliceT_ok (fun o e=>by simpa using hk _ _ e) e
   ·refine⟨false,?_⟩
    show opOut0 M ti o fresh s h _
    unfold opOut0
    simp only[ho]
    exact⟨true,evBuildSlice_ok (hk _) e⟩
  ·refine⟨false,?_⟩
   show opOut0 M ti o fresh s h _
   unfold opOut0
   simp only[ho]
   exact⟨false,evBuildSliceC_ok (hk _) e⟩
 ·obtain⟨h3,e⟩:=evR_some e
  simp only[notB_t h3]
  show opOut0 M ti o fresh s h _
  unfold opOut0
  simp only[ho]
  exact evSlice_ok (hk _) e
 ·exact evMake_ok (hk _) e
 ·split at e
  ·rename_i h1
   obtain⟨h3,e⟩:=evR_some e
   simp only[h1,notB_t h3]
   exact evLookupM_ok dsok hk e
  ·rename_i h1
   obtain⟨h3,e⟩:=evR_some e
   simp only[h1,notB_t h3]
   show opOut0 M ti o fresh s h _
   unfold opOut0
   simp only[ho]
   exact evLookN_ok (hk _) e
 ·obtain⟨h3,e⟩:=evR_some e
  simp only[notB_t h3]
  exact evUpdateM_ok (hk _) e
 ·exact evUpdateM_ok (hk _) e
 ·split at e
  ·split at e
   ·rename_i h3
    simp only[h3]
    unfold outMakeMapP
    refine evT_ok (fun q e=>?_) e
    split at e
    ·rename_i hq;simp only[hq];exact⟨0,1,0,hk _ _ e⟩
    ·cases e
   ·rename_i h3
    split at e
    ·rename_i h4
     simp only[h3,h4]
     unfold outMakeMapC
     refine evT_ok (fun q e=>?_) e
     split at e
     ·rename_i hq;simp only[hq];exact hk _ _ e
     ·cases e
    ·rename_i h4
     simp only[h3,h4]
     exact evMakeMap_ok (hk _) e
  ·cases e
 ·split at e
  ·rename_i h1;simp only[h1];exact evEqS_ok hE.sok hk e
  ·rename_i h1
   split at e
   ·rename_i h2
    obtain⟨h3,e⟩:=evR_some e
    simp only[h1,h2,notB_t h3]
    exact evNilM_ok (hk _) e
   ·rename_i h2
    simp only[h1,h2]
    show opOut0 M ti o fresh s h _
    unfold opOut0
    simp only[ho]
    exact evBinP_ok hk e
 ·split at e
  ·rename_i h1
   simp only[h1]
   show opOut0 M ti o fresh s h _
   unfold opOut0
   simp only[ho]
   exact evConvert_ok (hk _) e
  ·rename_i h1;simp only[h1];exact evBytes_ok (hk _) e
 ·show opOut0 M ti o fresh s h _
  unfold opOut0
  simp only[ho]
  refine evB_ok (fun q e=>?_) e
  cases q with
  | true=>rw[if_pos rfl]at e;exact hk _ _ e
  | false=>rw[if_neg Bool.false_ne_true]at e;exact hk _ _ e
 ·show opOut0 M ti o fresh s h _
  unfold opOut0
  simp only[ho]
  exact evIdx_ok dsok (hk _) e
 ·show opOut0 M ti o fresh s h _
  unfold opOut0
  simp only[ho]
  exact hk _ _ e
 ·show opOut0 M ti o fresh s h _
  unfold opOut0
  simp only[ho]
  exact hk _ _ e
 ·show opOut0 M ti o fresh s h _
  unfold opOut0
  simp only[ho]
  exact evT_ok (fun _ e=>hk _ _ e) e
 ·show opOut0 M ti o fresh s h _
  unfold opOut0
  simp only[ho]
  split at e
  ·rename_i hy;simp only[hy,withV];exact hk _ _ e
  ·cases e
 ·show opOut0 M ti o fresh s h _
  unfold opOut0
  simp only[ho]
  exact evUn_ok (hk _) e
 ·show opOut0 M ti o fresh s h _
  unfold opOut0
  simp only[ho]
  split at e
  ·rename_i hf
   simp only[hf]
   split at e
   ·rename_i h3;simp only[h3];exact hk _ _ e
   ·cases e
  ·rename_i hf
   simp only[hf]
   split at e
   ·rename_i h3 h4;simp only[h3,h4];exact hk _ _ e
   ·cases e
  ·cases e
 ·show opOut0 M ti o fresh s h _
  unfold opOut0
  simp only[ho]
  exact evBuild_ok (hk _) e
 ·show opOut0 M ti o fresh s h _
  unfold opOut0
  simp only[ho]
  exact evFieldV_ok (hk _) e
 ·show opOut0 M ti o fresh s h _
  unfold opOut0
  simp only[ho]
  exact evExtract_ok (hk _) e
 ·show opOut0 M ti o fresh s h _
  unfold opOut0
  simp only[ho]
  exact evIface_ok (hk _) e
 ·show opOut0 M ti o fresh s h _
  unfold opOut0
  simp only[ho]
  exact evAssert_ok (hk _) e
 ·split at e
  ·rename_i hcal
   simp only[hcal]
   split at e
   ·rename_i h1 h2
    simp only[h1,h2]
    split at e
    ·rename_i h3
     split at e
     ·rename_i h4;simp only[h3,h4];exact evLenFl_ok (hk _) e
     ·rename_i h4
      obtain⟨h5,e⟩:=evR_some e
      simp only[h3,h4,notB_t h5]
      split at e
      ·exact⟨true,evLenM_ok (hk _) e⟩
      ·exact⟨false,evLenT_ok (hk _) e⟩
    ·rename_i h3
     simp only[h3]
     show opOut0 M ti o fresh s h _
     unfold opOut0
     simp only[ho,hcal,h1,h2]
     exact evLen_ok (hk _) e
   ·cases e
  ·rename_i hcal
   simp only[hcal]
   split at e
   ·rename_i h1 h2
    simp only[h1,h2]
    obtain⟨h3,e⟩:=evR_some e
    obtain⟨h4,e⟩:=evR_some e
    simp only[notB_t h3]
    split at e
    ·refine⟨true,req_iff.2 ⟨h4,?_⟩⟩
     exact⟨true,evWithCl_ok (F:=fun h'=>appendT M ti _ _ _ fresh h') (hk _) (fun h' k' P' hk' e=>evAppendT_ok hk' e) e⟩
    ·refine⟨true,req_iff.2 ⟨h4,?_⟩⟩
     exact⟨false,evAppendF_ok (hk _) e⟩
    ·obtain⟨h5,e⟩:=evR_some e
     refine⟨false,?_⟩
     simp only[notB_t h5]
     show opOut0 M ti o fresh s h _
     unfold opOut0
     simp only[ho,hcal,h1,h2]
     exact req_iff.2 ⟨h4,evAppend0_ok (hk _) e⟩
   ·cases e
  ·rename_i hcal
   simp only[hcal]
   split at e
   ·rename_i h1 h2;simp only[h1,h2];exact evMM_ok (hk _) e
   ·cases e
  ·rename_i hcal
   simp only[hcal]
   split at e
   ·rename_i h1 h2;simp only[h1,h2];exact evMM_ok (hk _) e
   ·cases e
  ·cases e
end
end Go.AM
namespace Go.AM
open Go Go.RowKit
section
variable {γ:Type}{r:γ}
def evOps (ds:Ds γ) (call:Cl γ) (ti:Types) (nt:Nat) (ops:Array Oper) (base:Nat):List Oper→Nat→St→(St→Option γ)→Option γ
 | [],i,σ,K=>K ⟨σ.slots,σ.heap,base+32*i⟩
 | o::l,i,σ,K=>evGuard ops o σ (fun σ=>evStep ds call ti nt o (base+32*i) σ fun σ2=>evOps ds call ti nt ops base l (i+1) σ2 K)
   (fun σ=>evR (dstB nt o.dst) (evOps ds call ti nt ops base l (i+1) ⟨putS σ.slots o.dst (.t []),σ.heap,σ.next⟩ K))
theorem evOps_ok {M:Mach}{ds:Ds γ}(hd:ds.ok) {call:Cl γ}(hc:call.ok M.P M.I) {ti:Types}{nt:Nat}{ops:Array Oper}{base:Nat}{K:St→Option γ}{P:St→Prop}(hK:∀σ,K σ=some r→P σ):
  ∀(l:List Oper) (i:Nat) (σ:St),evOps ds call ti nt ops base l i σ K=some r→execOps M ti nt ops base l i σ P
 | [],_,_,e=>hK _ e
 | o::l,i,σ,e=>by
  unfold evOps at e
  unfold execOps
  exact evGuard_ok (P1:=fun σ1=>match dfCall o with
    | some x=>deferP M ti x (base+32*i) σ1 fun σ2=>execOps M ti nt ops base l (i+1) σ2 P
    | none=>stepOp M ti nt o (base+32*i) σ1 fun σ2=>execOps M ti nt ops base l (i+1) σ2 P) (P0:=fun σ1=>dstOK nt o.dst (execOps M ti nt ops base l (i+1) ⟨putS σ1.slots o.dst (.t []),σ1.heap,σ1.next⟩ P))
   (fun e=>by
    have h0:=e
    unfold evStep at h0
    simp only[dfCall_none (evR_some h0).1]
    exact evStep_ok hd hc (fun σ2 e=>evOps_ok hd hc hK l (i+1) σ2 e) e) (fun e=>by
    obtain⟨h1,e⟩:=evR_some e
    exact dstB_ok h1 (evOps_ok hd hc hK l (i+1) _ e)) e
def evDraw (ds:Ds γ) (call:Cl γ) (ti:Types) (nt:Nat) (ops:Array Oper) (base:Nat):List Oper→Nat→St→List Fp→(St→List Fp→Option γ)→Option γ
 | [],i,σ,fps,K=>K ⟨σ.slots,σ.heap,base+32*i⟩ fps
 | o::l,i,σ,fps,K=>evGuard ops o σ (fun σ=>evR (storeB o)<| evR (dstB nt o.dst)<| evOp ds call ti o (base+32*i) (getS σ.slots) (getH σ.heap) fun out=>
    evDraw ds call ti nt ops base l (i+1) ⟨putS σ.slots o.dst out.val,setW σ.heap out.wr,σ.next⟩ (fps++[(out.rd,out.wr.map (·.1))]) K)
   (fun σ=>evR (dstB nt o.dst) (evDraw ds call ti nt ops base l (i+1) ⟨putS σ.slots o.dst (.t []),σ.heap,σ.next⟩ (fps++[([],[])]) K))
theorem evDraw_ok {M:Mach}{ds:Ds γ}(hd:ds.ok) {call:Cl γ}(hc:call.ok M.P M.I) {ti:Types}{nt:Nat}{ops:Array Oper}{base:Nat}{K:St→List Fp→Option γ}{P:St→List Fp→Prop}(hK:∀σ fps,K σ fps=some r→P σ fps):
  ∀(l:List Oper) (i:Nat) (σ:St) (fps:List Fp),evDraw ds call ti nt ops base l i σ fps K=some r→drawOps M ti nt ops base l i σ fps P
 | [],_,_,_,e=>hK _ _ e
 | o::l,i,σ,fps,e=>by
  unfold evDraw at e
  unfold drawOps
  refine evGuard_ok (P1:=fun σ1=>storeOK o<| dstOK nt o.dst<| opOut M ti o (base+32*i) (getS σ1.slots) (getH σ1.heap) fun out=>drawOps M ti nt ops base l (i+1) ⟨putS σ1.slots o.dst out.val,setW σ1.heap out.wr,σ1.next⟩ (fps++[(out.rd,out.wr.map (·.1))]) P)
   (P0:=fun σ1=>dstOK nt o.dst (drawOps M ti nt ops base l (i+1) ⟨putS σ1.slots o.dst (.t []),σ1.heap,σ1.next⟩ (fps++[([],[])]) P)) (fun e=>?_) (fun e=>?_) e
  ·obtain⟨h1,e⟩:=evR_some e
   obtain⟨h2,e⟩:=evR_some e
   exact storeB_ok h1 (dstB_ok h2 (evOp_ok hd hc (fun out e=>evDraw_ok hd hc hK l (i+1) _ _ e) e))
  ·obtain⟨h1,e⟩:=evR_some e
   exact dstB_ok h1 (evDraw_ok hd hc hK l (i+1) _ _ e)
abbrev Kt (γ:Type):=AExit→St→Option γ
abbrev Rs (γ:Type):=Nat→St→Option (Option γ)
def evSeqK (res:Rs γ) (q:Nat) (eb:St→Kt γ→Option γ) (K:Kt γ):Kt γ
 | .normal,σ=>(match res q σ with
  | some x=>x
  | none=>eb σ K)
 | .exit id,σ=>K (.exit id) σ
 | .ret,σ=>K .ret σ
def evBlkK (id:Nat) (K:Kt γ):Kt γ
 | .normal,σ=>K .normal σ
 | .exit id',σ=>(match Nat.beq id' id with
  | true=>K .normal σ
  | false=>K (.exit id') σ)
 | .ret,σ=>K .ret σ
def evRest (res:Rs γ) (p:Nat) (σ:St):Option γ:=
 match res p σ with
 | some x=>x
 | none=>none
def evLoopK (res:Rs γ) (p:Nat) (K:Kt γ):Kt γ
 | .normal,σ=>evRest res p σ
 | .exit id,σ=>K (.exit id) σ
 | .ret,σ=>K .ret σ
structure Env (γ:Type) where
 ds:Ds γ
 call:Cl γ
 res:Rs γ
def told (σ:St) (c:Operand) (q:Bool):St:=
 match c with
 | .tmp t=>⟨repS σ.slots t (.v (.d (.bool q))),σ.heap,σ.next⟩
 | _=>σ
theorem told_id {σ:St}{ti:Types}{c:Operand}{q:Bool}(h:opd ti (getS σ.slots) 0 c= .v (.d (.bool q))):told σ c q=σ:=by
 unfold told
 split
 ·rw[repS_id h]
 ·rfl
def evCode (E:Env γ) (ti:Types) (nt:Nat):Code→Nat→St→Kt γ→Option γ
 | .skip,_,σ,K=>K .normal σ
 | .region _ ops draw,_,σ,K=>(match draw with
  | false=>evOps E.ds E.call ti nt ops σ.next ops.toList 0 σ fun σ'=>K .normal σ'
  | true=>evDraw E.ds E.call ti nt ops σ.next ops.toList 0 σ [] fun σ' fps=>evR (drawB ops fps) (K .normal σ'))
 | .seq a b,p,σ,K=>evCode E ti nt a (2*p) σ (evSeqK E.res (2*p+1) (fun σ K=>evCode E ti nt b (2*p+1) σ K) K)
 | .cond c a b,p,σ,K=>evB (opd ti (getS σ.slots) 0 c) fun q=>if q=true then evCode E ti nt a (2*p) (told σ c true) K else evCode E ti nt b (2*p+1) (told σ c false) K
 | .block id c,p,σ,K=>evCode E ti nt c (2*p) σ (evBlkK id K)
 | .loop _,p,σ,_=>evRest E.res p σ
 | .exit id,_,σ,K=>K (.exit id) σ
 | .ret,_,σ,K=>K .ret σ
 | _,_,_,_=>none
def evAt (E:Env γ) (ti:Types) (nt:Nat) (c:Code) (p:Nat) (σ:St) (K:Kt γ):Option γ:=
 match c with
 | .loop b=>evCode E ti nt b (2*p) σ (evLoopK E.res p K)
 | c=>evCode E ti nt c p σ K
def evDown (E:Env γ) (ti:Types) (nt:Nat):Code→Nat→Kt γ→Bool→Option (Code×Nat×Kt γ)
 | .seq a b,p,K,d=>(match d with
  | false=>some (a,2*p,evSeqK E.res (2*p+1) (fun σ K=>evCode E ti nt b (2*p+1) σ K) K)
  | true=>some (b,2*p+1,K))
 | .cond _ a b,p,K,d=>(match d with
  | false=>some (a,2*p,K)
  | true=>some (b,2*p+1,K))
 | .block id c,p,K,d=>(match d with
  | false=>some (c,2*p,evBlkK id K)
  | true=>none)
 | .loop c,p,K,d=>(match d with
  | false=>some (c,2*p,evLoopK E.res p K)
  | true=>none)
 | _,_,_,_=>none
def evReach (E:Env γ) (ti:Types) (nt:Nat) (body:Code) (K:Kt γ):List Bool→Option (Code×Nat×Kt γ)
 | []=>some (body,1,K)
 | b::t=>(match evReach E ti nt body K t with
  | some x=>evDown E ti nt x.1 x.2.1 x.2.2 b
  | none=>none)
def pathN:List Bool→Nat
 | []=>1
 | b::t=>(match b with
  | true=>2*pathN t+1
  | false=>2*pathN t)
theorem pathN_pos:∀t:List Bool,1≤pathN t
 | []=>Nat.le_refl _
 | b::t=>by have:=pathN_pos t;cases b<;>simp only[pathN]<;>omega
theorem pathN_inj:∀{s t:List Bool},pathN s=pathN t→s=t
 | [],[],_=>rfl
 | [],b::t,h=>by have:=pathN_pos t;cases b<;>simp only[pathN]at h<;>omega
 | b::s,[],h=>by have:=pathN_pos s;cases b<;>simp only[pathN]at h<;>omega
 | a::s,b::t,h=>by
  cases a<;>cases b<;>simp only[pathN]at h
  ·rw[pathN_inj (s:=s) (t:=t) (by omega)]
  ·omega
  ·omega
  ·rw[pathN_inj (s:=s) (t:=t) (by omega)]
def evFrom (E:Env γ) (ti:Types) (nt:Nat) (body:Code) (K:Kt γ) (way:List Bool) (σ:St):Option γ:=
 match evReach E ti nt body K way with
 | some x=>evAt E ti nt x.1 x.2.1 σ x.2.2
 | none=>none
def wayOf:Nat→Nat→List Bool
 | 0,_=>[]
 | f+1,p=>match Nat.ble p 1 with
  | true=>[]
  | false=>Nat.beq (p % 2) 1::wayOf f (p / 2)
variable {M:Mach}{ti:Types}{nt:Nat}{E:Nat→Env γ}{body:Code}{Kf:Kt γ}
def Rests (E:Nat→Env γ) (ti:Types) (nt:Nat) (body:Code) (Kf:Kt γ) (r:γ) (n:Nat):Prop:=
 ∀p σ,evRest (E n).res p σ=some r→∃m σ' way,m<n∧Weak σ σ'∧pathN way=p∧evFrom (E m) ti nt body Kf way σ'=some r
theorem code_ok {N:Nat}(hd:∀m,m≤N→(E m).ds.ok) (hc:∀m,m≤N→(E m).call.ok M.P M.I) (hr:∀m,m≤N→Rests E ti nt body Kf r m):
  ∀(c:Code) (way:List Bool) (n:Nat) (Ko:Nat→Kt γ) (KP:AExit→St→Prop),n≤N→(∀m,m≤n→evReach (E m) ti nt body Kf way=some (c,pathN way,Ko m))→(∀m e σ,m≤n→Ko m e σ=some r→KP e σ)→
   (∀σ,evCode (E n) ti nt c (pathN way) σ (Ko n)=some r→exec M ti nt (execDraw ti M nt) c σ KP)∧(∀σ,evAt (E n) ti nt c (pathN way) σ (Ko n)=some r→exec M ti nt (execDraw ti M nt) c σ KP)
 | .skip,way,n,Ko,KP,hn,h1,h2=>⟨fun σ e=>h2 n _ _ (Nat.le_refl _) e,fun σ e=>h2 n _ _ (Nat.le_refl _) e⟩
 | .exit id,way,n,Ko,KP,hn,h1,h2=>⟨fun σ e=>h2 n _ _ (Nat.le_refl _) e,fun σ e=>h2 n _ _ (Nat.le_refl _) e⟩
 | .ret,way,n,Ko,KP,hn,h1,h2=>⟨fun σ e=>h2 n _ _ (Nat.le_refl _) e,fun σ e=>h2 n _ _ (Nat.le_refl _) e⟩
 | .region id ops draw,way,n,Ko,KP,hn,h1,h2=>by
  have main:∀σ,evCode (E n) ti nt (.region id ops draw) (pathN way) σ (Ko n)=some r→exec M ti nt (execDraw ti M nt) (.region id ops draw) σ KP:=by
   intro σ e
   cases draw with
   | false=>exact evOps_ok (hd n hn) (hc n hn) (fun σ' e=>h2 n _ _ (Nat.le_refl _) e) _ _ _ e
   | true=>
    refine evDraw_ok (hd n hn) (hc n hn) (fun σ' fps e=>?_) _ _ _ _ e
    obtain⟨g1,e⟩:=evR_some e
    exact⟨(M.lock_iff _).2 g1,h2 n _ _ (Nat.le_refl _) e⟩
  exact⟨main,main⟩
 | .cond c a b,way,n,Ko,KP,hn,h1,h2=>by
  have main:∀σ,evCode (E n) ti nt (.cond c a b) (pathN way) σ (Ko n)=some r→exec M ti nt (execDraw ti M nt) (.cond c a b) σ KP:=by
   intro σ e
   have e':evB (opd ti (getS σ.slots) 0 c) (fun q=>if q=true then evCode (E n) ti nt a (2*pathN way) (told σ c true) (Ko n)else evCode (E n) ti nt b (2*pathN way+1) (told σ c false) (Ko n))=some r:=e
   show withB (opd ti (getS σ.slots) 0 c) _
   generalize ho:opd ti (getS σ.slots) 0 c=x at e'
   unfold evB at e'
   split at e'
   rotate_left
   ·cases e'
   rename_i q
   have e:(if q=true then evCode (E n) ti nt a (2*pathN way) (told σ c true) (Ko n)else evCode (E n) ti nt b (2*pathN way+1) (told σ c false) (Ko n))=some r:=e'
   cases q with
   | true=>
    rw[if_pos rfl,told_id ho]at e
    exact (code_ok hd hc hr a (false::way) n Ko KP hn (fun m hm=>by show (match evReach (E m) ti nt body Kf way with | some x=>_ | none=>_)=_;rw[h1 m hm];rfl) h2).1 σ e
   | false=>
    rw[if_neg Bool.false_ne_true,told_id ho]at e
    exact (code_ok hd hc hr b (true::way) n Ko KP hn (fun m hm=>by show (match evReach (E m) ti nt body Kf way with | some x=>_ | none=>_)=_;rw[h1 m hm];rfl) h2).1 σ e
  exact⟨main,main⟩
 | .block id c,way,n,Ko,KP,hn,h1,h2=>by
  have main:∀σ,evCode (E n) ti nt (.block id c) (pathN way) σ (Ko n)=some r→exec M ti nt (execDraw ti M nt) (.block id c) σ KP:=by
   intro σ e
   refine (code_ok hd hc hr c (false::way) n (fun m=>evBlkK id (Ko m)) _ hn (fun m hm=>by show (match evReach (E m) ti nt body Kf way with | some x=>_ | none=>_)=_;rw[h1 m hm];rfl) (fun m e σ hm he=>?_)).1 σ e
   cases e with
   | normal=>exact h2 m _ _ hm he
   | ret=>exact h2 m _ _ hm he
   | exit id'=>
    simp only[evBlkK]at he
    simp only[]
    split at he
    ·rename_i hb;simp only[hb];exact h2 m _ _ hm he
    ·rename_i hb;simp only[hb];exact h2 m _ _ hm he
  exact⟨main,main⟩
 | .loop c,way,n,Ko,KP,hn,h1,h2=>by
  have at':∀k,k≤n→∀σ σ1,Weak σ σ1→evAt (E k) ti nt (.loop c) (pathN way) σ1 (Ko k)=some r→exec M ti nt (execDraw ti M nt) (.loop c) σ KP:=by
   intro k hk σ σ1 hw e
   refine (M.lock_iff _).2 (.inl ⟨fun j σ=>j≤n∧evCode (E j) ti nt c (2*pathN way) σ (evLoopK (E j).res (pathN way) (Ko j))=some r,k,⟨σ1,hw,hk,e⟩,?_⟩)
   rintro j σ2 ⟨hj,e2⟩
   refine (code_ok hd hc hr c (false::way) j (fun m=>evLoopK (E m).res (pathN way) (Ko m)) _ (Nat.le_trans hj hn) (fun m hm=>by show (match evReach (E m) ti nt body Kf way with | some x=>_ | none=>_)=_;rw[h1 m (Nat.le_trans hm hj)];rfl) (fun m e σ hm he=>?_)).1 σ2 e2
   cases e with
   | exit id=>exact h2 m _ _ (Nat.le_trans hm hj) he
   | ret=>exact h2 m _ _ (Nat.le_trans hm hj) he
   | normal=>
    obtain⟨m',σ',way',g1,g2,g3,g4⟩:=hr m (Nat.le_trans (Nat.le_trans hm hj) hn) (pathN way) σ he
    obtain rfl:=pathN_inj g3
    unfold evFrom at g4
    rw[h1 m' (Nat.le_trans (Nat.le_of_lt g1) (Nat.le_trans hm hj))]at g4
    exact⟨m',σ',Nat.lt_of_lt_of_le g1 hm,g2,Nat.le_trans (Nat.le_of_lt g1) (Nat.le_trans hm hj),g4⟩
  refine⟨fun σ e=>?_,fun σ e=>at' n (Nat.le_refl _) σ σ (fun _ _ _ h=>h) e⟩
  obtain⟨m',σ',way',g1,g2,g3,g4⟩:=hr n hn (pathN way) σ e
  obtain rfl:=pathN_inj g3
  unfold evFrom at g4
  rw[h1 m' (Nat.le_of_lt g1)]at g4
  exact at' m' (Nat.le_of_lt g1) σ σ' g2 g4
 | .seq a b,way,n,Ko,KP,hn,h1,h2=>by
  have hb:∀m,m≤n→evReach (E m) ti nt body Kf (true::way)=some (b,2*pathN way+1,Ko m):=fun m hm=>by show (match evReach (E m) ti nt body Kf way with | some x=>_ | none=>_)=_;rw[h1 m hm];rfl
  have main:∀σ,evCode (E n) ti nt (.seq a b) (pathN way) σ (Ko n)=some r→exec M ti nt (execDraw ti M nt) (.seq a b) σ KP:=by
   intro σ e
   refine (M.lock_iff _).2 (.inr ⟨fun σ''=>exec M ti nt (execDraw ti M nt) b σ'' KP,?_,fun _ h=>h⟩)
   refine (code_ok hd hc hr a (false::way) n (fun m=>evSeqK (E m).res (2*pathN way+1) (fun σ K=>evCode (E m) ti nt b (2*pathN way+1) σ K) (Ko m)) _ hn (fun m hm=>by show (match evReach (E m) ti nt body Kf way with | some x=>_ | none=>_)=_;rw[h1 m hm];rfl) (fun m e σ hm he=>?_)).1 σ e
   cases e with
   | exit id=>exact h2 m _ _ hm he
   | ret=>exact h2 m _ _ hm he
   | normal=>
    simp only[evSeqK]at he
    split at he
    ·rename_i f hf
     obtain⟨m',σ',way',g1,g2,g3,g4⟩:=hr m (Nat.le_trans hm hn) (2*pathN way+1) σ (by unfold evRest;rw[hf];exact he)
     obtain rfl:way'=true::way:=pathN_inj (by rw[g3];rfl)
     unfold evFrom at g4
     rw[hb m' (Nat.le_trans (Nat.le_of_lt g1) hm)]at g4
     exact⟨σ',g2,(code_ok hd hc hr b (true::way) m' Ko KP (Nat.le_trans (Nat.le_trans (Nat.le_of_lt g1) hm) hn) (fun k hk=>hb k (Nat.le_trans hk (Nat.le_trans (Nat.le_of_lt g1) hm))) (fun k e σ hk=>h2 k e σ (Nat.le_trans hk (Nat.le_trans (Nat.le_of_lt g1) hm)))).2 σ' g4⟩
    ·exact⟨σ,fun _ _ _ h=>h,(code_ok hd hc hr b (true::way) m Ko KP (Nat.le_trans hm hn) (fun k hk=>hb k (Nat.le_trans hk hm)) (fun k e σ hk=>h2 k e σ (Nat.le_trans hk hm))).1 σ he⟩
  exact⟨main,main⟩
 | .rangeFunc ..,_,_,_,_,_,_,_=>⟨fun _ e=>(by cases e),fun _ e=>(by cases e)⟩
 | .scope _,_,_,_,_,_,_,_=>⟨fun _ e=>(by cases e),fun _ e=>(by cases e)⟩
 | .label _,_,_,_,_,_,_,_=>⟨fun _ e=>(by cases e),fun _ e=>(by cases e)⟩
 | .goto _,_,_,_,_,_,_,_=>⟨fun _ e=>(by cases e),fun _ e=>(by cases e)⟩
 | .refuse _,_,_,_,_,_,_,_=>⟨fun _ e=>(by cases e),fun _ e=>(by cases e)⟩
end
end Go.AM
namespace Go.AM
open Go Go.RowKit
noncomputable section
variable {γ:Type}{r:γ}
def evGsel (E:EnvO γ) (ti:Types) (o:Oper) (fresh:Nat) (σ:St) (pl:Pl) (K:Pl→St→Option γ):Option γ:=
 match gsel ti o (getS σ.slots) (getH σ.heap)with
 | none=>evOpP E ti o fresh (getS σ.slots) (getH σ.heap) pl fun p out=>K p ⟨putS σ.slots o.dst out.val,setW σ.heap out.wr,σ.next⟩
 | some b=>(match pl.take.gs with
  | []=>(match b with
   | false=>evOpP E ti o fresh (getS σ.slots) (getH σ.heap) pl.take.r fun p out=>K p ⟨putS σ.slots o.dst out.val,setW σ.heap out.wr,σ.next⟩
   | true=>evOpP E ti o fresh (getS σ.slots) (getH σ.heap) pl.take.r fun p out=>K p ⟨putS σ.slots o.dst out.val,setW σ.heap out.wr,fresh⟩)
  | g::gs=>evGh (g::gs) ⟨σ.slots,σ.heap,fresh⟩ fun σ'=>evR (Nat.beq σ'.next fresh)<| evOpP E ti o fresh (getS σ'.slots) (getH σ'.heap) pl.take.r fun p out=>K p ⟨putS σ'.slots o.dst out.val,setW σ'.heap out.wr,σ'.next⟩)
def evStepP (E:EnvO γ) (ti:Types) (nt:Nat) (o:Oper) (fresh:Nat) (σ:St) (pl:Pl) (K:Pl→St→Option γ):Option γ:=
 evR (storeB o)<| evR (dstB nt o.dst)<| (match nilCmp ti o (getS σ.slots) (getH σ.heap)with
  | some (e,rows)=>evR (sliceTy ti o)<| nilF rows (K (pl.at true) ⟨putS σ.slots o.dst (.v (.d (.bool e))),σ.heap,σ.next⟩) (K (pl.at false) ⟨putS σ.slots o.dst (.v (.d (.bool (notB e)))),σ.heap,σ.next⟩)
  | none=>(match o.op with
   | .call c=>(match c.callee with
    | .value f=>(match pl.take.gs with
     | []=>evCall0 E.call ti c f pl.take.w fresh (getS σ.slots) (getH σ.heap) pl.take.r fun p out=>K p ⟨putS σ.slots o.dst out.val,setW σ.heap out.wr,σ.next⟩
     | g::gs=>evCallG E.call ti o c f (g::gs) fresh σ pl.take.r K)
    | _=>evGsel E ti o fresh σ pl K)
   | _=>evGsel E ti o fresh σ pl K))
theorem evGsel_ok {M:Mach}{E:EnvO γ}{ti:Types}(hE:E.ok M.P M.I ti) {o:Oper}{fresh:Nat}{σ:St}{pl:Pl}{K:Pl→St→Option γ}{P:St→Prop}(hK:∀p σ,K p σ=some r→P σ) (e:evGsel E ti o fresh σ pl K=some r):
  match gsel ti o (getS σ.slots) (getH σ.heap)with
    | none=>opOut M ti o fresh (getS σ.slots) (getH σ.heap) fun out=>P ⟨putS σ.slots o.dst out.val,setW σ.heap out.wr,σ.next⟩
    | some b=>match b with
     | true=>M.lock fun _=>ghOp M ti o fresh σ P
     | false=>M.lock fun _=>plOp M ti o fresh σ P∨ghOp M ti o fresh σ P:=by
 unfold evGsel at e
 have ghs:∀{g:Gh} {gs:List Gh} {p:Pl},(evGh (g::gs) ⟨σ.slots,σ.heap,fresh⟩ fun σ'=>evR (Nat.beq σ'.next fresh)<| evOpP E ti o fresh (getS σ'.slots) (getH σ'.heap) p fun p out=>K p ⟨putS σ'.slots o.dst out.val,setW σ'.heap out.wr,σ'.next⟩)=some r→ghOp M ti o fresh σ P:=by
  intro g gs p e
  obtain⟨σ',hw,e⟩:=gh_weak (evGh_ok (P:=fun σ'=>_=some r) (fun σ h=>h) e)
  obtain⟨h1,e⟩:=evR_some e
  exact⟨σ',hw,Nat.eq_of_beq_eq_true h1,evOpP_ok hE (fun p out h=>hK _ _ h) e⟩
 split at e
 ·rename_i hg
  try rw[hg]
  exact evOpP_ok hE (fun p out h=>hK _ _ h) e
 ·rename_i b hg
  try rw[hg]
  split at e
  ·cases b with
   | false=>exact (M.lock_iff _).2 (.inl (evOpP_ok hE (fun p out h=>hK _ _ h) e))
   | true=>exact (M.lock_iff _).2 ⟨⟨σ.slots,σ.heap,fresh⟩,fun _ _ _ h=>h,rfl,evOpP_ok hE (fun p out h=>hK _ _ h) e⟩
  ·cases b with
   | false=>exact (M.lock_iff _).2 (.inr (ghs e))
   | true=>exact (M.lock_iff _).2 (ghs e)
theorem evStepP_ok {M:Mach}{E:EnvO γ}{ti:Types}(hE:E.ok M.P M.I ti) {nt:Nat}{o:Oper}{fresh:Nat}{σ:St}{pl:Pl}{K:Pl→St→Option γ}{P:St→Prop}(hK:∀p σ,K p σ=some r→P σ) (e:evStepP E ti nt o fresh σ pl K=some r):stepOp M ti nt o fresh σ P:=by
 unfold evStepP at e
 obtain⟨h1,e⟩:=evR_some e
 obtain⟨h2,e⟩:=evR_some e
 unfold stepOp
 refine storeB_ok h1 (dstB_ok h2 ?_)
 split at e
 ·rename_i b rows hn
  rw[hn]
  obtain⟨h3,e⟩:=evR_some e
  obtain⟨g0,g1⟩:=nilF_inv e
  exact req_iff.2 ⟨h3,fun _=>hK _ _ g0,fun hr=>⟨hK _ _ (g1 hr),hK _ _ g0⟩⟩
 ·rename_i hn
  rw[hn]
  simp only[]
  split at e
  ·rename_i c ho
   split at e
   ·rename_i f hf
    have hv:isValCall o=true:=by unfold isValCall;rw[ho];simp only[];rw[hf]
    rw[hv]
    split at e
    ·exact (M.lock_iff _).2 (.inl (evCall0_ok hE.call ho hf (fun p out h=>hK _ _ h) e))
    ·exact (M.lock_iff _).2 (.inr (.inl (evCallG_ok hE.call ho hf hK e)))
   ·rename_i hf
    have hv:isValCall o=false:=by
     unfold isValCall
     rw[ho]
     simp only[]
    rw[hv]
    exact evGsel_ok hE hK e
  ·rename_i ho
   by_cases hp:∃x,o.op= .panic x
   ·obtain⟨x,hp⟩:=hp
    exfalso
    unfold evGsel at e
    have hg:gsel ti o (getS σ.slots) (getH σ.heap)=none:=by unfold gsel;rw[hp]
    rw[hg]at e
    simp only[]at e
    unfold evOpP at e
    rw[hp]at e
    cases e
   have hv:isValCall o=false:=by
    unfold isValCall
    split
    ·rename_i c hc;exact absurd hc (ho c)
    ·rename_i x hx;exact absurd ⟨x,hx⟩ hp
    ·rfl
   rw[hv]
   exact evGsel_ok hE hK e
def evGuardP (ops:Array Oper) (o:Oper) (σ:St) (pl:Pl) (K1 K0:Pl→St→Option γ):Option γ:=
 match o.guard with
 | none=>K1 pl σ
 | some (j,want)=>(match (ops[j]?).bind (·.dst)with
  | none=>none
  | some d=>(match getS σ.slots d with
   | .v (.d (.bool c))=>(match want with
    | true=>if c=true then K1 (pl.at true) ⟨repS σ.slots d (.v (.d (.bool true))),σ.heap,σ.next⟩else K0 (pl.at false) ⟨repS σ.slots d (.v (.d (.bool false))),σ.heap,σ.next⟩
    | false=>if c=true then K0 (pl.at true) ⟨repS σ.slots d (.v (.d (.bool true))),σ.heap,σ.next⟩else K1 (pl.at false) ⟨repS σ.slots d (.v (.d (.bool false))),σ.heap,σ.next⟩)
   | .t []=>K0 pl σ
   | _=>none))
theorem evGuardP_ok {ops:Array Oper}{o:Oper}{σ:St}{pl:Pl}{K1 K0:Pl→St→Option γ}{P1 P0:St→Prop}(h1:∀p,K1 p σ=some r→P1 σ) (h0:∀p,K0 p σ=some r→P0 σ) (e:evGuardP ops o σ pl K1 K0=some r):guarded ops o σ P1 P0:=by
 unfold evGuardP at e
 unfold guarded
 split at e
 ·rename_i hg;simp only[hg];exact h1 _ e
 ·rename_i j want hg
  simp only[hg]
  split at e
  ·cases e
  ·rename_i d hd
   simp only[hd]
   split at e
   ·rename_i c hs
    simp only[hs]
    cases want<;>cases c<;>simp only[if_true,Bool.false_eq_true,if_false,repS_id hs]at e ⊢
    ·exact h1 _ e
    ·exact h0 _ e
    ·exact h0 _ e
    ·exact h1 _ e
   ·rename_i hs;simp only[hs];exact h0 _ e
   ·cases e
def evOpsP (E:EnvO γ) (ti:Types) (nt:Nat) (ops:Array Oper) (base:Nat):List Oper→Nat→Pl→St→(Pl→St→Option γ)→Option γ
 | [],i,pl,σ,K=>K pl ⟨σ.slots,σ.heap,base+32*i⟩
 | o::l,i,pl,σ,K=>evGuardP ops o σ pl (fun pl σ=>evStepP E ti nt o (base+32*i) σ pl fun pl σ2=>evOpsP E ti nt ops base l (i+1) pl σ2 K)
   (fun pl σ=>evR (dstB nt o.dst) (evOpsP E ti nt ops base l (i+1) pl ⟨putS σ.slots o.dst (.t []),σ.heap,σ.next⟩ K))
theorem evOpsP_ok {M:Mach}{E:EnvO γ}{ti:Types}(hE:E.ok M.P M.I ti) {nt:Nat}{ops:Array Oper}{base:Nat}{K:Pl→St→Option γ}{P:St→Prop}(hK:∀p σ,K p σ=some r→P σ):
  ∀(l:List Oper) (i:Nat) (pl:Pl) (σ:St),evOpsP E ti nt ops base l i pl σ K=some r→execOps M ti nt ops base l i σ P
 | [],_,_,_,e=>hK _ _ e
 | o::l,i,pl,σ,e=>by
  unfold evOpsP at e
  unfold execOps
  exact evGuardP_ok (P1:=fun σ1=>match dfCall o with
    | some x=>deferP M ti x (base+32*i) σ1 fun σ2=>execOps M ti nt ops base l (i+1) σ2 P
    | none=>stepOp M ti nt o (base+32*i) σ1 fun σ2=>execOps M ti nt ops base l (i+1) σ2 P) (P0:=fun σ1=>dstOK nt o.dst (execOps M ti nt ops base l (i+1) ⟨putS σ1.slots o.dst (.t []),σ1.heap,σ1.next⟩ P))
   (fun p e=>by
    have h0:=e
    unfold evStepP at h0
    simp only[dfCall_none (evR_some h0).1]
    exact evStepP_ok hE (fun p σ2 e=>evOpsP_ok hE hK l (i+1) p σ2 e) e) (fun p e=>by
    obtain⟨h1,e⟩:=evR_some e
    exact dstB_ok h1 (evOpsP_ok hE hK l (i+1) p _ e)) e
def evDrawOp (E:EnvO γ) (ti:Types) (o:Oper) (fresh:Nat) (s:Slots) (h:Heap) (pl:Pl) (k:Pl→Out→Option γ):Option γ:=
 match o.op with
 | .call c=>(match c.callee with
  | .value f=>evCall0 E.call ti c f pl.take.w fresh s h pl.take.r k
  | _=>evOpP E ti o fresh s h pl k)
 | _=>evOpP E ti o fresh s h pl k
theorem evDrawOp_ok {M:Mach}{E:EnvO γ}{ti:Types}(hE:E.ok M.P M.I ti) {o:Oper}{fresh:Nat}{s:Slots}{h:Heap}{pl:Pl}{k:Pl→Out→Option γ}{P:Out→Prop}(hk:∀p o,k p o=some r→P o) (e:evDrawOp E ti o fresh s h pl k=some r):opOut M ti o fresh s h P:=by
 unfold evDrawOp at e
 split at e
 ·rename_i c ho
  split at e
  ·rename_i f hf;exact evCall0_ok hE.call ho hf hk e
  ·exact evOpP_ok hE hk e
 ·exact evOpP_ok hE hk e
def evDrawP (E:EnvO γ) (ti:Types) (nt:Nat) (ops:Array Oper) (base:Nat):List Oper→Nat→Pl→St→List Fp→(Pl→St→List Fp→Option γ)→Option γ
 | [],i,pl,σ,fps,K=>K pl ⟨σ.slots,σ.heap,base+32*i⟩ fps
 | o::l,i,pl,σ,fps,K=>evGuardP ops o σ pl (fun pl σ=>evR (storeB o)<| evR (dstB nt o.dst)<| evDrawOp E ti o (base+32*i) (getS σ.slots) (getH σ.heap) pl fun pl out=>
    evDrawP E ti nt ops base l (i+1) pl ⟨putS σ.slots o.dst out.val,setW σ.heap out.wr,σ.next⟩ (fps++[(out.rd,out.wr.map (·.1))]) K)
   (fun pl σ=>evR (dstB nt o.dst) (evDrawP E ti nt ops base l (i+1) pl ⟨putS σ.slots o.dst (.t []),σ.heap,σ.next⟩ (fps++[([],[])]) K))
theorem evDrawP_ok {M:Mach}{E:EnvO γ}{ti:Types}(hE:E.ok M.P M.I ti) {nt:Nat}{ops:Array Oper}{base:Nat}{K:Pl→St→List Fp→Option γ}{P:St→List Fp→Prop}(hK:∀p σ fps,K p σ fps=some r→P σ fps):
  ∀(l:List Oper) (i:Nat) (pl:Pl) (σ:St) (fps:List Fp),evDrawP E ti nt ops base l i pl σ fps K=some r→drawOps M ti nt ops base l i σ fps P
 | [],_,_,_,_,e=>hK _ _ _ e
 | o::l,i,pl,σ,fps,e=>by
  unfold evDrawP at e
  unfold drawOps
  refine evGuardP_ok (P1:=fun σ1=>storeOK o<| dstOK nt o.dst<| opOut M ti o (base+32*i) (getS σ1.slots) (getH σ1.heap) fun out=>drawOps M ti nt ops base l (i+1) ⟨putS σ1.slots o.dst out.val,setW σ1.heap out.wr,σ1.next⟩ (fps++[(out.rd,out.wr.map (·.1))]) P)
   (P0:=fun σ1=>dstOK nt o.dst (drawOps M ti nt ops base l (i+1) ⟨putS σ1.slots o.dst (.t []),σ1.heap,σ1.next⟩ (fps++[([],[])]) P)) (fun p e=>?_) (fun p e=>?_) e
  ·obtain⟨h1,e⟩:=evR_some e
   obtain⟨h2,e⟩:=evR_some e
   exact storeB_ok h1 (dstB_ok h2 (evDrawOp_ok hE (fun p out e=>evDrawP_ok hE hK l (i+1) p _ _ e) e))
  ·obtain⟨h1,e⟩:=evR_some e
   exact dstB_ok h1 (evDrawP_ok hE hK l (i+1) p _ _ e)
abbrev KtP (γ:Type):=Pl→AExit→St→Option γ
structure EnvP (γ:Type) extends EnvO γ where
 has:Nat→Bool
 rest:Nat→Tk→St→Option γ
def evSeqP (E:EnvP γ) (q:Nat) (eb:Pl→St→KtP γ→Option γ) (K:KtP γ):KtP γ:=fun pl e σ=>match e with
 | .normal=>(match E.has q with
  | true=>(match pl.take.w with
   | true=>eb pl.take.r σ K
   | false=>E.rest q pl.take σ)
  | false=>eb pl σ K)
 | .exit id=>K pl (.exit id) σ
 | .ret=>K pl .ret σ
def evBlkP (id:Nat) (K:KtP γ):KtP γ:=fun pl e σ=>match e with
 | .normal=>K pl .normal σ
 | .exit id'=>(match Nat.beq id' id with
  | true=>K pl .normal σ
  | false=>K pl (.exit id') σ)
 | .ret=>K pl .ret σ
def evLoopP (E:EnvP γ) (p:Nat) (K:KtP γ):KtP γ:=fun pl e σ=>match e with
 | .normal=>E.rest p pl.take σ
 | .exit id=>K pl (.exit id) σ
 | .ret=>K pl .ret σ
def evCodeP (E:EnvP γ) (ti:Types) (nt:Nat):Code→Nat→Pl→St→KtP γ→Option γ
 | .skip,_,pl,σ,K=>K pl .normal σ
 | .region _ ops draw,_,pl,σ,K=>(match draw with
  | false=>evOpsP E.toEnvO ti nt ops σ.next ops.toList 0 pl σ fun pl σ'=>K pl .normal σ'
  | true=>evDrawP E.toEnvO ti nt ops σ.next ops.toList 0 pl σ [] fun pl σ' fps=>evR (drawB ops fps) (K pl .normal σ'))
 | .seq a b,p,pl,σ,K=>evCodeP E ti nt a (2*p) pl σ (evSeqP E (2*p+1) (fun pl σ K=>evCodeP E ti nt b (2*p+1) pl σ K) K)
 | .cond c a b,p,pl,σ,K=>evB (opd ti (getS σ.slots) 0 c) fun q=>if q=true then evCodeP E ti nt a (2*p) (pl.at true) (told σ c true) K else evCodeP E ti nt b (2*p+1) (pl.at false) (told σ c false) K
 | .block id c,p,pl,σ,K=>evCodeP E ti nt c (2*p) pl σ (evBlkP id K)
 | .loop _,p,pl,σ,_=>E.rest p pl.take σ
 | .exit id,_,pl,σ,K=>K pl (.exit id) σ
 | .ret,_,pl,σ,K=>K pl .ret σ
 | _,_,_,_,_=>none
def evAtP (E:EnvP γ) (ti:Types) (nt:Nat) (c:Code) (p:Nat) (pl:Pl) (σ:St) (K:KtP γ):Option γ:=
 match c with
 | .loop b=>evCodeP E ti nt b (2*p) pl σ (evLoopP E p K)
 | c=>evCodeP E ti nt c p pl σ K
def evDownP (E:EnvP γ) (ti:Types) (nt:Nat):Code→Nat→KtP γ→Bool→Option (Code×Nat×KtP γ)
 | .seq a b,p,K,d=>(match d with
  | false=>some (a,2*p,evSeqP E (2*p+1) (fun pl σ K=>evCodeP E ti nt b (2*p+1) pl σ K) K)
  | true=>some (b,2*p+1,K))
 | .cond _ a b,p,K,d=>(match d with
  | false=>some (a,2*p,K)
  | true=>some (b,2*p+1,K))
 | .block id c,p,K,d=>(match d with
  | false=>some (c,2*p,evBlkP id K)
  | true=>none)
 | .loop c,p,K,d=>(match d with
  | false=>some (c,2*p,evLoopP E p K)
  | true=>none)
 | _,_,_,_=>none
def evReachP (E:EnvP γ) (ti:Types) (nt:Nat) (body:Code) (K:KtP γ):List Bool→Option (Code×Nat×KtP γ)
 | []=>some (body,1,K)
 | b::t=>(match evReachP E ti nt body K t with
  | some x=>evDownP E ti nt x.1 x.2.1 x.2.2 b
  | none=>none)
def evFromP (E:EnvP γ) (ti:Types) (nt:Nat) (body:Code) (K:KtP γ) (way:List Bool) (pl:Pl) (σ:St):Option γ:=
 match evReachP E ti nt body K way with
 | some x=>evAtP E ti nt x.1 x.2.1 pl σ x.2.2
 | none=>none
variable {M:Mach}{ti:Types}{nt:Nat}{E:Nat→EnvP γ}{body:Code}{Kf:KtP γ}
def RestsP (E:Nat→EnvP γ) (ti:Types) (nt:Nat) (body:Code) (Kf:KtP γ) (r:γ) (n:Nat):Prop:=
 ∀p tk σ,(E n).rest p tk σ=some r→∃m σ' way pl,m<n∧Weak σ σ'∧pathN way=p∧evFromP (E m) ti nt body Kf way pl σ'=some r
theorem codeP_ok {N:Nat}(hE:∀m,m≤N→(E m).toEnvO.ok M.P M.I ti) (hr:∀m,m≤N→RestsP E ti nt body Kf r m):
  ∀(c:Code) (way:List Bool) (n:Nat) (Ko:Nat→KtP γ) (KP:AExit→St→Prop),n≤N→(∀m,m≤n→evReachP (E m) ti nt body Kf way=some (c,pathN way,Ko m))→(∀m p e σ,m≤n→Ko m p e σ=some r→KP e σ)→
   (∀pl σ,evCodeP (E n) ti nt c (pathN way) pl σ (Ko n)=some r→exec M ti nt (execDraw ti M nt) c σ KP)∧(∀pl σ,evAtP (E n) ti nt c (pathN way) pl σ (Ko n)=some r→exec M ti nt (execDraw ti M nt) c σ KP)
 | .skip,way,n,Ko,KP,hn,h1,h2=>⟨fun pl σ e=>h2 n _ _ _ (Nat.le_refl _) e,fun pl σ e=>h2 n _ _ _ (Nat.le_refl _) e⟩
 | .exit id,way,n,Ko,KP,hn,h1,h2=>⟨fun pl σ e=>h2 n _ _ _ (Nat.le_refl _) e,fun pl σ e=>h2 n _ _ _ (Nat.le_refl _) e⟩
 | .ret,way,n,Ko,KP,hn,h1,h2=>⟨fun pl σ e=>h2 n _ _ _ (Nat.le_refl _) e,fun pl σ e=>h2 n _ _ _ (Nat.le_refl _) e⟩
 | .region id ops draw,way,n,Ko,KP,hn,h1,h2=>by
  have main:∀pl σ,evCodeP (E n) ti nt (.region id ops draw) (pathN way) pl σ (Ko n)=some r→exec M ti nt (execDraw ti M nt) (.region id ops draw) σ KP:=by
   intro pl σ e
   cases draw with
   | false=>exact evOpsP_ok (hE n hn) (fun p σ' e=>h2 n _ _ _ (Nat.le_refl _) e) _ _ _ _ e
   | true=>
    refine evDrawP_ok (hE n hn) (fun p σ' fps e=>?_) _ _ _ _ _ e
    obtain⟨g1,e⟩:=evR_some e
    exact⟨(M.lock_iff _).2 g1,h2 n _ _ _ (Nat.le_refl _) e⟩
  exact⟨main,main⟩
 | .cond c a b,way,n,Ko,KP,hn,h1,h2=>by
  have main:∀pl σ,evCodeP (E n) ti nt (.cond c a b) (pathN way) pl σ (Ko n)=some r→exec M ti nt (execDraw ti M nt) (.cond c a b) σ KP:=by
   intro pl σ e
   have e':evB (opd ti (getS σ.slots) 0 c) (fun q=>if q=true then evCodeP (E n) ti nt a (2*pathN way) (pl.at true) (told σ c true) (Ko n)else evCodeP (E n) ti nt b (2*pathN way+1) (pl.at false) (told σ c false) (Ko n))=some r:=e
   show withB (opd ti (getS σ.slots) 0 c) _
   generalize ho:opd ti (getS σ.slots) 0 c=x at e'
   unfold evB at e'
   split at e'
   rotate_left
   ·cases e'
   rename_i q
   have e:(if q=true then evCodeP (E n) ti nt a (2*pathN way) (pl.at true) (told σ c true) (Ko n)else evCodeP (E n) ti nt b (2*pathN way+1) (pl.at false) (told σ c false) (Ko n))=some r:=e'
   cases q with
   | true=>
    rw[if_pos rfl,told_id ho]at e
    exact (codeP_ok hE hr a (false::way) n Ko KP hn (fun m hm=>by show (match evReachP (E m) ti nt body Kf way with | some x=>_ | none=>_)=_;rw[h1 m hm];rfl) h2).1 _ σ e
   | false=>
    rw[if_neg Bool.false_ne_true,told_id ho]at e
    exact (codeP_ok hE hr b (true::way) n Ko KP hn (fun m hm=>by show (match evReachP (E m) ti nt body Kf way with | some x=>_ | none=>_)=_;rw[h1 m hm];rfl) h2).1 _ σ e
  exact⟨main,main⟩
 | .block id c,way,n,Ko,KP,hn,h1,h2=>by
  have main:∀pl σ,evCodeP (E n) ti nt (.block id c) (pathN way) pl σ (Ko n)=some r→exec M ti nt (execDraw ti M nt) (.block id c) σ KP:=by
   intro pl σ e
   refine (codeP_ok hE hr c (false::way) n (fun m=>evBlkP id (Ko m)) _ hn (fun m hm=>by show (match evReachP (E m) ti nt body Kf way with | some x=>_ | none=>_)=_;rw[h1 m hm];rfl) (fun m p e σ hm he=>?_)).1 pl σ e
   cases e with
   | normal=>exact h2 m _ _ _ hm he
   | ret=>exact h2 m _ _ _ hm he
   | exit id'=>
    simp only[evBlkP]at he
    simp only[]
    split at he
    ·rename_i hb;simp only[hb];exact h2 m _ _ _ hm he
    ·rename_i hb;simp only[hb];exact h2 m _ _ _ hm he
  exact⟨main,main⟩
 | .loop c,way,n,Ko,KP,hn,h1,h2=>by
  have at':∀k,k≤n→∀pl σ σ1,Weak σ σ1→evAtP (E k) ti nt (.loop c) (pathN way) pl σ1 (Ko k)=some r→exec M ti nt (execDraw ti M nt) (.loop c) σ KP:=by
   intro k hk pl σ σ1 hw e
   refine (M.lock_iff _).2 (.inl ⟨fun j σ=>j≤n∧∃pl,evCodeP (E j) ti nt c (2*pathN way) pl σ (evLoopP (E j) (pathN way) (Ko j))=some r,k,⟨σ1,hw,hk,pl,e⟩,?_⟩)
   rintro j σ2 ⟨hj,pl2,e2⟩
   refine (codeP_ok hE hr c (false::way) j (fun m=>evLoopP (E m) (pathN way) (Ko m)) _ (Nat.le_trans hj hn) (fun m hm=>by show (match evReachP (E m) ti nt body Kf way with | some x=>_ | none=>_)=_;rw[h1 m (Nat.le_trans hm hj)];rfl) (fun m p e σ hm he=>?_)).1 pl2 σ2 e2
   cases e with
   | exit id=>exact h2 m _ _ _ (Nat.le_trans hm hj) he
   | ret=>exact h2 m _ _ _ (Nat.le_trans hm hj) he
   | normal=>
    obtain⟨m',σ',way',pl',g1,g2,g3,g4⟩:=hr m (Nat.le_trans (Nat.le_trans hm hj) hn) (pathN way) _ σ he
    obtain rfl:=pathN_inj g3
    unfold evFromP at g4
    rw[h1 m' (Nat.le_trans (Nat.le_of_lt g1) (Nat.le_trans hm hj))]at g4
    exact⟨m',σ',Nat.lt_of_lt_of_le g1 hm,g2,Nat.le_trans (Nat.le_of_lt g1) (Nat.le_trans hm hj),pl',g4⟩
  refine⟨fun pl σ e=>?_,fun pl σ e=>at' n (Nat.le_refl _) pl σ σ (fun _ _ _ h=>h) e⟩
  obtain⟨m',σ',way',pl',g1,g2,g3,g4⟩:=hr n hn (pathN way) _ σ e
  obtain rfl:=pathN_inj g3
  unfold evFromP at g4
  rw[h1 m' (Nat.le_of_lt g1)]at g4
  exact at' m' (Nat.le_of_lt g1) pl' σ σ' g2 g4
 | .seq a b,way,n,Ko,KP,hn,h1,h2=>by
  have hb:∀m,m≤n→evReachP (E m) ti nt body Kf (true::way)=some (b,2*pathN way+1,Ko m):=fun m hm=>by show (match evReachP (E m) ti nt body Kf way with | some x=>_ | none=>_)=_;rw[h1 m hm];rfl
  have main:∀pl σ,evCodeP (E n) ti nt (.seq a b) (pathN way) pl σ (Ko n)=some r→exec M ti nt (execDraw ti M nt) (.seq a b) σ KP:=by
   intro pl σ e
   refine (M.lock_iff _).2 (.inr ⟨fun σ''=>exec M ti nt (execDraw ti M nt) b σ'' KP,?_,fun _ h=>h⟩)
   refine (codeP_ok hE hr a (false::way) n (fun m=>evSeqP (E m) (2*pathN way+1) (fun pl σ K=>evCodeP (E m) ti nt b (2*pathN way+1) pl σ K) (Ko m)) _ hn (fun m hm=>by show (match evReachP (E m) ti nt body Kf way with | some x=>_ | none=>_)=_;rw[h1 m hm];rfl) (fun m p e σ hm he=>?_)).1 pl σ e
   cases e with
   | exit id=>exact h2 m _ _ _ hm he
   | ret=>exact h2 m _ _ _ hm he
   | normal=>
    have go:∀p,evCodeP (E m) ti nt b (2*pathN way+1) p σ (Ko m)=some r→∃σ'',Weak σ σ''∧exec M ti nt (execDraw ti M nt) b σ'' KP:=fun p he=>
     ⟨σ,fun _ _ _ h=>h,(codeP_ok hE hr b (true::way) m Ko KP (Nat.le_trans hm hn) (fun k hk=>hb k (Nat.le_trans hk hm)) (fun k p e σ hk=>h2 k p e σ (Nat.le_trans hk hm))).1 p σ he⟩
    simp only[evSeqP]at he
    split at he
    ·split at he
     ·exact go _ he
     ·obtain⟨m',σ',way',pl',g1,g2,g3,g4⟩:=hr m (Nat.le_trans hm hn) (2*pathN way+1) _ σ he
      obtain rfl:way'=true::way:=pathN_inj (by rw[g3];rfl)
      unfold evFromP at g4
      rw[hb m' (Nat.le_trans (Nat.le_of_lt g1) hm)]at g4
      exact⟨σ',g2,(codeP_ok hE hr b (true::way) m' Ko KP (Nat.le_trans (Nat.le_trans (Nat.le_of_lt g1) hm) hn) (fun k hk=>hb k (Nat.le_trans hk (Nat.le_trans (Nat.le_of_lt g1) hm))) (fun k p e σ hk=>h2 k p e σ (Nat.le_trans hk (Nat.le_trans (Nat.le_of_lt g1) hm)))).2 pl' σ' g4⟩
    ·exact go _ he
  exact⟨main,main⟩
 | .rangeFunc ..,_,_,_,_,_,_,_=>⟨fun _ _ e=>(by cases e),fun _ _ e=>(by cases e)⟩
 | .scope _,_,_,_,_,_,_,_=>⟨fun _ _ e=>(by cases e),fun _ _ e=>(by cases e)⟩
 | .label _,_,_,_,_,_,_,_=>⟨fun _ _ e=>(by cases e),fun _ _ e=>(by cases e)⟩
 | .goto _,_,_,_,_,_,_,_=>⟨fun _ _ e=>(by cases e),fun _ _ e=>(by cases e)⟩
 | .refuse _,_,_,_,_,_,_,_=>⟨fun _ _ e=>(by cases e),fun _ _ e=>(by cases e)⟩
end
end Go.AM
namespace Go.AM
open Go Go.RowKit
section
variable {γ:Type}{r:γ}
def evRes (ti:Types) (σ:St):List ResultVar→Option (List V1)
 | []=>some []
 | x::l=>(match (match x with
  | .tmp t=>some (getS σ.slots t)
  | .cell a t=>evLoad ti t (getS σ.slots a) (getH σ.heap) fun out=>some out.val)with
  | some (.v y)=>(match evRes ti σ l with
   | some xs=>some (y.norm::xs)
   | none=>none)
  | _=>none)
theorem evRes_ok {ti:Types}{σ:St}:∀{l:List ResultVar}{xs:List V1}{P:List V1→Prop},evRes ti σ l=some xs→P xs→withRes ti σ l P
 | [],_,_,e,hP=>by cases e;exact hP
 | .tmp t::l,xs,P,e,hP=>by
  unfold evRes at e
  unfold withRes
  simp only[]at e
  split at e
  ·rename_i y hy
   split at e
   ·rename_i ys hys
    cases e
    rw[Option.some.inj hy]
    exact evRes_ok hys hP
   ·cases e
  ·cases e
 | .cell a t::l,xs,P,e,hP=>by
  unfold evRes at e
  unfold withRes
  simp only[]at e
  split at e
  ·rename_i y hy
   split at e
   ·rename_i ys hys
    cases e
    refine evLoad_ok (fun out ho=>?_) hy
    rw[Option.some.inj ho]
    exact evRes_ok hys hP
   ·cases e
  ·cases e
def locsOf:List Id→List Id
 | []=>[]
 | i::l=>(match i with
  | .loc _=>i::locsOf l
  | .ext _=>locsOf l)
def extsL:Nat→Nat→List Id
 | _,0=>[]
 | j,n+1=>.ext j::extsL (j+1) n
def outId (nm:List Id) (i:Id):Id:=match i with
 | .ext j=>.ext j
 | .loc _=>(match posI nm 0 i with
  | some k=>.loc k
  | none=>i)
def backO (nm:List Id) (N:Nat) (i:Id):Bool:=Id.beq (renN nm N (outId nm i)) i
def evFin (ti:Types) (rs:List ResultVar) (np:Nat) (σ:St) (fin:Ret→Option γ):Option γ:=
 match evRes ti σ rs with
 | none=>none
 | some xs=>(match objsAt (getH σ.heap) (extsL 0 np),objsAt (getH σ.heap) (locsOf (reachI (getH σ.heap) 100 (idsVs xs++extsL 0 np) []))with
  | some ps,some ns=>evR (nodupB (locsOf (reachI (getH σ.heap) 100 (idsVs xs++extsL 0 np) [])))<|
    evR (avP (backO (locsOf (reachI (getH σ.heap) 100 (idsVs xs++extsL 0 np) [])) σ.next) (mkRes xs))<| evR (allB (objP (backO (locsOf (reachI (getH σ.heap) 100 (idsVs xs++extsL 0 np) [])) σ.next)) ps)<|
    evR (allB (objP (backO (locsOf (reachI (getH σ.heap) 100 (idsVs xs++extsL 0 np) [])) σ.next)) ns)<|
    fin ⟨(mkRes xs).ren (outId (locsOf (reachI (getH σ.heap) 100 (idsVs xs++extsL 0 np) []))),ps.map (AObj.ren (outId (locsOf (reachI (getH σ.heap) 100 (idsVs xs++extsL 0 np) [])))),ns.map (AObj.ren (outId (locsOf (reachI (getH σ.heap) 100 (idsVs xs++extsL 0 np) []))))⟩
  | _,_=>none)
theorem postOK_of {h:Heap}{N:Nat}{nm:List Id}:∀{n j:Nat}{ps:List AObj},objsAt h (extsL j n)=some ps→allB (objP (backO nm N)) ps=true→postOK h (renN nm N) (ps.map (AObj.ren (outId nm))) j
 | 0,j,ps,e,_=>by cases e;trivial
 | n+1,j,ps,e,hb=>by
  unfold extsL objsAt at e
  split at e
  ·rename_i o ho
   split at e
   ·rename_i r' hr
    cases e
    unfold allB at hb
    split at hb
    ·rename_i h1
     show (match isGone (o.ren (outId nm))with | true=>_ | false=>_)
     split
     ·exact postOK_of hr hb
     ·exact⟨by rw[ren_obj (p:=backO nm N) (fun i hi=>Id.beq_iff.1 hi) h1];exact ho,postOK_of hr hb⟩
    ·cases hb
   ·cases e
  ·cases e
theorem newOK_of {h:Heap}{N:Nat}{nm:List Id}:∀{l:List Id}{ns:List AObj},objsAt h l=some ns→allB (objP (backO nm N)) ns=true→newOK h (renN nm N) (ns.map (AObj.ren (outId nm))) l
 | [],ns,e,_=>by cases e;trivial
 | i::l,ns,e,hb=>by
  unfold objsAt at e
  split at e
  ·rename_i o ho
   split at e
   ·rename_i r' hr
    cases e
    unfold allB at hb
    split at hb
    ·rename_i h1
     exact⟨by rw[ren_obj (p:=backO nm N) (fun i hi=>Id.beq_iff.1 hi) h1];exact ho,newOK_of hr hb⟩
    ·cases hb
   ·cases e
  ·cases e
theorem handOK_of {post:List AObj}:∀l:List Id,handOK post (locsOf l)
 | []=>trivial
 | .loc _::l=>handOK_of l
 | .ext _::l=>handOK_of l
theorem evFin_ok {ti:Types}{rs:List ResultVar}{np:Nat}{σ:St}{fin:Ret→Option γ}(e:evFin ti rs np σ fin=some r):∃res post new,fin ⟨res,post,new⟩=some r∧Fin' ti rs σ res post new:=by
 unfold evFin at e
 split at e
 ·cases e
 ·rename_i xs hxs
  generalize hm:reachI (getH σ.heap) 100 (idsVs xs++extsL 0 np) []=m at e
  split at e
  ·rename_i ps ns hp hn
   obtain⟨h1,e⟩:=evR_some e
   obtain⟨h2,e⟩:=evR_some e
   obtain⟨h3,e⟩:=evR_some e
   obtain⟨h4,e⟩:=evR_some e
   exact⟨_,_,_,e,[],evRes_ok hxs ⟨locsOf m,h1,(ren_av (p:=backO (locsOf m) σ.next) (fun i hi=>Id.beq_iff.1 hi) h2).symm,postOK_of hp h3,newOK_of hn h4,handOK_of _⟩⟩
  ·cases e
inductive Lf where
 | I (z:Int)
 | B (b:Bool)
 | S (s:ByteArray)
 | L (l:List D)
inductive Sk where
 | int (k:IntKind)
 | bool
 | str
 | list (ag:Bool) (sz:Nat)
 | ci (k:IntKind) (z:Int)
 | cb (b:Bool)
 | nils (ag:Bool) (sz:Nat)
 | nilp
 | ptr (i:Id) (o:Nat)
 | fn (f:Nat) (cap:List Id)
 | cs (s:ByteArray)
 | el (ag:Bool) (sz:Nat)
 | nilf
inductive SkA where
 | one (s:Sk)
 | agg (l:List Sk)
 | mix (l:List Sk)
abbrev Sk.z:Sk:=.int .i64
abbrev Sk.y:Sk:=.int .u8
abbrev Sk.k (z:Int):Sk:=.ci .i64 z
abbrev Sk.q (n:Nat):Sk:=.list true n
abbrev Sk.f (n:Nat):Sk:=.list false n
abbrev SkA.z:SkA:=.one .z
abbrev SkA.y:SkA:=.one .y
abbrev SkA.b:SkA:=.one .bool
abbrev SkA.s:SkA:=.one .str
abbrev SkA.k (z:Int):SkA:=.one (.k z)
abbrev SkA.q (n:Nat):SkA:=.one (.q n)
abbrev SkA.f (n:Nat):SkA:=.one (.f n)
abbrev SkA.p (i:Id) (n:Nat):SkA:=.one (.ptr i n)
def eqIds:List Id→List Id→Bool
 | [],[]=>true
 | i::a,j::b=>(match Id.beq i j with
  | true=>eqIds a b
  | false=>false)
 | _,_=>false
theorem eqIds_ok:∀{a b:List Id},eqIds a b=true→a=b
 | [],[],_=>rfl
 | i::a,j::b,h=>by
  unfold eqIds at h
  split at h
  ·rename_i hb;rw[Id.beq_iff.1 hb,eqIds_ok h]
  ·cases h
 | [],_::_,h=>by cases h
 | _::_,[],h=>by cases h
def eqKd:IntKind→IntKind→Bool:=fun a b=>decide (a=b)
def eqZ:Int→Int→Bool
 | .ofNat a,.ofNat b=>Nat.beq a b
 | .negSucc a,.negSucc b=>Nat.beq a b
 | _,_=>false
theorem eqZ_ok {a b:Int}(h:eqZ a b=true):a=b:=by
 cases a<;>cases b<;>simp only[eqZ]at h
 ·rw[Nat.eq_of_beq_eq_true h]
 ·cases h
 ·cases h
 ·rw[Nat.eq_of_beq_eq_true h]
def eqU:List UInt8→List UInt8→Bool
 | [],[]=>true
 | a::l,b::m=>(match Nat.beq a.toNat b.toNat with
  | true=>eqU l m
  | false=>false)
 | _,_=>false
theorem eqU_ok:∀{a b:List UInt8},eqU a b=true→a=b
 | [],[],_=>rfl
 | a::l,b::m,h=>by
  unfold eqU at h
  split at h
  ·rename_i hb;rw[UInt8.toNat_inj.1 (Nat.eq_of_beq_eq_true hb),eqU_ok h]
  ·cases h
 | [],_::_,h=>by cases h
 | _::_,[],h=>by cases h
theorem eqBs_ok {a b:ByteArray}(h:eqU a.data.toList b.data.toList=true):a=b:=by
 obtain⟨a⟩:=a
 obtain⟨b⟩:=b
 rw[show a=b from Array.ext' (eqU_ok h)]
def andO (b:Bool) (x:Option (List Lf)):Option (List Lf):=match b with
 | true=>x
 | false=>none
theorem andO_some {b:Bool}{x:Option (List Lf)}{l:List Lf}(h:andO b x=some l):b=true∧x=some l:=by
 cases b
 ·cases h
 ·exact⟨rfl,h⟩
def decC:Sk→CV→Option (List Lf)
 | .int k,.d (.int k' z)=>andO (eqKd k k') (some [.I z])
 | .bool,.d (.bool b)=>some [.B b]
 | .str,.d (.str s)=>some [.S s]
 | .list ag sz,.d (.list ag' sz' l)=>andO (ag==ag') (andO (Nat.beq sz sz') (some [.L l]))
 | .ci k z,.d (.int k' z')=>andO (eqKd k k') (andO (eqZ z z') (some []))
 | .cb b,.d (.bool b')=>andO (b==b') (some [])
 | .nils ag sz,.nils ag' sz'=>andO (ag==ag') (andO (Nat.beq sz sz') (some []))
 | .nilp,.nilp=>some []
 | .ptr i o,.ptr i' o'=>andO (Id.beq i i') (andO (Nat.beq o o') (some []))
 | .fn f c,.fn f' c'=>andO (Nat.beq f f') (andO (eqIds c c') (some []))
 | .cs s,.d (.str s')=>andO (eqU s.data.toList s'.data.toList) (some [])
 | .el ag sz,.d (.list ag' sz' [])=>andO (ag==ag') (andO (Nat.beq sz sz') (some []))
 | .nilf,.nilf=>some []
 | _,_=>none
def encC:Sk→List Lf→Option (CV×List Lf)
 | .int k,.I z::r=>some (.d (.int k z),r)
 | .bool,.B b::r=>some (.d (.bool b),r)
 | .str,.S s::r=>some (.d (.str s),r)
 | .list ag sz,.L l::r=>some (.d (.list ag sz l),r)
 | .ci k z,r=>some (.d (.int k z),r)
 | .cb b,r=>some (.d (.bool b),r)
 | .nils ag sz,r=>some (.nils ag sz,r)
 | .nilp,r=>some (.nilp,r)
 | .ptr i o,r=>some (.ptr i o,r)
 | .fn f c,r=>some (.fn f c,r)
 | .cs s,r=>some (.d (.str s),r)
 | .el ag sz,r=>some (.d (.list ag sz []),r)
 | .nilf,r=>some (.nilf,r)
 | _,_=>none
theorem enc_dec {s:Sk}{c:CV}{l:List Lf}(h:decC s c=some l) (rest:List Lf):encC s (l++rest)=some (c,rest):=by
 unfold decC at h
 split at h
 ·obtain⟨h1,h⟩:=andO_some h
  cases h
  rw[show _=_ from of_decide_eq_true h1];rfl
 ·cases h;rfl
 ·cases h;rfl
 ·obtain⟨h1,h⟩:=andO_some h
  obtain⟨h2,h⟩:=andO_some h
  cases h
  rw[eq_of_beq h1,Nat.eq_of_beq_eq_true h2];rfl
 ·obtain⟨h1,h⟩:=andO_some h
  obtain⟨h2,h⟩:=andO_some h
  cases h
  rw[show _=_ from of_decide_eq_true h1,eqZ_ok h2];rfl
 ·obtain⟨h1,h⟩:=andO_some h
  cases h
  rw[eq_of_beq h1];rfl
 ·obtain⟨h1,h⟩:=andO_some h
  obtain⟨h2,h⟩:=andO_some h
  cases h
  rw[eq_of_beq h1,Nat.eq_of_beq_eq_true h2];rfl
 ·cases h;rfl
 ·obtain⟨h1,h⟩:=andO_some h
  obtain⟨h2,h⟩:=andO_some h
  cases h
  rw[Id.beq_iff.1 h1,Nat.eq_of_beq_eq_true h2];rfl
 ·obtain⟨h1,h⟩:=andO_some h
  obtain⟨h2,h⟩:=andO_some h
  cases h
  rw[Nat.eq_of_beq_eq_true h1,eqIds_ok h2];rfl
 ·obtain⟨h1,h⟩:=andO_some h
  cases h
  rw[eqBs_ok h1];rfl
 ·obtain⟨h1,h⟩:=andO_some h
  obtain⟨h2,h⟩:=andO_some h
  cases h
  rw[eq_of_beq h1,Nat.eq_of_beq_eq_true h2];rfl
 ·cases h;rfl
 ·cases h
def decCs:List Sk→List CV→Option (List Lf)
 | [],[]=>some []
 | s::ss,c::cs=>(match decC s c with
  | some l=>(match decCs ss cs with
   | some m=>some (l++m)
   | none=>none)
  | none=>none)
 | _,_=>none
def encCs:List Sk→List Lf→Option (List CV×List Lf)
 | [],r=>some ([],r)
 | s::ss,r=>(match encC s r with
  | some (c,r)=>(match encCs ss r with
   | some (cs,r)=>some (c::cs,r)
   | none=>none)
  | none=>none)
theorem enc_decs:∀{s:List Sk}{c:List CV}{l:List Lf},decCs s c=some l→∀rest,encCs s (l++rest)=some (c,rest)
 | [],[],l,h,rest=>by cases h;rfl
 | s::ss,c::cs,l,h,rest=>by
  unfold decCs at h
  split at h
  ·rename_i a ha
   split at h
   ·rename_i b hb
    cases h
    unfold encCs
    rw[List.append_assoc,enc_dec ha]
    simp only[]
    rw[enc_decs hb]
   ·cases h
  ·cases h
 | [],_::_,_,h,_=>by cases h
 | _::_,[],_,h,_=>by cases h
def dsOf:List CV→Option (List D)
 | []=>some []
 | .d x::r=>(match dsOf r with
  | some l=>some (x::l)
  | none=>none)
 | _::_=>none
theorem dsOf_map:∀l:List D,dsOf (l.map CV.d)=some l
 | []=>rfl
 | x::l=>by show (match dsOf (l.map CV.d)with | some l=>some (x::l) | none=>none)=_;rw[dsOf_map l]
def decA:SkA→AV→Option (List Lf)
 | .one s,.v (.d (.agg _))=>none
 | .one s,.v (.d x)=>decC s (.d x)
 | .one s,.v (.c (.d _))=>none
 | .one s,.v (.c x)=>decC s x
 | .agg ss,.v (.d (.agg cs))=>decCs ss (cs.map CV.d)
 | .mix ss,.v (.agg cs)=>decCs ss cs
 | _,_=>none
def encA:SkA→List Lf→Option (AV×List Lf)
 | .one s,r=>(match encC s r with
  | some (.d x,r)=>some (.v (.d x),r)
  | some (c,r)=>some (.v (.c c),r)
  | none=>none)
 | .agg ss,r=>(match encCs ss r with
  | some (cs,r)=>(match dsOf cs with
   | some ds=>some (.v (.d (.agg ds)),r)
   | none=>none)
  | none=>none)
 | .mix ss,r=>(match encCs ss r with
  | some (cs,r)=>some (.v (.agg cs),r)
  | none=>none)
theorem enc_deca {s:SkA}{c:AV}{l:List Lf}(h:decA s c=some l) (rest:List Lf):encA s (l++rest)=some (c,rest):=by
 unfold decA at h
 split at h
 ·cases h
 ·unfold encA;simp only[];rw[enc_dec h]
 ·cases h
 ·rename_i x hx
  unfold encA
  simp only[]
  rw[enc_dec h]
  cases x<;>first | rfl | exact absurd rfl (hx _)
 ·unfold encA;simp only[];rw[enc_decs h];simp only[];rw[dsOf_map]
 ·unfold encA;simp only[];rw[enc_decs h]
 ·cases h
end
end Go.AM
namespace Go.AM
open Go Go.RowKit
section
variable {γ:Type}{r:γ}
def decAs:List SkA→List AV→Option (List Lf)
 | [],[]=>some []
 | s::ss,c::cs=>(match decA s c with
  | some l=>(match decAs ss cs with
   | some m=>some (l++m)
   | none=>none)
  | none=>none)
 | _,_=>none
def encAs:List SkA→List Lf→Option (List AV×List Lf)
 | [],r=>some ([],r)
 | s::ss,r=>(match encA s r with
  | some (c,r)=>(match encAs ss r with
   | some (cs,r)=>some (c::cs,r)
   | none=>none)
  | none=>none)
theorem enc_decas:∀{s:List SkA}{c:List AV}{l:List Lf},decAs s c=some l→∀rest,encAs s (l++rest)=some (c,rest)
 | [],[],l,h,rest=>by cases h;rfl
 | s::ss,c::cs,l,h,rest=>by
  unfold decAs at h
  split at h
  ·rename_i a ha
   split at h
   ·rename_i b hb
    cases h
    unfold encAs
    rw[List.append_assoc,enc_deca ha]
    simp only[]
    rw[enc_decas hb]
   ·cases h
  ·cases h
 | [],_::_,_,h,_=>by cases h
 | _::_,[],_,h,_=>by cases h
def decOs:List (List Sk)→List AObj→Option (List Lf)
 | [],[]=>some []
 | s::ss,.cells cs::os=>(match decCs s cs with
  | some l=>(match decOs ss os with
   | some m=>some (l++m)
   | none=>none)
  | none=>none)
 | _,_=>none
def encOs:List (List Sk)→List Lf→Option (List AObj×List Lf)
 | [],r=>some ([],r)
 | s::ss,r=>(match encCs s r with
  | some (c,r)=>(match encOs ss r with
   | some (os,r)=>some (.cells c::os,r)
   | none=>none)
  | none=>none)
theorem enc_decos:∀{s:List (List Sk)}{c:List AObj}{l:List Lf},decOs s c=some l→∀rest,encOs s (l++rest)=some (c,rest)
 | [],[],l,h,rest=>by cases h;rfl
 | s::ss,.cells cs::os,l,h,rest=>by
  unfold decOs at h
  split at h
  ·rename_i a ha
   split at h
   ·rename_i b hb
    cases h
    unfold encOs
    rw[List.append_assoc,enc_decs ha]
    simp only[]
    rw[enc_decos hb]
   ·cases h
  ·cases h
 | [],_::_,_,h,_=>by cases h
 | s::ss,o::os,l,h,rest=>by
  cases o with
  | cells cs=>
   unfold decOs at h
   split at h
   ·rename_i a ha
    split at h
    ·rename_i b hb
     cases h
     unfold encOs
     rw[List.append_assoc,enc_decs ha]
     simp only[]
     rw[enc_decos hb]
    ·cases h
   ·cases h
  | _=>cases h
 | _::_,[],_,h,_=>by cases h
def zipK {α β:Type}:List α→List β→List (α×β)
 | a::l,b::m=>(a,b)::zipK l m
 | _,_=>[]
inductive Ty where
 | I
 | B
 | S
 | L
def tyC:Sk→List Ty→List Ty
 | .int _,l=>.I::l
 | .bool,l=>.B::l
 | .str,l=>.S::l
 | .list _ _,l=>.L::l
 | _,l=>l
def tyCs:List Sk→List Ty→List Ty
 | [],l=>l
 | s::ss,l=>tyC s (tyCs ss l)
def tyAs:List SkA→List Ty→List Ty
 | [],l=>l
 | s::ss,l=>(match s with
  | .one c=>tyC c (tyAs ss l)
  | .agg cs=>tyCs cs (tyAs ss l)
  | .mix cs=>tyCs cs (tyAs ss l))
def tyOs:List (List Sk)→List Ty
 | []=>[]
 | s::ss=>tyCs s (tyOs ss)
def Cur (ρ:Type):List Ty→Type
 | []=>Option ρ
 | .I::l=>Int→Cur ρ l
 | .B::l=>Bool→Cur ρ l
 | .S::l=>ByteArray→Cur ρ l
 | .L::l=>List D→Cur ρ l
def apC:(l:List Ty)→Cur γ l→List Lf→Option γ
 | [],x,[]=>x
 | .I::l,f,.I z::r=>apC l (f z) r
 | .B::l,f,.B z::r=>apC l (f z) r
 | .S::l,f,.S z::r=>apC l (f z) r
 | .L::l,f,.L z::r=>apC l (f z) r
 | _,_,_=>none
def curC:(l:List Ty)→(List Lf→Option γ)→Cur γ l
 | [],f=>f []
 | .I::l,f=>fun z=>curC l fun r=>f (.I z::r)
 | .B::l,f=>fun z=>curC l fun r=>f (.B z::r)
 | .S::l,f=>fun z=>curC l fun r=>f (.S z::r)
 | .L::l,f=>fun z=>curC l fun r=>f (.L z::r)
theorem apC_cur:∀{l:List Ty}{f:List Lf→Option γ}{v:List Lf},apC l (curC l f) v=some r→f v=some r
 | [],f,[],h=>h
 | .I::l,f,.I z::v,h=>apC_cur (l:=l) (f:=fun r=>f (.I z::r)) (v:=v) h
 | .B::l,f,.B z::v,h=>apC_cur (l:=l) (f:=fun r=>f (.B z::r)) (v:=v) h
 | .S::l,f,.S z::v,h=>apC_cur (l:=l) (f:=fun r=>f (.S z::r)) (v:=v) h
 | .L::l,f,.L z::v,h=>apC_cur (l:=l) (f:=fun r=>f (.L z::r)) (v:=v) h
 | [],_,_::_,h=>by cases h
 | .I::_,_,[],h=>by cases h
 | .B::_,_,[],h=>by cases h
 | .S::_,_,[],h=>by cases h
 | .L::_,_,[],h=>by cases h
 | .I::_,_,.B _::_,h=>by cases h
 | .I::_,_,.S _::_,h=>by cases h
 | .I::_,_,.L _::_,h=>by cases h
 | .B::_,_,.I _::_,h=>by cases h
 | .B::_,_,.S _::_,h=>by cases h
 | .B::_,_,.L _::_,h=>by cases h
 | .S::_,_,.I _::_,h=>by cases h
 | .S::_,_,.B _::_,h=>by cases h
 | .S::_,_,.L _::_,h=>by cases h
 | .L::_,_,.I _::_,h=>by cases h
 | .L::_,_,.B _::_,h=>by cases h
 | .L::_,_,.S _::_,h=>by cases h
class Res (ρ:Type) where
  pack:ρ→List Lf
  unp:List Lf→Option (ρ×List Lf)
  law:∀{l p q},unp l=some (p,q)→l=pack p++q
instance:Res Unit:=⟨fun _=>[],fun l=>some ((),l),fun h=>by cases h;rfl⟩
instance:Res Int:=⟨fun z=>[.I z],fun l=>match l with | .I z::q=>some (z,q) | _=>none,fun h=>by split at h<;>cases h;rfl⟩
instance:Res Bool:=⟨fun z=>[.B z],fun l=>match l with | .B z::q=>some (z,q) | _=>none,fun h=>by split at h<;>cases h;rfl⟩
instance:Res ByteArray:=⟨fun z=>[.S z],fun l=>match l with | .S z::q=>some (z,q) | _=>none,fun h=>by split at h<;>cases h;rfl⟩
instance:Res (List D):=⟨fun z=>[.L z],fun l=>match l with | .L z::q=>some (z,q) | _=>none,fun h=>by split at h<;>cases h;rfl⟩
instance {α β:Type} [Res α] [Res β]:Res (α×β):=⟨fun p=>Res.pack p.1++Res.pack p.2,fun l=>match (Res.unp l:Option (α×List Lf))with
  | some (a,l)=>(match (Res.unp l:Option (β×List Lf))with
    | some (b,l)=>some ((a,b),l)
    | none=>none)
  | none=>none,fun h=>by
    split at h
    · rename_i ha
      split at h
      · rename_i hb
        cases h
        rw[Res.law ha,Res.law hb,List.append_assoc]
      · cases h
    · cases h⟩
class Rez (ρ:Type) where
 elim:{γ:Type}→ρ→(Nat→List Lf→Option γ)→Option γ
 alt:ρ→Nat
 pack:ρ→List Lf
 law:∀{γ:Type} {p:ρ} {k:Nat→List Lf→Option γ},elim p k=k (alt p) (pack p)
instance rezOf {ρ:Type} [Res ρ]:Rez ρ:=⟨fun p k=>k 0 (Res.pack p),fun _=>0,Res.pack,rfl⟩
instance {α β:Type} [Res α] [Rez β]:Rez (α ⊕ β):=⟨fun p k=>match p with
  | .inl a=>k 0 (Res.pack a)
  | .inr b=>Rez.elim b fun i l=>k (i+1) l,fun p=>match p with
  | .inl _=>0
  | .inr b=>Rez.alt b+1,fun p=>match p with
  | .inl a=>Res.pack a
  | .inr b=>Rez.pack b,fun {γ p k}=>by
    cases p with
    | inl a=>rfl
    | inr b=>exact Rez.law⟩
def unpR (ρ:Type) [Res ρ] (l:List Lf):Option ρ:=match (Res.unp l:Option (ρ×List Lf))with
 | some (p,[])=>some p
 | _=>none
theorem unpR_some {ρ:Type} [Res ρ] {l:List Lf}{p:ρ}(h:unpR ρ l=some p):l=Res.pack p:=by
 unfold unpR at h
 split at h
 ·rename_i hu
  cases h
  rw[Res.law hu,List.append_nil]
 ·cases h
structure Site (γ:Type) where
 p:Nat
 ks:List Nat
 is:List Id
 nx:Nat
 sk:List SkA
 hk:List (List Sk)
 app:Nat→Cur γ (tyAs sk (tyOs hk))
def Site.st (s:Site γ) (lv:List Lf):Option St:=
 match encAs s.sk lv with
 | some (vs,lv)=>(match encOs s.hk lv with
  | some (os,_)=>some ⟨zipK s.ks vs,zipK s.is os,s.nx⟩
  | none=>none)
 | none=>none
def evKeep (ks:List Nat) (is:List Id) (n:Nat) (σ:St):Option (List AV×List AObj):=
 match objsAt (getH σ.heap) is with
 | none=>none
 | some os=>evR (allB (avB n) (ks.map (getS σ.slots)))<| evR (allB (fun x:Id×AObj=>match idB n x.1 with | true=>objB n x.2 | false=>false) (zipK is os)) (some (ks.map (getS σ.slots),os))
theorem keepH_objs {l:List (Id×AObj)}:∀{is:List Id}{os:List AObj},objsAt (getH l) is=some os→keepH l is=some (zipK is os)
 | [],os,h=>by cases h;rfl
 | i::is,os,h=>by
  unfold objsAt at h
  split at h
  ·rename_i o ho
   split at h
   ·rename_i r' hr
    cases h
    unfold keepH
    rw[ho,keepH_objs hr]
    rfl
   ·cases h
  ·cases h
theorem keepS_zip (l:List (Nat×AV)):∀ks:List Nat,keepS l ks=zipK ks (ks.map (getS l))
 | []=>rfl
 | k::ks=>by show (k,getS l k)::keepS l ks=(k,getS l k)::zipK ks (ks.map (getS l));rw[keepS_zip l ks]
theorem zip_all {n:Nat}(l:List (Nat×AV)):∀ks:List Nat,allB (avB n) (ks.map (getS l))=true→allB (fun x:Nat×AV=>avB n x.2) (zipK ks (ks.map (getS l)))=true
 | [],_=>rfl
 | k::ks,h=>by
  unfold List.map allB at h
  split at h
  ·rename_i hk
   show (match avB n (getS l k)with | true=>_ | false=>_)=true
   rw[hk]
   exact zip_all l ks h
  ·cases h
theorem evKeep_ok {ks:List Nat}{is:List Id}{n:Nat}{σ:St}{vs:List AV}{os:List AObj}(h:evKeep ks is n σ=some (vs,os)):∃σ',Weak σ σ'∧σ'=⟨zipK ks vs,zipK is os,n⟩:=by
 unfold evKeep at h
 split at h
 ·cases h
 ·rename_i os' ho
  obtain⟨h1,h⟩:=evR_some h
  obtain⟨h2,h⟩:=evR_some h
  cases h
  refine keep_weak (K:=fun σ'=>σ'=_) (ks:=ks) (is:=is) (n:=n) ?_
  unfold keep
  rw[keepH_objs ho,keepS_zip]
  exact req_iff.2 ⟨zip_all _ _ h1,req_iff.2 ⟨h2,rfl⟩⟩
def Site.run (s:Site γ) (n:Nat) (σ:St):Option (Option γ):=
 match evKeep s.ks s.is s.nx σ with
 | some (vs,os)=>(match decAs s.sk vs with
  | some a=>(match decOs s.hk os with
   | some b=>some (apC _ (s.app n) (a++b))
   | none=>none)
  | none=>none)
 | none=>none
theorem Site.run_ok {s:Site γ}{n:Nat}{σ:St}(h:s.run n σ=some (some r)):∃lv σ',apC _ (s.app n) lv=some r∧s.st lv=some σ'∧Weak σ σ':=by
 unfold Site.run at h
 split at h
 ·rename_i vs os hk
  split at h
  ·rename_i a ha
   split at h
   ·rename_i b hb
    obtain⟨σ',hw,rfl⟩:=evKeep_ok hk
    refine⟨_,_,Option.some.inj h,?_,hw⟩
    unfold Site.st
    rw[enc_decas ha]
    simp only[]
    rw[←List.append_nil b,enc_decos hb]
   ·cases h
  ·cases h
 ·cases h
def resOf:List (Site γ)→Nat→Nat→St→Option (Option γ)
 | [],_,_,_=>none
 | s::l,n,p,σ=>(match Nat.beq s.p p with
  | true=>(match s.run n σ with
   | some x=>some x
   | none=>resOf l n p σ)
  | false=>resOf l n p σ)
theorem resOf_ok:∀{l:List (Site γ)}{n p:Nat}{σ:St},resOf l n p σ=some (some r)→∃s∈l,s.p=p∧s.run n σ=some (some r)
 | s::l,n,p,σ,h=>by
  have rest:resOf l n p σ=some (some r)→∃s'∈s::l,s'.p=p∧s'.run n σ=some (some r):=fun h=>by
   obtain⟨s',h1,h2⟩:=resOf_ok h
   exact⟨s',List.mem_cons_of_mem _ h1,h2⟩
  unfold resOf at h
  split at h
  ·rename_i hb
   split at h
   ·rename_i x hx
    cases h
    exact⟨s,List.mem_cons_self ..,Nat.eq_of_beq_eq_true hb,hx⟩
   ·exact rest h
  ·exact rest h
 | [],_,_,_,h=>by cases h
inductive SkR where
 | one (s:SkA)
 | tup (l:List SkA)
structure RetSk where
 res:SkR
 post:List (List Sk)
 new:List (List Sk)
def decR (s:RetSk) (x:Ret):Option (List Lf):=
 match s.res,x.res with
 | .one a,.v y=>(match decA a (.v y)with
  | some l=>(match decOs s.post x.post with
   | some m=>(match decOs s.new x.new with
    | some n=>some (l++(m++n))
    | none=>none)
   | none=>none)
  | none=>none)
 | .tup ays,.t ys=>(match decAs ays (ys.map AV.v)with
  | some l=>(match decOs s.post x.post with
   | some m=>(match decOs s.new x.new with
    | some n=>some (l++(m++n))
    | none=>none)
   | none=>none)
  | none=>none)
 | _,_=>none
def v1s:List AV→Option (List V1)
 | []=>some []
 | .v x::l=>(match v1s l with
  | some m=>some (x::m)
  | none=>none)
 | _::_=>none
theorem v1s_map:∀l:List V1,v1s (l.map AV.v)=some l
 | []=>rfl
 | x::l=>by show (match v1s (l.map AV.v)with | some m=>some (x::m) | none=>none)=_;rw[v1s_map l]
def encR (s:RetSk) (lv:List Lf):Option Ret:=
 match s.res with
 | .one a=>(match encA a lv with
  | some (y,lv)=>(match encOs s.post lv with
   | some (os,lv)=>(match encOs s.new lv with
    | some (ns,_)=>some ⟨y,os,ns⟩
    | none=>none)
   | none=>none)
  | none=>none)
 | .tup ays=>(match encAs ays lv with
  | some (ys,lv)=>(match v1s ys with
   | some xs=>(match encOs s.post lv with
    | some (os,lv)=>(match encOs s.new lv with
     | some (ns,_)=>some ⟨.t xs,os,ns⟩
     | none=>none)
    | none=>none)
   | none=>none)
  | none=>none)
theorem enc_decr:∀{s:RetSk}{x:Ret}{l:List Lf},decR s x=some l→encR s l=some x
 | ⟨.one a,ps,qs⟩,⟨.v y,post,new⟩,l,h=>by
  unfold decR at h
  simp only[]at h
  split at h
  ·rename_i l1 h1
   split at h
   ·rename_i l2 h2
    split at h
    ·rename_i l3 h3
     cases h
     unfold encR
     simp only[]
     rw[enc_deca h1]
     simp only[]
     rw[enc_decos h2]
     simp only[]
     rw[←List.append_nil l3,enc_decos h3]
    ·cases h
   ·cases h
  ·cases h
 | ⟨.tup ays,ps,qs⟩,⟨.t ys,post,new⟩,l,h=>by
  unfold decR at h
  simp only[]at h
  split at h
  ·rename_i l1 h1
   split at h
   ·rename_i l2 h2
    split at h
    ·rename_i l3 h3
     cases h
     unfold encR
     simp only[]
     rw[enc_decas h1]
     simp only[]
     rw[v1s_map]
     simp only[]
     rw[enc_decos h2]
     simp only[]
     rw[←List.append_nil l3,enc_decos h3]
    ·cases h
   ·cases h
  ·cases h
 | ⟨.one _,_,_⟩,⟨.t _,_,_⟩,_,h=>by cases h
 | ⟨.tup _,_,_⟩,⟨.v _,_,_⟩,_,h=>by cases h
 | ⟨.one _,_,_⟩,⟨.u,_,_⟩,_,h=>by cases h
 | ⟨.tup _,_,_⟩,⟨.u,_,_⟩,_,h=>by cases h
def nthR:List RetSk→Nat→Option RetSk
 | [],_=>none
 | s::_,0=>some s
 | _::l,n+1=>nthR l n
structure CallE where
 f:FuncId
 args:List SkA
 pre:List (List Sk)
 ret:List RetSk
 ρ:Type
 inst:Rez ρ
 F:Nat→Cur ρ (tyAs args (tyOs pre))
def CallE.ok (P:Program) (I:Inv) (c:CallE) (n:Nat):Prop:=∀lv p,apC _ (c.F n) lv=some p→∀ays pre rk ret l1 l2,encAs c.args lv=some (ays,l1)→encOs c.pre l1=some (pre,l2)→nthR c.ret (c.inst.alt p)=some rk→encR rk (c.inst.pack p)=some ret→∀xs,v1s ays=some xs→Trip P I c.f xs pre ret.res ret.post ret.new
def callOf:List CallE→Nat→Cl γ
 | [],_,_,_,_,_=>none
 | c::l,n,f,args,pre,k=>(match Nat.beq c.f f with
  | true=>(match decAs c.args (args.map AV.v)with
   | some a=>(match decOs c.pre pre with
    | some b=>(match apC _ (c.F n) (a++b)with
     | some p=>c.inst.elim p fun i l=>(match nthR c.ret i with
      | some rk=>(match encR rk l with
       | some ret=>k ret
       | none=>none)
      | none=>none)
     | none=>none)
    | none=>callOf l n f args pre k)
   | none=>callOf l n f args pre k)
  | false=>callOf l n f args pre k)
theorem callOf_ok {P:Program}{I:Inv}{n:Nat}:∀{l:List CallE},(∀c∈l,c.ok P I n)→(callOf l n:Cl γ).ok P I
 | [],_=>fun _ _ _ _ _ h=>by cases h
 | c::l,hc=>fun f args pre k r h=>by
  have rest:=callOf_ok (P:=P) (I:=I) (n:=n) (l:=l) fun c' hc'=>hc c' (List.mem_cons_of_mem _ hc')
  unfold callOf at h
  split at h
  ·rename_i hf
   split at h
   ·rename_i a ha
    split at h
    ·rename_i b hb
     split at h
     ·rename_i p hp
      rw[c.inst.law]at h
      split at h
      ·rename_i rk hrk
       split at h
       ·rename_i ret hr
        have e1:=enc_decas ha b
        have e2:=enc_decos hb []
        rw[List.append_nil]at e2
        have:=hc c (List.mem_cons_self ..) _ _ hp _ _ _ _ _ _ e1 e2 hrk hr args (v1s_map args)
        rw[Nat.eq_of_beq_eq_true hf]at this
        exact⟨_,_,_,this,h⟩
       ·cases h
      ·cases h
     ·cases h
    ·exact rest f args pre k r h
   ·exact rest f args pre k r h
  ·exact rest f args pre k r h
def evEnd (ti:Types) (rs:List ResultVar) (np:Nat) (fin:Ret→Option γ):Kt γ
 | .exit _,_=>none
 | .normal,σ=>evFin ti rs np σ fin
 | .ret,σ=>evFin ti rs np σ fin
def envOf (ds:Ds γ) (cs:List CallE) (ss:List (Site γ)) (n:Nat):Env γ:=⟨ds,callOf cs n,resOf ss n⟩
def Site.ok (ds:Ds γ) (cs:List CallE) (ss:List (Site γ)) (ti:Types) (nt:Nat) (body:Code) (K:Kt γ) (s:Site γ):Prop:=
 (∀lv r,apC _ (s.app 0) lv≠some r)∧pathN (wayOf 60 s.p)=s.p∧∀n lv σ r,apC _ (s.app (n+1)) lv=some r→s.st lv=some σ→evFrom (envOf ds cs ss n) ti nt body K (wayOf 60 s.p) σ=some r
def finOf (s:RetSk) (out:List Lf→Option γ) (x:Ret):Option γ:=
 match decR s x with
 | some l=>out l
 | none=>none
theorem TripK.mono' {P:Program}{I:Inv}{f:FuncId}{args:List V1}{pre:List AObj}{Q Q':AV→List AObj→List AObj→Prop}(hq:∀a b c,Q a b c→Q' a b c) (h:TripK P I f args pre Q):TripK P I f args pre Q':=
 ⟨h.1,fun w X g vals k1 k2 k3 k4 k5 k6=>Calls.mono (h.2 w X g vals k1 k2 k3 k4 k5 k6) fun e w' ⟨v,g',res,post,new,q,he,hp⟩=>⟨v,g',res,post,new,hq _ _ _ q,he,hp⟩⟩
theorem engine {P:Program}{I:Inv}{ti:Types}(hti:TIok P ti) (h1:TIone ti) (hm:P.follows .mixedOrders=true) {f:FuncId}{fn:Func}{c:Code}(hf:P.funcs[f]?=some fn) (hb:fn.body=some c)
  (hname:(fn.name== "runtime.NumGoroutine")=false) {args:List V1} {pre post new:List AObj} {res:AV} {nt:Nat} (hnt:fn.ntmps=nt) (hargs:Nat.ble args.length nt=true) {rs:List ResultVar} (hrs:fn.results.toList=rs)
  {ds:Ds γ} (hd:ds.ok) {cs:List CallE} {ss:List (Site γ)} {N np:Nat} {rk:RetSk} {out:List Lf→Option γ} (hc:∀m,m≤N→∀c∈cs,c.ok P I m) (hs:∀s∈ss,s.ok ds cs ss ti nt c (evEnd ti rs np (finOf rk out)))
  (hx:evFrom (envOf ds cs ss N) ti nt c (evEnd ti rs np (finOf rk out)) [] ⟨slotsOf args 0,extsOf pre 0,0⟩=some r) (ho:∀l,out l=some r→encR rk l=some ⟨res,post,new⟩):Trip P I f args pre res post new:=by
 have main:TripK P I f args pre fun a b c=>finOf rk out ⟨a,b,c⟩=some r:=by
  refine TripK.of hti h1 hm hf hb hname hnt hargs hrs fun M hP hI=>?_
  have:=(code_ok (M:=M) (N:=N) (E:=envOf ds cs ss) (Kf:=evEnd ti rs np (finOf rk out)) (body:=c) (ti:=ti) (nt:=nt) (r:=r) (fun _ _=>hd) (fun m hm=>by rw[hP,hI];exact callOf_ok (hc m hm)) (fun m hm p σ e=>?_) c [] N (fun _=>evEnd ti rs np (finOf rk out))
   (fun e σ=>match e with
   | .exit _=>False
   | .normal=>∃res post new,finOf rk out ⟨res,post,new⟩=some r∧Fin' ti rs σ res post new
   | .ret=>∃res post new,finOf rk out ⟨res,post,new⟩=some r∧Fin' ti rs σ res post new) (Nat.le_refl _) (fun _ _=>rfl) (fun m e σ _ h=>?_)).2 _ hx
  ·exact this
  ·unfold evRest envOf at e
   simp only[]at e
   split at e
   ·rename_i x hx
    subst e
    obtain⟨s,hmem,rfl,e⟩:=resOf_ok hx
    obtain⟨lv,σ',g1,g2,g3⟩:=Site.run_ok e
    obtain⟨k1,k2,k3⟩:=hs s hmem
    cases m with
    | zero=>exact absurd g1 (k1 _ _)
    | succ m=>exact⟨m,σ',_,Nat.lt_succ_self m,g3,k2,k3 m lv σ' r g1 g2⟩
   ·cases e
  ·cases e with
   | exit id=>cases h
   | normal=>exact evFin_ok h
   | ret=>exact evFin_ok h
 refine main.mono' fun a b c h=>?_
 unfold finOf at h
 split at h
 ·rename_i l hl
  have h1:=enc_decr hl
  rw[ho l h]at h1
  cases h1
  exact⟨rfl,rfl,rfl⟩
 ·cases h
def bodyF (f:Func):Code:=match f.body with
 | some c=>c
 | none=>.skip
structure FnE where
 f:FuncId
 fn:Func
 args:List SkA
 pre:List (List Sk)
 ret:RetSk
 ρ:Type
 inst:Res ρ
 F:Nat→Cur ρ (tyAs args (tyOs pre))
 sites:List (Site ρ)
def FnE.c (x:FnE):CallE:=⟨x.f,x.args,x.pre,[x.ret],x.ρ,@rezOf x.ρ x.inst,x.F⟩
def FnE.go (ds:(γ:Type)→Ds γ) (ti:Types) (x:FnE) (cs:List CallE) (n p:Nat) (σ:Option St):Option x.ρ:=
 match σ with
 | some σ=>evFrom (envOf (ds _) cs x.sites n) ti x.fn.ntmps (bodyF x.fn) (evEnd ti x.fn.results.toList x.pre.length (finOf x.ret (@unpR x.ρ x.inst))) (wayOf 60 p) σ
 | none=>none
def FnE.st (x:FnE) (lv:List Lf):Option St:=
 match encAs x.args lv with
 | some (ays,l)=>(match v1s ays with
  | some xs=>(match encOs x.pre l with
   | some (os,_)=>some ⟨slotsOf xs 0,extsOf os 0,0⟩
   | none=>none)
  | none=>none)
 | none=>none
def noneC:(l:List Ty)→Cur γ l
 | []=>none
 | .I::l=>fun _=>noneC l
 | .B::l=>fun _=>noneC l
 | .S::l=>fun _=>noneC l
 | .L::l=>fun _=>noneC l
theorem apC_none:∀{l:List Ty}{v:List Lf},apC l (noneC (γ:=γ) l) v≠some r
 | l,v,h=>by
  have:noneC (γ:=γ) l=curC l fun _=>none:=by
   clear h
   induction l with
   | nil=>rfl
   | cons t l ih=>cases t<;>(funext z;exact ih)
  rw[this]at h
  cases apC_cur h
def EqT (γ:Type):List (Site γ)→Type
 | []=>Unit
 | s::l=>(Cur γ (tyAs s.sk (tyOs s.hk))×(Nat→Cur γ (tyAs s.sk (tyOs s.hk))))×EqT γ l
def appsOf:(l:List (Site γ))→EqT γ l
 | []=>()
 | s::l=>((s.app 0,fun n=>s.app (n+1)),appsOf l)
def goesOf (go:Nat→Nat→Option St→Option γ):(l:List (Site γ))→EqT γ l
 | []=>()
 | s::l=>((noneC _,fun n=>curC _ fun lv=>go n s.p (s.st lv)),goesOf go l)
def FnE.eqn1 (ds:(γ:Type)→Ds γ) (ti:Types) (x:FnE) (cs:List CallE):Prop:=
 appsOf x.sites=goesOf (FnE.go ds ti x cs) x.sites∧x.F=fun n=>curC _ fun lv=>FnE.go ds ti x cs n 1 (x.st lv)
theorem eqs_mem {go:Nat→Nat→Option St→Option γ}:∀{l:List (Site γ)},appsOf l=goesOf go l→∀s∈l,(s.app 0=noneC _∧(fun n=>s.app (n+1))=fun n=>curC _ fun lv=>go n s.p (s.st lv))
 | s::l,h,t,ht=>by
  have h1:=congrArg (fun x:EqT γ (s::l)=>x.1) h
  have h2:=congrArg (fun x:EqT γ (s::l)=>x.2) h
  cases ht with
  | head=>exact⟨congrArg Prod.fst h1,congrArg Prod.snd h1⟩
  | tail _ ht=>exact eqs_mem h2 t ht
 | [],_,_,ht=>by cases ht
def FnE.fits (P:Program) (x:FnE):Bool:=
 (match x.fn.body with
 | some _=>true
 | none=>false)&&!(x.fn.name== "runtime.NumGoroutine")&&Nat.ble x.args.length x.fn.ntmps&&allB (fun s:Site x.ρ=>Nat.beq (pathN (wayOf 60 s.p)) s.p) x.sites
theorem v1s_len:∀{l:List AV}{xs:List V1},v1s l=some xs→xs.length=l.length
 | [],xs,h=>by cases h;rfl
 | .v x::l,xs,h=>by
  unfold v1s at h
  split at h
  ·rename_i m hm;cases h;simp[v1s_len hm]
  ·cases h
theorem encAs_len:∀{s:List SkA}{l:List Lf}{ays:List AV}{q:List Lf},encAs s l=some (ays,q)→ays.length=s.length
 | [],l,ays,q,h=>by cases h;rfl
 | s::ss,l,ays,q,h=>by
  unfold encAs at h
  split at h
  ·split at h
   ·rename_i h2;cases h;simp[encAs_len h2]
   ·cases h
  ·cases h
theorem encOs_len:∀{s:List (List Sk)}{l:List Lf}{ays:List AObj}{q:List Lf},encOs s l=some (ays,q)→ays.length=s.length
 | [],l,ays,q,h=>by cases h;rfl
 | s::ss,l,ays,q,h=>by
  unfold encOs at h
  split at h
  ·split at h
   ·rename_i h2;cases h;simp[encOs_len h2]
   ·cases h
  ·cases h
theorem FnE.step {P:Program}{I:Inv}{ti:Types}(hti:TIok P ti) (h1:TIone ti) (hm:P.follows .mixedOrders=true) {ds:(γ:Type)→Ds γ}(hd:∀γ,(ds γ).ok) {x:FnE}{cs:List CallE}(hf:P.funcs[x.f]?=some x.fn) (hx:x.fits P=true) (he:appsOf x.sites=goesOf (FnE.go ds ti x cs) x.sites) {N:Nat}(hc:∀m,m≤N→∀c∈cs,c.ok P I m) {lv:List Lf}{p:x.ρ}(hp:FnE.go ds ti x cs N 1 (x.st lv)=some p):
  ∀ays pre ret l1 l2,encAs x.args lv=some (ays,l1)→encOs x.pre l1=some (pre,l2)→encR x.ret (x.inst.pack p)=some ret→∀xs,v1s ays=some xs→Trip P I x.f xs pre ret.res ret.post ret.new:=by
 intro ays pre ret l1 l2 e1 e2 e3 xs e4
 unfold FnE.fits at hx
 simp only[Bool.and_eq_true,Bool.not_eq_true']at hx
 obtain⟨⟨⟨g1,g2⟩,g3⟩,g4⟩:=hx
 obtain⟨c,hb⟩:∃c,x.fn.body=some c:=by
  cases hb:x.fn.body with
  | none=>rw[hb]at g1;cases g1
  | some c=>exact⟨c,rfl⟩
 have hbody:bodyF x.fn=c:=by unfold bodyF;rw[hb]
 have hst:x.st lv=some ⟨slotsOf xs 0,extsOf pre 0,0⟩:=by unfold FnE.st;rw[e1];simp only[e4,e2]
 rw[hst]at hp
 unfold FnE.go at hp
 simp only[]at hp
 have hpre:x.pre.length=pre.length:=(encOs_len e2).symm
 refine engine (γ:=x.ρ) (r:=p) (N:=N) (np:=x.pre.length) (rk:=x.ret) (out:=@unpR x.ρ x.inst) (ss:=x.sites) hti h1 hm hf hb g2 rfl (by rw[v1s_len e4,encAs_len e1];exact g3) rfl (hd _) hc (fun s hs=>?_) (by rw[←hbody];exact hp) (fun l hl=>?_)
 ·obtain⟨k1,k2⟩:=eqs_mem he s hs
  refine⟨fun lv r=>by rw[k1];exact apC_none,?_,fun n lv σ r q1 q2=>?_⟩
  ·exact Nat.eq_of_beq_eq_true (allB_iff.1 g4 s hs)
  ·rw[show s.app (n+1)=_ from congrFun k2 n]at q1
   have:=apC_cur q1
   rw[q2]at this
   rw[←hbody]
   exact this
 ·have:=@unpR_some _ x.inst _ _ hl
  rw[this,e3]
theorem FnE.ok_c {P:Program}{I:Inv}{x:FnE}{n:Nat}(h:∀lv p,apC _ (x.F n) lv=some p→∀ays pre ret l1 l2,encAs x.args lv=some (ays,l1)→encOs x.pre l1=some (pre,l2)→encR x.ret (x.inst.pack p)=some ret→∀xs,v1s ays=some xs→Trip P I x.f xs pre ret.res ret.post ret.new):x.c.ok P I n:=by
 intro lv p hp ays pre rk ret l1 l2 e1 e2 e3 e4 xs e5
 have:some x.ret=some rk:=e3
 cases this
 exact h lv p hp ays pre ret l1 l2 e1 e2 e4 xs e5
def allOk (P:Program) (I:Inv):List CallE→Prop
 | []=>True
 | c::l=>(∀n,c.ok P I n)∧allOk P I l
theorem allOk_mem {P:Program}{I:Inv}:∀{l:List CallE},allOk P I l→∀c∈l,∀n,c.ok P I n
 | c::l,h,d,hd=>by
  cases hd with
  | head=>exact h.1
  | tail _ hd=>exact allOk_mem h.2 d hd
 | [],_,_,hd=>by cases hd
theorem single {P:Program}{I:Inv}{ti:Types}(hti:TIok P ti) (h1:TIone ti) (hm:P.follows .mixedOrders=true) {ds:(γ:Type)→Ds γ}(hd:∀γ,(ds γ).ok) {x:FnE}{cs:List CallE}(hc:allOk P I cs) (hf:P.funcs[x.f]?=some x.fn) (hx:x.fits P=true) (he:x.eqn1 ds ti cs) (n:Nat):x.c.ok P I n:=by
 refine FnE.ok_c fun lv p hp=>?_
 rw[show x.F n=_ from congrFun he.2 n]at hp
 exact FnE.step hti h1 hm hd hf hx he.1 (fun m _ c hcm=>allOk_mem hc c hcm m) (apC_cur hp)
end
end Go.AM
namespace Go.AM
open Go Go.RowKit
noncomputable section
variable {γ:Type}{r:γ}
inductive Sj where
 | int (k:IntKind)
 | bool
 | str
 | list (ag:Bool) (sz:Nat)
 | tl (ag:Bool) (sz:Nat)
 | ci (k:IntKind) (z:Int)
 | cb (b:Bool)
 | cs (s:ByteArray)
 | el (ag:Bool) (sz:Nat)
 | nils (ag:Bool) (sz:Nat)
 | nilp
 | nilm
 | nilf
 | un
 | ptr (i:Id) (o:Nat)
 | ow (i:Id)
 | fn (f:Nat) (cap:List Id)
 | bm (f:Nat) (i:Id)
inductive SjA where
 | one (s:Sj)
 | agg (l:List Sj)
 | mix (l:List Sj)
inductive SjO where
 | c (l:List Sj)
 | t (k:Kd) (ag:Bool) (sz:Nat)
 | gone
abbrev Sj.z:Sj:=.int .i64
abbrev Sj.y:Sj:=.int .u8
abbrev Sj.k (z:Int):Sj:=.ci .i64 z
abbrev Sj.q (n:Nat):Sj:=.list true n
abbrev Sj.f (n:Nat):Sj:=.list false n
abbrev SjA.z:SjA:=.one .z
abbrev SjA.y:SjA:=.one .y
abbrev SjA.b:SjA:=.one .bool
abbrev SjA.s:SjA:=.one .str
abbrev SjA.k (z:Int):SjA:=.one (.k z)
abbrev SjA.q (n:Nat):SjA:=.one (.q n)
abbrev SjA.f (n:Nat):SjA:=.one (.f n)
abbrev SjA.p (i:Id) (n:Nat):SjA:=.one (.ptr i n)
abbrev SjA.w (i:Id):SjA:=.one (.ow i)
abbrev SjO.l (ag:Bool) (sz:Nat):SjO:=.t .row ag sz
def eqKo:Kd→Kd→Bool
 | .row,.row=>true
 | .flat,.flat=>true
 | .box,.box=>true
 | .map,.map=>true
 | .fmap a,.fmap b=>a==b
 | _,_=>false
theorem eqKo_ok {a b:Kd}(h:eqKo a b=true):a=b:=by
 cases a<;>cases b<;>first | rfl | (cases h;done) | (rw[eq_of_beq (show (_==_)=true from h)])
def decJ:Sj→CV→Option (List Lf)
 | .int k,.d (.int k' z)=>andO (eqKd k k') (some [.I z])
 | .bool,.d (.bool b)=>some [.B b]
 | .str,.d (.str s)=>some [.S s]
 | .list ag sz,.d (.list ag' sz' l)=>andO (ag==ag') (andO (Nat.beq sz sz') (some [.L l]))
 | .tl ag sz,.tl ag' sz' l=>andO (ag==ag') (andO (Nat.beq sz sz') (some [.L l]))
 | .ci k z,.d (.int k' z')=>andO (eqKd k k') (andO (eqZ z z') (some []))
 | .cb b,.d (.bool b')=>andO (b==b') (some [])
 | .cs s,.d (.str s')=>andO (eqU s.data.toList s'.data.toList) (some [])
 | .el ag sz,.d (.list ag' sz' [])=>andO (ag==ag') (andO (Nat.beq sz sz') (some []))
 | .nils ag sz,.nils ag' sz'=>andO (ag==ag') (andO (Nat.beq sz sz') (some []))
 | .nilp,.nilp=>some []
 | .nilm,.nilm=>some []
 | .nilf,.nilf=>some []
 | .un,.un=>some []
 | .ptr i o,.ptr i' o'=>andO (Id.beq i i') (andO (Nat.beq o o') (some []))
 | .ow i,.ow i'=>andO (Id.beq i i') (some [])
 | .fn f c,.fn f' c'=>andO (Nat.beq f f') (andO (eqIds c c') (some []))
 | .bm f i,.bm f' i'=>andO (Nat.beq f f') (andO (Id.beq i i') (some []))
 | _,_=>none
def encJ:Sj→List Lf→Option (CV×List Lf)
 | .int k,.I z::r=>some (.d (.int k z),r)
 | .bool,.B b::r=>some (.d (.bool b),r)
 | .str,.S s::r=>some (.d (.str s),r)
 | .list ag sz,.L l::r=>some (.d (.list ag sz l),r)
 | .tl ag sz,.L l::r=>some (.tl ag sz l,r)
 | .ci k z,r=>some (.d (.int k z),r)
 | .cb b,r=>some (.d (.bool b),r)
 | .cs s,r=>some (.d (.str s),r)
 | .el ag sz,r=>some (.d (.list ag sz []),r)
 | .nils ag sz,r=>some (.nils ag sz,r)
 | .nilp,r=>some (.nilp,r)
 | .nilm,r=>some (.nilm,r)
 | .nilf,r=>some (.nilf,r)
 | .un,r=>some (.un,r)
 | .ptr i o,r=>some (.ptr i o,r)
 | .ow i,r=>some (.ow i,r)
 | .fn f c,r=>some (.fn f c,r)
 | .bm f i,r=>some (.bm f i,r)
 | _,_=>none
theorem enc_decJ {s:Sj}{c:CV}{l:List Lf}(h:decJ s c=some l) (rest:List Lf):encJ s (l++rest)=some (c,rest):=by
 unfold decJ at h
 split at h
 ·obtain⟨h1,h⟩:=andO_some h
  cases h
  rw[show _=_ from of_decide_eq_true h1];rfl
 ·cases h;rfl
 ·cases h;rfl
 ·obtain⟨h1,h⟩:=andO_some h
  obtain⟨h2,h⟩:=andO_some h
  cases h
  rw[eq_of_beq h1,Nat.eq_of_beq_eq_true h2];rfl
 ·obtain⟨h1,h⟩:=andO_some h
  obtain⟨h2,h⟩:=andO_some h
  cases h
  rw[eq_of_beq h1,Nat.eq_of_beq_eq_true h2];rfl
 ·obtain⟨h1,h⟩:=andO_some h
  obtain⟨h2,h⟩:=andO_some h
  cases h
  rw[show _=_ from of_decide_eq_true h1,eqZ_ok h2];rfl
 ·obtain⟨h1,h⟩:=andO_some h
  cases h
  rw[eq_of_beq h1];rfl
 ·obtain⟨h1,h⟩:=andO_some h
  cases h
  rw[eqBs_ok h1];rfl
 ·obtain⟨h1,h⟩:=andO_some h
  obtain⟨h2,h⟩:=andO_some h
  cases h
  rw[eq_of_beq h1,Nat.eq_of_beq_eq_true h2];rfl
 ·obtain⟨h1,h⟩:=andO_some h
  obtain⟨h2,h⟩:=andO_some h
  cases h
  rw[eq_of_beq h1,Nat.eq_of_beq_eq_true h2];rfl
 ·cases h;rfl
 ·cases h;rfl
 ·cases h;rfl
 ·cases h;rfl
 ·obtain⟨h1,h⟩:=andO_some h
  obtain⟨h2,h⟩:=andO_some h
  cases h
  rw[Id.beq_iff.1 h1,Nat.eq_of_beq_eq_true h2];rfl
 ·obtain⟨h1,h⟩:=andO_some h
  cases h
  rw[Id.beq_iff.1 h1];rfl
 ·obtain⟨h1,h⟩:=andO_some h
  obtain⟨h2,h⟩:=andO_some h
  cases h
  rw[Nat.eq_of_beq_eq_true h1,eqIds_ok h2];rfl
 ·obtain⟨h1,h⟩:=andO_some h
  obtain⟨h2,h⟩:=andO_some h
  cases h
  rw[Nat.eq_of_beq_eq_true h1,Id.beq_iff.1 h2];rfl
 ·cases h
def decCsY:List Sj→List CV→Option (List Lf)
 | [],[]=>some []
 | s::ss,c::cs=>(match decJ s c with
  | some l=>(match decCsY ss cs with
   | some m=>some (l++m)
   | none=>none)
  | none=>none)
 | _,_=>none
def encCsY:List Sj→List Lf→Option (List CV×List Lf)
 | [],r=>some ([],r)
 | s::ss,r=>(match encJ s r with
  | some (c,r)=>(match encCsY ss r with
   | some (cs,r)=>some (c::cs,r)
   | none=>none)
  | none=>none)
theorem enc_decsY:∀{s:List Sj}{c:List CV}{l:List Lf},decCsY s c=some l→∀rest,encCsY s (l++rest)=some (c,rest)
 | [],[],l,h,rest=>by cases h;rfl
 | s::ss,c::cs,l,h,rest=>by
  unfold decCsY at h
  split at h
  ·rename_i a ha
   split at h
   ·rename_i b hb
    cases h
    unfold encCsY
    rw[List.append_assoc,enc_decJ ha]
    simp only[]
    rw[enc_decsY hb]
   ·cases h
  ·cases h
 | [],_::_,_,h,_=>by cases h
 | _::_,[],_,h,_=>by cases h
def decAY:SjA→AV→Option (List Lf)
 | .one s,.v (.d (.agg _))=>none
 | .one s,.v (.d x)=>decJ s (.d x)
 | .one s,.v (.c (.d _))=>none
 | .one s,.v (.c x)=>decJ s x
 | .agg ss,.v (.d (.agg cs))=>decCsY ss (cs.map CV.d)
 | .mix ss,.v (.agg cs)=>decCsY ss cs
 | _,_=>none
def encAY:SjA→List Lf→Option (AV×List Lf)
 | .one s,r=>(match encJ s r with
  | some (.d x,r)=>some (.v (.d x),r)
  | some (c,r)=>some (.v (.c c),r)
  | none=>none)
 | .agg ss,r=>(match encCsY ss r with
  | some (cs,r)=>(match dsOf cs with
   | some ds=>some (.v (.d (.agg ds)),r)
   | none=>none)
  | none=>none)
 | .mix ss,r=>(match encCsY ss r with
  | some (cs,r)=>some (.v (.agg cs),r)
  | none=>none)
theorem enc_decaY {s:SjA}{c:AV}{l:List Lf}(h:decAY s c=some l) (rest:List Lf):encAY s (l++rest)=some (c,rest):=by
 unfold decAY at h
 split at h
 ·cases h
 ·unfold encAY;simp only[];rw[enc_decJ h]
 ·cases h
 ·rename_i x hx
  unfold encAY
  simp only[]
  rw[enc_decJ h]
  cases x<;>first | rfl | exact absurd rfl (hx _)
 ·unfold encAY;simp only[];rw[enc_decsY h];simp only[];rw[dsOf_map]
 ·unfold encAY;simp only[];rw[enc_decsY h]
 ·cases h
def decAsY:List SjA→List AV→Option (List Lf)
 | [],[]=>some []
 | s::ss,c::cs=>(match decAY s c with
  | some l=>(match decAsY ss cs with
   | some m=>some (l++m)
   | none=>none)
  | none=>none)
 | _,_=>none
def encAsY:List SjA→List Lf→Option (List AV×List Lf)
 | [],r=>some ([],r)
 | s::ss,r=>(match encAY s r with
  | some (c,r)=>(match encAsY ss r with
   | some (cs,r)=>some (c::cs,r)
   | none=>none)
  | none=>none)
theorem enc_decasY:∀{s:List SjA}{c:List AV}{l:List Lf},decAsY s c=some l→∀rest,encAsY s (l++rest)=some (c,rest)
 | [],[],l,h,rest=>by cases h;rfl
 | s::ss,c::cs,l,h,rest=>by
  unfold decAsY at h
  split at h
  ·rename_i a ha
   split at h
   ·rename_i b hb
    cases h
    unfold encAsY
    rw[List.append_assoc,enc_decaY ha]
    simp only[]
    rw[enc_decasY hb]
   ·cases h
  ·cases h
 | [],_::_,_,h,_=>by cases h
 | _::_,[],_,h,_=>by cases h
def decOY:SjO→AObj→Option (List Lf)
 | .c s,.cells cs=>decCsY s cs
 | .t k ag sz,.tree k' ag' sz' rows none=>andO (eqKo k k') (andO (ag==ag') (andO (Nat.beq sz sz') (some [.L rows])))
 | .gone,.gone=>some []
 | _,_=>none
def encOY:SjO→List Lf→Option (AObj×List Lf)
 | .c s,r=>(match encCsY s r with
  | some (cs,r)=>some (.cells cs,r)
  | none=>none)
 | .t k ag sz,.L l::r=>some (.tree k ag sz l none,r)
 | .gone,r=>some (.gone,r)
 | _,_=>none
theorem enc_decoY {s:SjO}{c:AObj}{l:List Lf}(h:decOY s c=some l) (rest:List Lf):encOY s (l++rest)=some (c,rest):=by
 unfold decOY at h
 split at h
 ·unfold encOY;simp only[];rw[enc_decsY h]
 ·obtain⟨h1,h⟩:=andO_some h
  obtain⟨h2,h⟩:=andO_some h
  obtain⟨h3,h⟩:=andO_some h
  cases h
  rw[eqKo_ok h1,eq_of_beq h2,Nat.eq_of_beq_eq_true h3];rfl
 ·cases h;rfl
 ·cases h
def decOsY:List SjO→List AObj→Option (List Lf)
 | [],[]=>some []
 | s::ss,o::os=>(match decOY s o with
  | some l=>(match decOsY ss os with
   | some m=>some (l++m)
   | none=>none)
  | none=>none)
 | _,_=>none
def encOsY:List SjO→List Lf→Option (List AObj×List Lf)
 | [],r=>some ([],r)
 | s::ss,r=>(match encOY s r with
  | some (c,r)=>(match encOsY ss r with
   | some (os,r)=>some (c::os,r)
   | none=>none)
  | none=>none)
theorem enc_decosY:∀{s:List SjO}{c:List AObj}{l:List Lf},decOsY s c=some l→∀rest,encOsY s (l++rest)=some (c,rest)
 | [],[],l,h,rest=>by cases h;rfl
 | s::ss,c::cs,l,h,rest=>by
  unfold decOsY at h
  split at h
  ·rename_i a ha
   split at h
   ·rename_i b hb
    cases h
    unfold encOsY
    rw[List.append_assoc,enc_decoY ha]
    simp only[]
    rw[enc_decosY hb]
   ·cases h
  ·cases h
 | [],_::_,_,h,_=>by cases h
 | _::_,[],_,h,_=>by cases h
def tyCY:Sj→List Ty→List Ty
 | .int _,l=>.I::l
 | .bool,l=>.B::l
 | .str,l=>.S::l
 | .list _ _,l=>.L::l
 | .tl _ _,l=>.L::l
 | _,l=>l
def tyCsY:List Sj→List Ty→List Ty
 | [],l=>l
 | s::ss,l=>tyCY s (tyCsY ss l)
def tyAsY:List SjA→List Ty→List Ty
 | [],l=>l
 | s::ss,l=>(match s with
  | .one c=>tyCY c (tyAsY ss l)
  | .agg cs=>tyCsY cs (tyAsY ss l)
  | .mix cs=>tyCsY cs (tyAsY ss l))
def tyOsY:List SjO→List Ty
 | []=>[]
 | s::ss=>(match s with
  | .c l=>tyCsY l (tyOsY ss)
  | .t _ _ _=>.L::tyOsY ss
  | .gone=>tyOsY ss)
class Rz (ρ:Type) where
 elim:{γ:Type}→ρ→(Nat→List Lf→Option γ)→Option γ
 make:Nat→List Lf→Option ρ
 alt:ρ→Nat
 pack:ρ→List Lf
 law:∀{γ:Type} {p:ρ} {k:Nat→List Lf→Option γ},elim p k=k (alt p) (pack p)
 law2:∀{i:Nat} {l:List Lf} {p:ρ},make i l=some p→alt p=i∧pack p=l
instance rzOf {ρ:Type} [Res ρ]:Rz ρ:=⟨fun p k=>k 0 (Res.pack p),fun i l=>match i with
 | 0=>unpR ρ l
 | _+1=>none,fun _=>0,Res.pack,rfl,fun {i l p} h=>by
  cases i with
  | zero=>exact⟨rfl,(unpR_some h).symm⟩
  | succ i=>cases h⟩
instance rzSum {α β:Type} [Res α] [Rz β]:Rz (α ⊕ β):=⟨fun p k=>match p with
 | .inl a=>k 0 (Res.pack a)
 | .inr b=>Rz.elim b fun i l=>k (i+1) l,fun i l=>match i with
 | 0=>(match unpR α l with
  | some a=>some (.inl a)
  | none=>none)
 | i+1=>(match Rz.make i l with
  | some b=>some (.inr b)
  | none=>none),fun p=>match p with
 | .inl _=>0
 | .inr b=>Rz.alt b+1,fun p=>match p with
 | .inl a=>Res.pack a
 | .inr b=>Rz.pack b,fun {γ p k}=>by
  cases p with
  | inl a=>rfl
  | inr b=>exact Rz.law,fun {i l p} h=>by
  cases i with
  | zero=>
   simp only[]at h
   split at h
   ·rename_i a ha;cases h;exact⟨rfl,(unpR_some ha).symm⟩
   ·cases h
  | succ i=>
   simp only[]at h
   split at h
   ·rename_i b hb
    cases h
    obtain⟨h1,h2⟩:=Rz.law2 hb
    exact⟨by show Rz.alt b+1=_;rw[h1],h2⟩
   ·cases h⟩
structure SiteY (γ:Type) where
 p:Nat
 ks:List Nat
 is:List Id
 nx:Nat
 sk:List SjA
 hk:List SjO
 app:Nat→Cur γ (tyAsY sk (tyOsY hk))
 pl:Pl
def SiteY.st (s:SiteY γ) (lv:List Lf):Option St:=
 match encAsY s.sk lv with
 | some (vs,lv)=>(match encOsY s.hk lv with
  | some (os,_)=>some ⟨zipK s.ks vs,zipK s.is os,s.nx⟩
  | none=>none)
 | none=>none
def evKeepR (ks:List Nat) (is:List Id) (n:Nat) (l:List (Nat×Nat)) (σ:St):Option (List AV×List AObj):=
 match objsAt (getH σ.heap) (is.map (backF l))with
 | none=>none
 | some os=>evR (eqIds ((is.map (backF l)).map (invF l)) is)<| evR (allB (avP (okId l n)) (ks.map (getS σ.slots)))<| evR (allB (fun x:Id×AObj=>match okId l n x.1 with | true=>objP (okId l n) x.2 | false=>false) (zipK (is.map (backF l)) os))<|
   some ((ks.map (getS σ.slots)).map (AV.ren (invF l)),os.map (AObj.ren (invF l)))
theorem zipK_renS (l:List (Nat×Nat)):∀(ks:List Nat) (vs:List AV),renS l (zipK ks vs)=zipK ks (vs.map (AV.ren (invF l)))
 | [],_=>rfl
 | _::_,[]=>rfl
 | k::ks,v::vs=>by show (k,v.ren (invF l))::renS l (zipK ks vs)=_;rw[zipK_renS l ks vs];rfl
theorem zipK_renH (l:List (Nat×Nat)):∀(ks:List Id) (vs:List AObj),renH l (zipK ks vs)=zipK (ks.map (invF l)) (vs.map (AObj.ren (invF l)))
 | [],_=>rfl
 | _::_,[]=>rfl
 | k::ks,v::vs=>by show (invF l k,v.ren (invF l))::renH l (zipK ks vs)=_;rw[zipK_renH l ks vs];rfl
theorem zip_allR {p:AV→Bool}(l:List (Nat×AV)):∀ks:List Nat,allB p (ks.map (getS l))=true→allB (fun x:Nat×AV=>p x.2) (zipK ks (ks.map (getS l)))=true
 | [],_=>rfl
 | k::ks,h=>by
  unfold List.map allB at h
  split at h
  ·rename_i hk
   show (match p (getS l k)with | true=>_ | false=>_)=true
   rw[hk]
   exact zip_allR l ks h
  ·cases h
theorem evKeepR_ok {ks:List Nat}{is:List Id}{n:Nat}{l:List (Nat×Nat)}{σ:St}{vs:List AV}{os:List AObj}(h:evKeepR ks is n l σ=some (vs,os)):∃σ',Weak σ σ'∧σ'=⟨zipK ks vs,zipK is os,n⟩:=by
 unfold evKeepR at h
 split at h
 ·cases h
 ·rename_i os' ho
  obtain⟨h0,h⟩:=evR_some h
  obtain⟨h1,h⟩:=evR_some h
  obtain⟨h2,h⟩:=evR_some h
  cases h
  refine keepR_weak (K:=fun σ'=>σ'=_) (ks:=ks) (is:=is.map (backF l)) (n:=n) (l:=l) ?_
  unfold keepR
  rw[keepH_objs ho,keepS_zip]
  refine req_iff.2 ⟨zip_allR _ _ h1,req_iff.2 ⟨h2,?_⟩⟩
  rw[zipK_renS,zipK_renH,eqIds_ok h0]
def SiteY.run (s:SiteY γ) (n:Nat) (l:List (Nat×Nat)) (σ:St):Option (Option γ):=
 match evKeepR s.ks s.is s.nx l σ with
 | some (vs,os)=>(match decAsY s.sk vs with
  | some a=>(match decOsY s.hk os with
   | some b=>some (apC _ (s.app n) (a++b))
   | none=>none)
  | none=>none)
 | none=>none
theorem SiteY.run_ok {s:SiteY γ}{n:Nat}{l:List (Nat×Nat)}{σ:St}(h:s.run n l σ=some (some r)):∃lv σ',apC _ (s.app n) lv=some r∧s.st lv=some σ'∧Weak σ σ':=by
 unfold SiteY.run at h
 split at h
 ·rename_i vs os hk
  split at h
  ·rename_i a ha
   split at h
   ·rename_i b hb
    obtain⟨σ',hw,rfl⟩:=evKeepR_ok hk
    refine⟨_,_,Option.some.inj h,?_,hw⟩
    unfold SiteY.st
    rw[enc_decasY ha]
    simp only[]
    rw[←List.append_nil b,enc_decosY hb]
   ·cases h
  ·cases h
 ·cases h
def resOfY:List (SiteY γ)→Nat→Nat→List (Nat×Nat)→St→Option γ
 | [],_,_,_,_=>none
 | s::l,n,p,rn,σ=>(match Nat.beq s.p p with
  | true=>(match s.run n rn σ with
   | some x=>x
   | none=>resOfY l n p rn σ)
  | false=>resOfY l n p rn σ)
theorem resOf_okY:∀{l:List (SiteY γ)}{n p:Nat}{rn:List (Nat×Nat)}{σ:St},resOfY l n p rn σ=some r→∃s∈l,s.p=p∧s.run n rn σ=some (some r)
 | s::l,n,p,rn,σ,h=>by
  have rest:resOfY l n p rn σ=some r→∃s'∈s::l,s'.p=p∧s'.run n rn σ=some (some r):=fun h=>by
   obtain⟨s',h1,h2⟩:=resOf_okY h
   exact⟨s',List.mem_cons_of_mem _ h1,h2⟩
  unfold resOfY at h
  split at h
  ·rename_i hb
   split at h
   ·rename_i x hx
    exact⟨s,List.mem_cons_self ..,Nat.eq_of_beq_eq_true hb,by rw[hx,h]⟩
   ·exact rest h
  ·exact rest h
 | [],_,_,_,_,h=>by cases h
def hasOf:List (SiteY γ)→Nat→Bool
 | [],_=>false
 | s::l,p=>(match Nat.beq s.p p with
  | true=>true
  | false=>hasOf l p)
def restOf (ss:List (SiteY γ)) (n p:Nat) (tk:Tk) (σ:St):Option γ:=evGh tk.gs σ fun σ'=>resOfY ss n p tk.l σ'
theorem restOf_ok {ss:List (SiteY γ)}{n p:Nat}{tk:Tk}{σ:St}(h:restOf ss n p tk σ=some r):∃σ1,Weak σ σ1∧∃s∈ss,s.p=p∧s.run n tk.l σ1=some (some r):=by
 obtain⟨σ1,hw,h⟩:=gh_weak (evGh_ok (P:=fun σ'=>resOfY ss n p tk.l σ'=some r) (fun σ h=>h) h)
 exact⟨σ1,hw,resOf_okY h⟩
inductive SkRY where
 | one (s:SjA)
 | tup (l:List SjA)
structure RetSkY where
 res:SkRY
 post:List SjO
 new:List SjO
def decRY (s:RetSkY) (x:Ret):Option (List Lf):=
 match s.res,x.res with
 | .one a,.v y=>(match decAY a (.v y)with
  | some l=>(match decOsY s.post x.post with
   | some m=>(match decOsY s.new x.new with
    | some n=>some (l++(m++n))
    | none=>none)
   | none=>none)
  | none=>none)
 | .tup ays,.t ys=>(match decAsY ays (ys.map AV.v)with
  | some l=>(match decOsY s.post x.post with
   | some m=>(match decOsY s.new x.new with
    | some n=>some (l++(m++n))
    | none=>none)
   | none=>none)
  | none=>none)
 | _,_=>none
def encRY (s:RetSkY) (lv:List Lf):Option Ret:=
 match s.res with
 | .one a=>(match encAY a lv with
  | some (y,lv)=>(match encOsY s.post lv with
   | some (os,lv)=>(match encOsY s.new lv with
    | some (ns,_)=>some ⟨y,os,ns⟩
    | none=>none)
   | none=>none)
  | none=>none)
 | .tup ays=>(match encAsY ays lv with
  | some (ys,lv)=>(match v1s ys with
   | some xs=>(match encOsY s.post lv with
    | some (os,lv)=>(match encOsY s.new lv with
     | some (ns,_)=>some ⟨.t xs,os,ns⟩
     | none=>none)
    | none=>none)
   | none=>none)
  | none=>none)
theorem enc_decrY:∀{s:RetSkY}{x:Ret}{l:List Lf},decRY s x=some l→encRY s l=some x
 | ⟨.one a,ps,qs⟩,⟨.v y,post,new⟩,l,h=>by
  unfold decRY at h
  simp only[]at h
  split at h
  ·rename_i l1 h1
   split at h
   ·rename_i l2 h2
    split at h
    ·rename_i l3 h3
     cases h
     unfold encRY
     simp only[]
     rw[enc_decaY h1]
     simp only[]
     rw[enc_decosY h2]
     simp only[]
     rw[←List.append_nil l3,enc_decosY h3]
    ·cases h
   ·cases h
  ·cases h
 | ⟨.tup ays,ps,qs⟩,⟨.t ys,post,new⟩,l,h=>by
  unfold decRY at h
  simp only[]at h
  split at h
  ·rename_i l1 h1
   split at h
   ·rename_i l2 h2
    split at h
    ·rename_i l3 h3
     cases h
     unfold encRY
     simp only[]
     rw[enc_decasY h1]
     simp only[]
     rw[v1s_map]
     simp only[]
     rw[enc_decosY h2]
     simp only[]
     rw[←List.append_nil l3,enc_decosY h3]
    ·cases h
   ·cases h
  ·cases h
 | ⟨.one _,_,_⟩,⟨.t _,_,_⟩,_,h=>by cases h
 | ⟨.tup _,_,_⟩,⟨.v _,_,_⟩,_,h=>by cases h
 | ⟨.one _,_,_⟩,⟨.u,_,_⟩,_,h=>by cases h
 | ⟨.tup _,_,_⟩,⟨.u,_,_⟩,_,h=>by cases h
def nthRY:List RetSkY→Nat→Option RetSkY
 | [],_=>none
 | s::_,0=>some s
 | _::l,n+1=>nthRY l n
structure CallEY where
 f:FuncId
 args:List SjA
 pre:List SjO
 ret:List RetSkY
 ρ:Type
 inst:Rz ρ
 F:Nat→Cur ρ (tyAsY args (tyOsY pre))
def CallEY.ok (P:Program) (I:Inv) (c:CallEY) (n:Nat):Prop:=∀lv p,apC _ (c.F n) lv=some p→∀ays pre rk ret l1 l2,encAsY c.args lv=some (ays,l1)→encOsY c.pre l1=some (pre,l2)→nthRY c.ret (c.inst.alt p)=some rk→encRY rk (c.inst.pack p)=some ret→∀xs,v1s ays=some xs→Trip P I c.f xs pre ret.res ret.post ret.new
def callOfY:List CallEY→Nat→ClP γ
 | [],_,_,_,_,_=>none
 | c::l,n,f,args,pre,k=>(match Nat.beq c.f f with
  | true=>(match decAsY c.args (args.map AV.v)with
   | some a=>(match decOsY c.pre pre with
    | some b=>(match apC _ (c.F n) (a++b)with
     | some p=>c.inst.elim p fun i l=>(match nthRY c.ret i with
      | some rk=>(match encRY rk l with
       | some ret=>k i ret
       | none=>none)
      | none=>none)
     | none=>none)
    | none=>callOfY l n f args pre k)
   | none=>callOfY l n f args pre k)
  | false=>callOfY l n f args pre k)
theorem callOf_okY {P:Program}{I:Inv}{n:Nat}:∀{l:List CallEY},(∀c∈l,c.ok P I n)→(callOfY l n:ClP γ).ok P I
 | [],_=>fun _ _ _ _ _ h=>by cases h
 | c::l,hc=>fun f args pre k r h=>by
  have rest:=callOf_okY (P:=P) (I:=I) (n:=n) (l:=l) fun c' hc'=>hc c' (List.mem_cons_of_mem _ hc')
  unfold callOfY at h
  split at h
  ·rename_i hf
   split at h
   ·rename_i a ha
    split at h
    ·rename_i b hb
     split at h
     ·rename_i p hp
      rw[c.inst.law]at h
      split at h
      ·rename_i rk hrk
       split at h
       ·rename_i ret hr
        have e1:=enc_decasY ha b
        have e2:=enc_decosY hb []
        rw[List.append_nil]at e2
        have:=hc c (List.mem_cons_self ..) _ _ hp _ _ _ _ _ _ e1 e2 hrk hr args (v1s_map args)
        rw[Nat.eq_of_beq_eq_true hf]at this
        exact⟨_,_,_,_,this,h⟩
       ·cases h
      ·cases h
     ·cases h
    ·exact rest f args pre k r h
   ·exact rest f args pre k r h
  ·exact rest f args pre k r h
def evFinY (ti:Types) (rs:List ResultVar) (np:Nat) (σ:St) (fin:Ret→Option γ):Option γ:=
 match evRes ti σ rs with
 | none=>none
 | some xs=>(match objsAt (getH σ.heap) (extsL 0 np),objsAt (getH σ.heap) (locsOf (reach2 (getH σ.heap) 100 (idsVs2 xs++extsL 0 np) []))with
  | some ps,some ns=>evR (nodupB (locsOf (reach2 (getH σ.heap) 100 (idsVs2 xs++extsL 0 np) [])))<|
    evR (avP (backO (locsOf (reach2 (getH σ.heap) 100 (idsVs2 xs++extsL 0 np) [])) σ.next) (mkRes xs))<| evR (allB (objP (backO (locsOf (reach2 (getH σ.heap) 100 (idsVs2 xs++extsL 0 np) [])) σ.next)) ps)<|
    evR (allB (objP (backO (locsOf (reach2 (getH σ.heap) 100 (idsVs2 xs++extsL 0 np) [])) σ.next)) ns)<|
    fin ⟨(mkRes xs).ren (outId (locsOf (reach2 (getH σ.heap) 100 (idsVs2 xs++extsL 0 np) []))),ps.map (AObj.ren (outId (locsOf (reach2 (getH σ.heap) 100 (idsVs2 xs++extsL 0 np) [])))),ns.map (AObj.ren (outId (locsOf (reach2 (getH σ.heap) 100 (idsVs2 xs++extsL 0 np) []))))⟩
  | _,_=>none)
theorem TripK.one {P:Program}{I:Inv}{f:FuncId}{args:List V1}{pre post new:List AObj}{res:AV}{Q:AV→List AObj→List AObj→Prop}(h:Trip P I f args pre res post new) (hQ:Q res post new):TripK P I f args pre Q:=
 TripK.mono' (fun a b c e=>by obtain⟨rfl,rfl,rfl⟩:=e;exact hQ) h
theorem evCloseL_end {f:{γ:Type}→CV→(D→List Id→Option γ)→Option γ}(hf:∀{γ:Type}{r:γ}(c:CV) (K:D→List Id→Option γ),f c K=some r→∃d is,K d is=some r∧∀{γ':Type}(K':D→List Id→Option γ') (r':γ'),K' d is=some r'→f c K'=some r'):
  ∀{l:List CV} {K:List D→List Id→Option γ},evCloseL f l K=some r→∃d is,K d is=some r∧∀{γ':Type} (K':List D→List Id→Option γ') (r':γ'),K' d is=some r'→evCloseL f l K'=some r'
 | [],K,e=>⟨[],[],e,fun K' r' h=>h⟩
 | c::l,K,e=>by
  obtain⟨d,is,e,h1⟩:=hf c _ e
  obtain⟨ds,js,e,h2⟩:=evCloseL_end hf e
  exact⟨d::ds,is++js,e,fun K' r' h=>h1 _ _ (h2 _ _ h)⟩
theorem evCloseD_end {h:Heap}:∀{n:Nat}{γ:Type}{r:γ}(c:CV) (K:D→List Id→Option γ),evCloseD h n c K=some r→∃d is,K d is=some r∧∀{γ':Type}(K':D→List Id→Option γ') (r':γ'),K' d is=some r'→evCloseD h n c K'=some r'
 | 0,_,_,_,_,e=>by cases e
 | n+1,γ,r,c,K,e=>by
  unfold evCloseD at e
  split at e
  ·split at e
   ·cases e
   ·rename_i hc;exact⟨_,_,e,fun K' r' h=>by unfold evCloseD;simp only[hc];exact h⟩
  ·exact⟨_,_,e,fun K' r' h=>h⟩
  ·split at e
   ·rename_i hc;exact⟨_,_,e,fun K' r' h=>by unfold evCloseD;simp only[hc];exact h⟩
   ·cases e
  ·split at e
   ·rename_i hj
    split at e
    ·rename_i hx;exact⟨_,_,e,fun K' r' h=>by unfold evCloseD;simp only[hj,hx];exact h⟩
    ·cases e
   ·cases e
  ·split at e
   ·split at e
    ·rename_i hj
     obtain⟨d,is,e,h1⟩:=evCloseL_end (f:=fun {γ}=>evCloseD h n) (fun c K e=>evCloseD_end c K e) e
     exact⟨_,_,e,fun K' r' h=>by unfold evCloseD;simp only[hj];exact h1 (fun ds is=>K' (.box ds) (_::is)) r' h⟩
    ·cases e
   ·cases e
  ·cases e
theorem evCloses_end:∀{l:List Id}{h:Heap}{K:Heap→List Id→List (Id×AObj)→Option γ},evCloses h l K=some r→∃a b c,K a b c=some r∧∀{γ':Type}(K':Heap→List Id→List (Id×AObj)→Option γ') (r':γ'),K' a b c=some r'→evCloses h l K'=some r'
 | [],_,_,e=>⟨_,_,_,e,fun K' r' h=>h⟩
 | i::l,h,K,e=>by
  unfold evCloses at e
  split at e
  ·rename_i hi
   obtain⟨h1,e⟩:=evR_some e
   obtain⟨ds,is,e,h2⟩:=evCloseL_end (f:=fun {γ}=>evCloseD h 3) (fun c K e=>evCloseD_end c K e) e
   obtain⟨h3,e⟩:=evR_some e
   obtain⟨h4,e⟩:=evR_some e
   obtain⟨a,b,c,e,h5⟩:=evCloses_end (l:=l) e
   refine⟨_,_,_,e,fun K' r' h'=>?_⟩
   unfold evCloses
   simp only[hi]
   rw[h1]
   refine h2 _ _ ?_
   rw[h3,h4]
   exact h5 (fun h' rd wr=>K' h' (i::(is++rd)) ((i,_)::(goneAll is++wr))) r' h'
  ·cases e
theorem evGh_end:∀{l:List Gh}{σ:St}{K:St→Option γ},evGh l σ K=some r→∃σ1,K σ1=some r∧∀{γ':Type}(K':St→Option γ') (r':γ'),K' σ1=some r'→evGh l σ K'=some r'
 | [],σ,_,e=>⟨σ,e,fun K' r' h=>h⟩
 | x::l,σ,K,e=>by
  unfold evGh at e
  split at e
  ·obtain⟨a,b,c,e,h1⟩:=evCloses_end e
   obtain⟨σ1,e,h2⟩:=evGh_end e
   exact⟨σ1,e,fun K' r' h=>by unfold evGh;exact h1 _ _ (h2 K' r' h)⟩
  ·obtain⟨g1,e⟩:=evR_some e
   obtain⟨g2,e⟩:=evR_some e
   obtain⟨σ1,e,h2⟩:=evGh_end e
   exact⟨σ1,e,fun K' r' h=>by unfold evGh;simp only[g1,g2];exact h2 K' r' h⟩
  ·obtain⟨g1,e⟩:=evR_some e
   split at e
   ·rename_i hi
    obtain⟨g2,e⟩:=evR_some e
    obtain⟨σ1,e,h2⟩:=evGh_end e
    exact⟨σ1,e,fun K' r' h=>by unfold evGh;simp only[g1,hi,g2];exact h2 K' r' h⟩
   ·cases e
  ·split at e
   ·rename_i hi
    split at e
    ·obtain⟨g2,e⟩:=evR_some e
     obtain⟨σ1,e,h2⟩:=evGh_end e
     exact⟨σ1,e,fun K' r' h=>by unfold evGh;simp only[hi,g2];exact h2 K' r' h⟩
    ·cases e
   ·cases e
  ·split at e
   ·rename_i hi
    obtain⟨σ1,e,h2⟩:=evGh_end e
    exact⟨σ1,e,fun K' r' h=>by unfold evGh;simp only[hi];exact h2 K' r' h⟩
   ·cases e
  ·split at e
   ·rename_i hi
    obtain⟨σ1,e,h2⟩:=evGh_end e
    exact⟨σ1,e,fun K' r' h=>by unfold evGh;simp only[hi];exact h2 K' r' h⟩
   ·cases e
  ·obtain⟨g1,e⟩:=evR_some e
   split at e
   ·rename_i hi
    obtain⟨g2,e⟩:=evR_some e
    obtain⟨σ1,e,h2⟩:=evGh_end e
    exact⟨σ1,e,fun K' r' h=>by unfold evGh;simp only[g1,hi,g2];exact h2 K' r' h⟩
   ·cases e
  ·split at e
   ·rename_i hi
    split at e
    ·split at e
     ·obtain⟨σ1,e,h2⟩:=evGh_end e
      exact⟨σ1,e,fun K' r' h=>by unfold evGh;simp only[hi];exact h2 K' r' h⟩
     ·cases e
    ·cases e
   ·cases e
  ·split at e
   ·rename_i hi
    split at e
    ·obtain⟨σ1,e,h2⟩:=evGh_end e
     exact⟨σ1,e,fun K' r' h=>by unfold evGh;simp only[hi];exact h2 K' r' h⟩
    ·cases e
   ·cases e
  ·split at e
   ·rename_i hi
    split at e
    ·rename_i hd
     obtain⟨g1,e⟩:=evR_some e
     obtain⟨g2,e⟩:=evR_some e
     obtain⟨g3,e⟩:=evR_some e
     obtain⟨g4,e⟩:=evR_some e
     obtain⟨σ1,e,h2⟩:=evGh_end e
     exact⟨σ1,e,fun K' r' h=>by unfold evGh;simp only[hi,hd,g1,g2,g3,g4];exact h2 K' r' h⟩
    ·cases e
   ·cases e
  ·cases e
theorem evGh_at {l:List Gh}{σ:St}{K:St→Option γ}(e:evGh l σ K=some r):∃σ1,K σ1=some r∧∀P:St→Prop,P σ1→gh l σ P:=by
 obtain⟨σ1,e,h⟩:=evGh_end e
 refine⟨σ1,e,fun P hP=>?_⟩
 classical
 exact evGh_ok (K:=fun σ=>if P σ then some ()else none) (r:=()) (fun σ hσ=>by
  by_cases hp:P σ
  ·exact hp
  ·rw[if_neg hp]at hσ;cases hσ) (h _ _ (if_pos hP))
theorem evFin_okY {ti:Types}{rs:List ResultVar}{np:Nat}{σ0:St}{gs:List Gh}{fin:Ret→Option γ}(hg:evGh gs σ0 (fun σ=>evFinY ti rs np σ fin)=some r):∃res post new,fin ⟨res,post,new⟩=some r∧Fin' ti rs σ0 res post new:=by
 obtain⟨σ,e,hP⟩:=evGh_at hg
 unfold evFinY at e
 split at e
 ·cases e
 ·rename_i xs hxs
  generalize hm:reach2 (getH σ.heap) 100 (idsVs2 xs++extsL 0 np) []=m at e
  split at e
  ·rename_i ps ns hp hn
   obtain⟨h1,e⟩:=evR_some e
   obtain⟨h2,e⟩:=evR_some e
   obtain⟨h3,e⟩:=evR_some e
   obtain⟨h4,e⟩:=evR_some e
   exact⟨_,_,_,e,gs,hP _ (evRes_ok hxs ⟨locsOf m,h1,(ren_av (p:=backO (locsOf m) σ.next) (fun i hi=>Id.beq_iff.1 hi) h2).symm,postOK_of hp h3,newOK_of hn h4,handOK_of _⟩)⟩
  ·cases e
def evEndY (ti:Types) (rs:List ResultVar) (np:Nat) (fin:Ret→Option γ):KtP γ:=fun pl e σ=>match e with
 | .exit _=>none
 | .normal=>evGh pl.take.gs σ fun σ=>evFinY ti rs np σ fin
 | .ret=>evGh pl.take.gs σ fun σ=>evFinY ti rs np σ fin
structure Sw (P:Program) (ti:Types) where
 ds:(γ:Type)→Ds γ
 el:Els
 sok:TypeId→Bool
 hd:∀γ,(ds γ).ok
 hs:Sok P ti sok
def envOfY {P:Program}{ti:Types}(w:Sw P ti) (own:Bool) (cs:List CallEY) (ss:List (SiteY γ)) (n:Nat):EnvP γ:={ds:=w.ds γ,el:=w.el,own:=own,sok:=w.sok,call:=callOfY cs n,has:=hasOf ss,rest:=restOf ss n}
def SiteY.ok {P:Program}{ti:Types}(w:Sw P ti) (own:Bool) (cs:List CallEY) (ss:List (SiteY γ)) (nt:Nat) (body:Code) (K:KtP γ) (s:SiteY γ):Prop:=
 (∀lv r,apC _ (s.app 0) lv≠some r)∧pathN (wayOf 300 s.p)=s.p∧∀n lv σ r,apC _ (s.app (n+1)) lv=some r→s.st lv=some σ→evFromP (envOfY w own cs ss n) ti nt body K (wayOf 300 s.p) s.pl σ=some r
def finOfY (mk:Nat→List Lf→Option γ):List RetSkY→Nat→Ret→Option γ
 | [],_,_=>none
 | s::l,i,x=>(match decRY s x with
  | some v=>mk i v
  | none=>finOfY mk l (i+1) x)
theorem finOf_okY {mk:Nat→List Lf→Option γ}:∀{l:List RetSkY}{i:Nat}{x:Ret},finOfY mk l i x=some r→∃j rk v,nthRY l j=some rk∧decRY rk x=some v∧mk (i+j) v=some r
 | [],_,_,h=>by cases h
 | s::l,i,x,h=>by
  unfold finOfY at h
  split at h
  ·rename_i v hv;exact⟨0,s,v,rfl,hv,h⟩
  ·obtain⟨j,rk,v,h1,h2,h3⟩:=finOf_okY h
   exact⟨j+1,rk,v,h1,h2,by rw[show i+(j+1)=i+1+j from by omega];exact h3⟩
theorem engineY {P:Program}{I:Inv}{ti:Types}(hti:TIok P ti) (h1:TIone ti) (hm:P.follows .mixedOrders=true) {f:FuncId}{fn:Func}{c:Code}(hf:P.funcs[f]?=some fn) (hb:fn.body=some c)
  (hname:(fn.name== "runtime.NumGoroutine")=false) {args:List V1} {pre post new:List AObj} {res:AV} {nt:Nat} (hnt:fn.ntmps=nt) (hargs:Nat.ble args.length nt=true) {rs:List ResultVar} (hrs:fn.results.toList=rs)
  (w:Sw P ti) {own:Bool} {cs:List CallEY} {ss:List (SiteY γ)} {N np:Nat} {rk:List RetSkY} {mk:Nat→List Lf→Option γ} {pl:Pl} (hc:∀m,m≤N→∀c∈cs,c.ok P I m) (hs:∀s∈ss,s.ok w own cs ss nt c (evEndY ti rs np (finOfY mk rk 0)))
  (hx:evFromP (envOfY w own cs ss N) ti nt c (evEndY ti rs np (finOfY mk rk 0)) [] pl ⟨slotsOf args 0,extsOf pre 0,0⟩=some r) (ho:∀j k v,nthRY rk j=some k→mk j v=some r→encRY k v=some ⟨res,post,new⟩):Trip P I f args pre res post new:=by
 have main:TripK P I f args pre fun a b c=>finOfY mk rk 0 ⟨a,b,c⟩=some r:=by
  refine TripK.of hti h1 hm hf hb hname hnt hargs hrs fun M hP hI=>?_
  have:=(codeP_ok (M:=M) (N:=N) (E:=envOfY w own cs ss) (Kf:=evEndY ti rs np (finOfY mk rk 0)) (body:=c) (ti:=ti) (nt:=nt) (r:=r) (fun m hm=>⟨w.hd γ,by rw[hP];exact w.hs,by rw[hP,hI];exact callOf_okY (hc m hm)⟩) (fun m hm p tk σ e=>?_) c [] N (fun _=>evEndY ti rs np (finOfY mk rk 0))
   (fun e σ=>match e with
   | .exit _=>False
   | .normal=>∃res post new,finOfY mk rk 0 ⟨res,post,new⟩=some r∧Fin' ti rs σ res post new
   | .ret=>∃res post new,finOfY mk rk 0 ⟨res,post,new⟩=some r∧Fin' ti rs σ res post new) (Nat.le_refl _) (fun _ _=>rfl) (fun m p e σ _ h=>?_)).2 _ _ hx
  ·exact this
  ·replace e:restOf ss m p tk σ=some r:=e
   obtain⟨σ1,hw,s,hmem,rfl,e1⟩:=restOf_ok e
   obtain⟨lv,σ',g1,g2,g3⟩:=SiteY.run_ok e1
   obtain⟨k1,k2,k3⟩:=hs s hmem
   cases m with
   | zero=>exact absurd g1 (k1 _ _)
   | succ m=>exact⟨m,σ',_,s.pl,Nat.lt_succ_self m,Weak.trans hw g3,k2,k3 m lv σ' r g1 g2⟩
  ·cases e with
   | exit id=>cases h
   | normal=>exact evFin_okY h
   | ret=>exact evFin_okY h
 refine main.mono' fun a b c h=>?_
 obtain⟨j,k,v,g1,g2,g3⟩:=finOf_okY h
 rw[Nat.zero_add]at g3
 have h1:=enc_decrY g2
 rw[ho j k v g1 g3]at h1
 cases h1
 exact⟨rfl,rfl,rfl⟩
structure FnEY where
 f:FuncId
 fn:Func
 own:Bool
 args:List SjA
 pre:List SjO
 ret:List RetSkY
 ρ:Type
 inst:Rz ρ
 F:Nat→Cur ρ (tyAsY args (tyOsY pre))
 pl:Pl
 sites:List (SiteY ρ)
def FnEY.c (x:FnEY):CallEY:=⟨x.f,x.args,x.pre,x.ret,x.ρ,x.inst,x.F⟩
def FnEY.go {P:Program}{ti:Types}(w:Sw P ti) (x:FnEY) (cs:List CallEY) (n p:Nat) (pl:Pl) (σ:Option St):Option x.ρ:=
 match σ with
 | some σ=>evFromP (envOfY w x.own cs x.sites n) ti x.fn.ntmps (bodyF x.fn) (evEndY ti x.fn.results.toList x.pre.length (finOfY x.inst.make x.ret 0)) (wayOf 300 p) pl σ
 | none=>none
def FnEY.st (x:FnEY) (lv:List Lf):Option St:=
 match encAsY x.args lv with
 | some (ays,l)=>(match v1s ays with
  | some xs=>(match encOsY x.pre l with
   | some (os,_)=>some ⟨slotsOf xs 0,extsOf os 0,0⟩
   | none=>none)
  | none=>none)
 | none=>none
def EqTY (γ:Type):List (SiteY γ)→Type
 | []=>Unit
 | s::l=>(Cur γ (tyAsY s.sk (tyOsY s.hk))×(Nat→Cur γ (tyAsY s.sk (tyOsY s.hk))))×EqTY γ l
def appsOfY:(l:List (SiteY γ))→EqTY γ l
 | []=>()
 | s::l=>((s.app 0,fun n=>s.app (n+1)),appsOfY l)
def goesOfY (go:Nat→Nat→Pl→Option St→Option γ):(l:List (SiteY γ))→EqTY γ l
 | []=>()
 | s::l=>((noneC _,fun n=>curC _ fun lv=>go n s.p s.pl (s.st lv)),goesOfY go l)
def FnEY.eqn1 {P:Program}{ti:Types}(w:Sw P ti) (x:FnEY) (cs:List CallEY):Prop:=
 appsOfY x.sites=goesOfY (FnEY.go w x cs) x.sites∧x.F=fun n=>curC _ fun lv=>FnEY.go w x cs n 1 x.pl (x.st lv)
theorem eqs_memY {go:Nat→Nat→Pl→Option St→Option γ}:∀{l:List (SiteY γ)},appsOfY l=goesOfY go l→∀s∈l,(s.app 0=noneC _∧(fun n=>s.app (n+1))=fun n=>curC _ fun lv=>go n s.p s.pl (s.st lv))
 | s::l,h,t,ht=>by
  have h1:=congrArg (fun x:EqTY γ (s::l)=>x.1) h
  have h2:=congrArg (fun x:EqTY γ (s::l)=>x.2) h
  cases ht with
  | head=>exact⟨congrArg Prod.fst h1,congrArg Prod.snd h1⟩
  | tail _ ht=>exact eqs_memY h2 t ht
 | [],_,_,ht=>by cases ht
def FnEY.fits (P:Program) (x:FnEY):Bool:=
 (match x.fn.body with
 | some _=>true
 | none=>false)&&!(x.fn.name== "runtime.NumGoroutine")&&Nat.ble x.args.length x.fn.ntmps&&allB (fun s:SiteY x.ρ=>Nat.beq (pathN (wayOf 300 s.p)) s.p) x.sites
theorem encAs_lenY:∀{s:List SjA}{l:List Lf}{ays:List AV}{q:List Lf},encAsY s l=some (ays,q)→ays.length=s.length
 | [],l,ays,q,h=>by cases h;rfl
 | s::ss,l,ays,q,h=>by
  unfold encAsY at h
  split at h
  ·split at h
   ·rename_i h2;cases h;simp[encAs_lenY h2]
   ·cases h
  ·cases h
theorem encOs_lenY:∀{s:List SjO}{l:List Lf}{ays:List AObj}{q:List Lf},encOsY s l=some (ays,q)→ays.length=s.length
 | [],l,ays,q,h=>by cases h;rfl
 | s::ss,l,ays,q,h=>by
  unfold encOsY at h
  split at h
  ·split at h
   ·rename_i h2;cases h;simp[encOs_lenY h2]
   ·cases h
  ·cases h
theorem FnEY.step {P:Program}{I:Inv}{ti:Types}(hti:TIok P ti) (h1:TIone ti) (hm:P.follows .mixedOrders=true) (w:Sw P ti) {x:FnEY}{cs:List CallEY}(hf:P.funcs[x.f]?=some x.fn) (hx:x.fits P=true) (he:appsOfY x.sites=goesOfY (FnEY.go w x cs) x.sites) {N:Nat}(hc:∀m,m≤N→∀c∈cs,c.ok P I m) {lv:List Lf}{p:x.ρ}(hp:FnEY.go w x cs N 1 x.pl (x.st lv)=some p):
  ∀ays pre rk ret l1 l2,encAsY x.args lv=some (ays,l1)→encOsY x.pre l1=some (pre,l2)→nthRY x.ret (x.inst.alt p)=some rk→encRY rk (x.inst.pack p)=some ret→∀xs,v1s ays=some xs→Trip P I x.f xs pre ret.res ret.post ret.new:=by
 intro ays pre rk ret l1 l2 e1 e2 e6 e3 xs e4
 unfold FnEY.fits at hx
 simp only[Bool.and_eq_true,Bool.not_eq_true']at hx
 obtain⟨⟨⟨g1,g2⟩,g3⟩,g4⟩:=hx
 obtain⟨c,hb⟩:∃c,x.fn.body=some c:=by
  cases hb:x.fn.body with
  | none=>rw[hb]at g1;cases g1
  | some c=>exact⟨c,rfl⟩
 have hbody:bodyF x.fn=c:=by unfold bodyF;rw[hb]
 have hst:x.st lv=some ⟨slotsOf xs 0,extsOf pre 0,0⟩:=by unfold FnEY.st;rw[e1];simp only[e4,e2]
 rw[hst]at hp
 unfold FnEY.go at hp
 simp only[]at hp
 have hpre:x.pre.length=pre.length:=(encOs_lenY e2).symm
 refine engineY (γ:=x.ρ) (r:=p) (N:=N) (np:=x.pre.length) (rk:=x.ret) (mk:=x.inst.make) (ss:=x.sites) hti h1 hm hf hb g2 rfl (by rw[v1s_len e4,encAs_lenY e1];exact g3) rfl w hc (fun s hs=>?_) (by rw[←hbody];exact hp) (fun j k v hj hl=>?_)
 ·obtain⟨k1,k2⟩:=eqs_memY he s hs
  refine⟨fun lv r=>by rw[k1];exact apC_none,?_,fun n lv σ r q1 q2=>?_⟩
  ·exact Nat.eq_of_beq_eq_true (allB_iff.1 g4 s hs)
  ·rw[show s.app (n+1)=_ from congrFun k2 n]at q1
   have:=apC_cur q1
   rw[q2]at this
   rw[←hbody]
   exact this
 ·obtain⟨a1,a2⟩:=x.inst.law2 hl
  rw[a1,hj]at e6
  cases e6
  rw[←a2,e3]
theorem FnEY.ok_c {P:Program}{I:Inv}{x:FnEY}{n:Nat}(h:∀lv p,apC _ (x.F n) lv=some p→∀ays pre rk ret l1 l2,encAsY x.args lv=some (ays,l1)→encOsY x.pre l1=some (pre,l2)→nthRY x.ret (x.inst.alt p)=some rk→encRY rk (x.inst.pack p)=some ret→∀xs,v1s ays=some xs→Trip P I x.f xs pre ret.res ret.post ret.new):x.c.ok P I n:=h
end
end Go.AM
namespace Go.AM
open Go Go.RowKit
section
variable {γ:Type}
def nfB (b:Bool) (k:Bool→γ):γ:=match b with
 | true=>k true
 | false=>k false
theorem nfB_eq (b:Bool) (k:Bool→γ):nfB b k=k b:=by cases b<;>rfl
def nfN (n:Nat) (k:Nat→γ):γ:=match n with
 | .zero=>k .zero
 | .succ m=>k (.succ m)
theorem nfN_eq (n:Nat) (k:Nat→γ):nfN n k=k n:=by cases n<;>rfl
def nfI (z:Int) (k:Int→γ):γ:=match z with
 | .ofNat n=>nfN n fun n=>k (.ofNat n)
 | .negSucc n=>nfN n fun n=>k (.negSucc n)
theorem nfI_eq (z:Int) (k:Int→γ):nfI z k=k z:=by cases z<;>simp only[nfI,nfN_eq]
def nfL {α:Type}(f:α→(α→γ)→γ):List α→(List α→γ)→γ
 | [],k=>k []
 | x::l,k=>f x fun x=>nfL f l fun l=>k (x::l)
theorem nfL_eq {α:Type}{f:α→(α→γ)→γ}(hf:∀x k,f x k=k x):∀(l:List α) (k:List α→γ),nfL f l k=k l
 | [],k=>rfl
 | x::l,k=>by unfold nfL;rw[hf,nfL_eq hf l]
def nfId (i:Id) (k:Id→γ):γ:=match i with
 | .loc n=>nfN n fun n=>k (.loc n)
 | .ext n=>nfN n fun n=>k (.ext n)
theorem nfId_eq (i:Id) (k:Id→γ):nfId i k=k i:=by cases i<;>simp only[nfId,nfN_eq]
def nfD (x:D) (k:D→γ):γ:=match x with
 | .int q n=>nfI n fun n=>k (.int q n)
 | .bool b=>nfB b fun b=>k (.bool b)
 | .str s=>k (.str s)
 | .agg cs=>k (.agg cs)
 | .list ag sz rows=>k (.list ag sz rows)
 | .nil=>k .nil
 | .box cs=>k (.box cs)
 | .map sz rows=>k (.map sz rows)
theorem nfD_eq (x:D) (k:D→γ):nfD x k=k x:=by cases x<;>simp only[nfD,nfI_eq,nfB_eq]
def nfF (x:FC) (k:FC→γ):γ:=match x with
 | .p i=>nfId i fun i=>k (.p i)
 | .d x=>nfD x fun x=>k (.d x)
 | .h=>k .h
theorem nfF_eq (x:FC) (k:FC→γ):nfF x k=k x:=by cases x<;>simp only[nfF,nfId_eq,nfD_eq]
def nfC (x:CV) (k:CV→γ):γ:=match x with
 | .un=>k .un
 | .d x=>nfD x fun x=>k (.d x)
 | .ptr i o=>nfId i fun i=>nfN o fun o=>k (.ptr i o)
 | .row ag sz x=>k (.row ag sz x)
 | .rp cs=>k (.rp cs)
 | .nilp=>k .nilp
 | .fn f cap=>nfN f fun f=>nfL nfId cap fun cap=>k (.fn f cap)
 | .nilf=>k .nilf
 | .nils ag sz=>k (.nils ag sz)
 | .tl ag sz rows=>k (.tl ag sz rows)
 | .lst i ag sz rows=>nfId i fun i=>k (.lst i ag sz rows)
 | .sl i n=>nfId i fun i=>nfN n fun n=>k (.sl i n)
 | .map i=>nfId i fun i=>k (.map i)
 | .nilm=>k .nilm
 | .ap i b sz kk o=>nfId i fun i=>k (.ap i b sz kk o)
 | .ow i=>nfId i fun i=>k (.ow i)
 | .op i sz kk o=>nfId i fun i=>nfN kk fun kk=>nfN o fun o=>k (.op i sz kk o)
 | .yl i=>nfId i fun i=>k (.yl i)
 | .bm f i=>nfId i fun i=>k (.bm f i)
 | .fz f cs=>nfL nfF cs fun cs=>k (.fz f cs)
 | .fb i=>nfId i fun i=>k (.fb i)
 | .kv v=>k (.kv v)
theorem nfC_eq (x:CV) (k:CV→γ):nfC x k=k x:=by cases x<;>simp only[nfC,nfId_eq,nfN_eq,nfD_eq,nfL_eq nfId_eq,nfL_eq nfF_eq]
def nfV (x:V1) (k:V1→γ):γ:=match x with
 | .d x=>nfD x fun x=>k (.d x)
 | .c x=>nfC x fun x=>k (.c x)
 | .agg cs=>nfL nfC cs fun cs=>k (.agg cs)
theorem nfV_eq (x:V1) (k:V1→γ):nfV x k=k x:=by cases x<;>simp only[nfV,nfD_eq,nfC_eq,nfL_eq nfC_eq]
def nfA (x:AV) (k:AV→γ):γ:=match x with
 | .u=>k .u
 | .v x=>nfV x fun x=>k (.v x)
 | .t xs=>nfL nfV xs fun xs=>k (.t xs)
 | .df f cs rows=>k (.df f cs rows)
theorem nfA_eq (x:AV) (k:AV→γ):nfA x k=k x:=by cases x<;>simp only[nfA,nfV_eq,nfL_eq nfV_eq]
def nfSl (x:Nat×AV) (k:Nat×AV→γ):γ:=nfA x.2 fun v=>k (x.1,v)
theorem nfSl_eq (x:Nat×AV) (k:Nat×AV→γ):nfSl x k=k x:=by simp only[nfSl,nfA_eq]
def nfO (x:AObj) (k:AObj→γ):γ:=match x with
 | .cells cs=>nfL nfC cs fun cs=>k (.cells cs)
 | .tok n sz e=>k (.tok n sz e)
 | .map kt et es=>k (.map kt et es)
 | .arr cs1 ag sz rows cs2=>nfL nfC cs1 fun cs1=>nfL nfC cs2 fun cs2=>k (.arr cs1 ag sz rows cs2)
 | .tree kd ag sz rows foc=>nfL nfD rows fun rows=>(match foc with
  | none=>k (.tree kd ag sz rows none)
  | some (i,cs)=>nfN i fun i=>nfL nfC cs fun cs=>k (.tree kd ag sz rows (some (i,cs))))
 | .pmap n1 sz n rows foc=>k (.pmap n1 sz n rows foc)
 | .part c ag sz rows=>k (.part c ag sz rows)
 | .fnl f cs rows=>k (.fnl f cs rows)
 | .gone=>k .gone
 | .rnd r sl=>nfL nfSl sl fun sl=>k (.rnd r sl)
 | .rndX j=>k (.rndX j)
theorem nfO_eq (x:AObj) (k:AObj→γ):nfO x k=k x:=by
 cases x with
 | tree kd ag sz rows foc=>
  simp only[nfO,nfL_eq nfD_eq]
  cases foc with
  | none=>rfl
  | some y=>simp only[nfN_eq,nfL_eq nfC_eq]
 | _=>simp only[nfO,nfL_eq nfC_eq,nfL_eq nfSl_eq]
def nfWr (x:Id×AObj) (k:Id×AObj→γ):γ:=nfId x.1 fun i=>nfO x.2 fun o=>k (i,o)
theorem nfWr_eq (x:Id×AObj) (k:Id×AObj→γ):nfWr x k=k x:=by simp only[nfWr,nfId_eq,nfO_eq]
def nfP (x:Id×AObj) (k:Id×AObj→γ):γ:=match x with
 | (i,o)=>k (i,o)
theorem nfP_eq (x:Id×AObj) (k:Id×AObj→γ):nfP x k=k x:=rfl
def nfIf {α:Type}(b:Bool) (f:α→(α→γ)→γ) (x:α) (k:α→γ):γ:=match b with
 | true=>f x k
 | false=>k x
theorem nfIf_eq {α:Type}{f:α→(α→γ)→γ}(hf:∀x k,f x k=k x) (b:Bool) (x:α) (k:α→γ):nfIf b f x k=k x:=by
 cases b
 ·rfl
 ·exact hf x k
def nfPut (b:Bool) (σ:St) (dst:Option Tmp) (v:AV) (wr:List (Id×AObj)) (nx:Nat) (K:St→γ):γ:=
 match b with
 | false=>K ⟨putS σ.slots dst v,setW σ.heap wr,nx⟩
 | true=>nfA v fun v=>nfL nfWr wr fun wr=>(match wr with
  | []=>K ⟨putS σ.slots dst v,σ.heap,nx⟩
  | x::l=>nfL nfP (setW σ.heap (x::l)) fun h=>K ⟨putS σ.slots dst v,h,nx⟩)
theorem nfPut_eq (b:Bool) (σ:St) (dst:Option Tmp) (v:AV) (wr:List (Id×AObj)) (nx:Nat) (K:St→γ):nfPut b σ dst v wr nx K=K ⟨putS σ.slots dst v,setW σ.heap wr,nx⟩:=by
 unfold nfPut
 cases b with
 | false=>rfl
 | true=>
  simp only[nfA_eq,nfL_eq nfWr_eq]
  cases wr with
  | nil=>rfl
  | cons x l=>simp only[nfL_eq nfP_eq]
end
end Go.AM
