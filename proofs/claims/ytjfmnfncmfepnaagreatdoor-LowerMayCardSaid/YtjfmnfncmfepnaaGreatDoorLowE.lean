/- Part of a proof. No condition. (Part 5.) -/
import Derived.Test.YtjfmnfncmfepnaaGreatDoorLowD
set_option linter.unusedVariables false
set_option linter.unusedSimpArgs false
set_option linter.unusedSectionVars false
namespace Go.AM
open Go Go.RowKit
noncomputable section
variable {γ:Type}{r:γ}
inductive Sj where
 | int (k:IntKind)
 | bool
 | str
 | list (ag:Bool) (sz:Nat)
 | tl (ag:Bool) (sz:Nat)
 | ci (k:IntKind) (z:Int)
 | cb (b:Bool)
 | cs (s:ByteArray)
 | el (ag:Bool) (sz:Nat)
 | nils (ag:Bool) (sz:Nat)
 | nilp
 | nilm
 | nilf
 | un
 | ptr (i:Id) (o:Nat)
 | ow (i:Id)
 | fn (f:Nat) (cap:List Id)
 | bm (f:Nat) (i:Id)
 | fb (i:Id)
inductive iL where
 | p (i:Id)
 | h
 | d (s:Sj)
inductive Hz where
 | one (s:Sj)
 | agg (l:List Sj)
 | mix (l:List Sj)
 | fz (f:Nat) (l:List iL)
 | rp (l:List Sj)
 | df (f:Nat) (l:List iL)
inductive Vz where
 | c (l:List Sj)
 | t (k:Kd) (ag:Bool) (sz:Nat)
 | gone
 | te (k:Kd) (ag:Bool) (sz:Nat)
 | n (f:Nat) (l:List iL)
abbrev Sj.z:Sj:=.int .i64
abbrev Sj.y:Sj:=.int .u8
abbrev Sj.k (z:Int):Sj:=.ci .i64 z
abbrev Sj.q (n:Nat):Sj:=.list true n
abbrev Sj.f (n:Nat):Sj:=.list false n
abbrev Hz.z:Hz:=.one .z
abbrev Hz.y:Hz:=.one .y
abbrev Hz.b:Hz:=.one .bool
abbrev Hz.s:Hz:=.one .str
abbrev Hz.k (z:Int):Hz:=.one (.k z)
abbrev Hz.q (n:Nat):Hz:=.one (.q n)
abbrev Hz.f (n:Nat):Hz:=.one (.f n)
abbrev Hz.p (i:Id) (n:Nat):Hz:=.one (.ptr i n)
abbrev Hz.w (i:Id):Hz:=.one (.ow i)
abbrev Vz.l (ag:Bool) (sz:Nat):Vz:=.t .row ag sz
def rH:Kd→Kd→Bool
 | .row,.row=>true
 | .flat,.flat=>true
 | .box,.box=>true
 | .map,.map=>true
 | .fmap a,.fmap b=>a==b
 | _,_=>false
theorem V0 {a b:Kd}(h:rH a b=true):a=b:=by
 cases a<;>cases b<;>first | rfl | (cases h;done) | (rw[eq_of_beq (show (_==_)=true from h)])
def XT:Sj→CV→Option (List Lf)
 | .int k,.d (.int k' z)=>DC (xP k k') (some [.I z])
 | .bool,.d (.bool b)=>some [.B b]
 | .str,.d (.str s)=>some [.S s]
 | .list ag sz,.d (.list ag' sz' l)=>DC (ag==ag') (DC (Nat.beq sz sz') (some [.L l]))
 | .tl ag sz,.tl ag' sz' l=>DC (ag==ag') (DC (Nat.beq sz sz') (some [.L l]))
 | .ci k z,.d (.int k' z')=>DC (xP k k') (DC (eqZ z z') (some []))
 | .cb b,.d (.bool b')=>DC (b==b') (some [])
 | .cs s,.d (.str s')=>DC (xQ s.data.toList s'.data.toList) (some [])
 | .el ag sz,.d (.list ag' sz' [])=>DC (ag==ag') (DC (Nat.beq sz sz') (some []))
 | .nils ag sz,.nils ag' sz'=>DC (ag==ag') (DC (Nat.beq sz sz') (some []))
 | .nilp,.nilp=>some []
 | .nilm,.nilm=>some []
 | .nilf,.nilf=>some []
 | .un,.un=>some []
 | .ptr i o,.ptr i' o'=>DC (Id.beq i i') (DC (Nat.beq o o') (some []))
 | .ow i,.ow i'=>DC (Id.beq i i') (some [])
 | .fn f c,.fn f' c'=>DC (Nat.beq f f') (DC (S3 c c') (some []))
 | .bm f i,.bm f' i'=>DC (Nat.beq f f') (DC (Id.beq i i') (some []))
 | .fb i,.fb i'=>DC (Id.beq i i') (some [])
 | _,_=>none
def kW:Sj→List Lf→Option (CV×List Lf)
 | .int k,.I z::r=>some (.d (.int k z),r)
 | .bool,.B b::r=>some (.d (.bool b),r)
 | .str,.S s::r=>some (.d (.str s),r)
 | .list ag sz,.L l::r=>some (.d (.list ag sz l),r)
 | .tl ag sz,.L l::r=>some (.tl ag sz l,r)
 | .ci k z,r=>some (.d (.int k z),r)
 | .cb b,r=>some (.d (.bool b),r)
 | .cs s,r=>some (.d (.str s),r)
 | .el ag sz,r=>some (.d (.list ag sz []),r)
 | .nils ag sz,r=>some (.nils ag sz,r)
 | .nilp,r=>some (.nilp,r)
 | .nilm,r=>some (.nilm,r)
 | .nilf,r=>some (.nilf,r)
 | .un,r=>some (.un,r)
 | .ptr i o,r=>some (.ptr i o,r)
 | .ow i,r=>some (.ow i,r)
 | .fn f c,r=>some (.fn f c,r)
 | .bm f i,r=>some (.bm f i,r)
 | .fb i,r=>some (.fb i,r)
 | _,_=>none
theorem I3 {s:Sj}{c:CV}{l:List Lf}(h:XT s c=some l) (rest:List Lf):kW s (l++rest)=some (c,rest):=by
 unfold XT at h
 split at h
 ·obtain⟨h1,h⟩:=Aq h
  cases h
  rw[show _=_ from of_decide_eq_true h1];rfl
 ·cases h;rfl
 ·cases h;rfl
 ·obtain⟨h1,h⟩:=Aq h
  obtain⟨h2,h⟩:=Aq h
  cases h
  rw[eq_of_beq h1,Nat.eq_of_beq_eq_true h2];rfl
 ·obtain⟨h1,h⟩:=Aq h
  obtain⟨h2,h⟩:=Aq h
  cases h
  rw[eq_of_beq h1,Nat.eq_of_beq_eq_true h2];rfl
 ·obtain⟨h1,h⟩:=Aq h
  obtain⟨h2,h⟩:=Aq h
  cases h
  rw[show _=_ from of_decide_eq_true h1,rG h2];rfl
 ·obtain⟨h1,h⟩:=Aq h
  cases h
  rw[eq_of_beq h1];rfl
 ·obtain⟨h1,h⟩:=Aq h
  cases h
  rw[kU h1];rfl
 ·obtain⟨h1,h⟩:=Aq h
  obtain⟨h2,h⟩:=Aq h
  cases h
  rw[eq_of_beq h1,Nat.eq_of_beq_eq_true h2];rfl
 ·obtain⟨h1,h⟩:=Aq h
  obtain⟨h2,h⟩:=Aq h
  cases h
  rw[eq_of_beq h1,Nat.eq_of_beq_eq_true h2];rfl
 ·cases h;rfl
 ·cases h;rfl
 ·cases h;rfl
 ·cases h;rfl
 ·obtain⟨h1,h⟩:=Aq h
  obtain⟨h2,h⟩:=Aq h
  cases h
  rw[Id.beq_iff.1 h1,Nat.eq_of_beq_eq_true h2];rfl
 ·obtain⟨h1,h⟩:=Aq h
  cases h
  rw[Id.beq_iff.1 h1];rfl
 ·obtain⟨h1,h⟩:=Aq h
  obtain⟨h2,h⟩:=Aq h
  cases h
  rw[Nat.eq_of_beq_eq_true h1,MW h2];rfl
 ·obtain⟨h1,h⟩:=Aq h
  obtain⟨h2,h⟩:=Aq h
  cases h
  rw[Nat.eq_of_beq_eq_true h1,Id.beq_iff.1 h2];rfl
 ·obtain⟨h1,h⟩:=Aq h
  cases h
  rw[Id.beq_iff.1 h1];rfl
 ·cases h
def rI:iL→FC→Option (List Lf)
 | .p i,.p j=>DC (Id.beq i j) (some [])
 | .h,.h=>some []
 | .d s,.d x=>XT s (.d x)
 | _,_=>none
def rJ:iL→List Lf→Option (FC×List Lf)
 | .p i,r=>some (.p i,r)
 | .h,r=>some (.h,r)
 | .d s,r=>(match kW s r with
  | some (.d x,r)=>some (.d x,r)
  | _=>none)
theorem ZU {s:iL}{c:FC}{l:List Lf}(h:rI s c=some l) (rest:List Lf):rJ s (l++rest)=some (c,rest):=by
 unfold rI at h
 split at h
 ·obtain⟨h1,h⟩:=Aq h
  cases h
  rw[Id.beq_iff.1 h1];rfl
 ·cases h;rfl
 ·unfold rJ;simp only[];rw[I3 h]
 ·cases h
def Oz:List iL→List FC→Option (List Lf)
 | [],[]=>some []
 | s::ss,c::cs=>(match rI s c with
  | some l=>(match Oz ss cs with
   | some m=>some (l++m)
   | none=>none)
  | none=>none)
 | _,_=>none
def O0:List iL→List Lf→Option (List FC×List Lf)
 | [],r=>some ([],r)
 | s::ss,r=>(match rJ s r with
  | some (c,r)=>(match O0 ss r with
   | some (cs,r)=>some (c::cs,r)
   | none=>none)
  | none=>none)
theorem HO:∀{s:List iL}{c:List FC}{l:List Lf},Oz s c=some l→∀rest,O0 s (l++rest)=some (c,rest)
 | [],[],l,h,rest=>by cases h;rfl
 | s::ss,c::cs,l,h,rest=>by
  unfold Oz at h
  split at h
  ·rename_i a ha
   split at h
   ·rename_i b hb
    cases h
    unfold O0
    rw[List.append_assoc,ZU ha]
    simp only[]
    rw[HO hb]
   ·cases h
  ·cases h
 | [],_::_,_,h,_=>by cases h
 | _::_,[],_,h,_=>by cases h
def H0:List Sj→List CV→Option (List Lf)
 | [],[]=>some []
 | s::ss,c::cs=>(match XT s c with
  | some l=>(match H0 ss cs with
   | some m=>some (l++m)
   | none=>none)
  | none=>none)
 | _,_=>none
def H3:List Sj→List Lf→Option (List CV×List Lf)
 | [],r=>some ([],r)
 | s::ss,r=>(match kW s r with
  | some (c,r)=>(match H3 ss r with
   | some (cs,r)=>some (c::cs,r)
   | none=>none)
  | none=>none)
theorem Fc:∀{s:List Sj}{c:List CV}{l:List Lf},H0 s c=some l→∀rest,H3 s (l++rest)=some (c,rest)
 | [],[],l,h,rest=>by cases h;rfl
 | s::ss,c::cs,l,h,rest=>by
  unfold H0 at h
  split at h
  ·rename_i a ha
   split at h
   ·rename_i b hb
    cases h
    unfold H3
    rw[List.append_assoc,I3 ha]
    simp only[]
    rw[Fc hb]
   ·cases h
  ·cases h
 | [],_::_,_,h,_=>by cases h
 | _::_,[],_,h,_=>by cases h
def V2:Hz→AV→Option (List Lf)
 | .one s,.v (.d (.agg _))=>none
 | .one s,.v (.d x)=>XT s (.d x)
 | .one s,.v (.c (.d _))=>none
 | .one s,.v (.c x)=>XT s x
 | .agg ss,.v (.d (.agg cs))=>H0 ss (cs.map CV.d)
 | .mix ss,.v (.agg cs)=>H0 ss cs
 | .fz f ss,.v (.c (.fz g cs))=>DC (Nat.beq f g) (Oz ss cs)
 | .rp ss,.v (.c (.rp cs))=>H0 ss (cs.map CV.d)
 | .df f ss,.df g cs rows=>DC (Nat.beq f g) (match Oz ss cs with
  | some a=>some (a++[.L rows])
  | none=>none)
 | _,_=>none
def HX:Hz→List Lf→Option (AV×List Lf)
 | .one s,r=>(match kW s r with
  | some (.d x,r)=>some (.v (.d x),r)
  | some (c,r)=>some (.v (.c c),r)
  | none=>none)
 | .agg ss,r=>(match H3 ss r with
  | some (cs,r)=>(match ZT cs with
   | some ds=>some (.v (.d (.agg ds)),r)
   | none=>none)
  | none=>none)
 | .mix ss,r=>(match H3 ss r with
  | some (cs,r)=>some (.v (.agg cs),r)
  | none=>none)
 | .fz f ss,r=>(match O0 ss r with
  | some (cs,r)=>some (.v (.c (.fz f cs)),r)
  | none=>none)
 | .rp ss,r=>(match H3 ss r with
  | some (cs,r)=>(match ZT cs with
   | some ds=>some (.v (.c (.rp ds)),r)
   | none=>none)
  | none=>none)
 | .df f ss,r=>(match O0 ss r with
  | some (cs,.L rows::r)=>some (.df f cs rows,r)
  | _=>none)
theorem O1 {s:Hz}{c:AV}{l:List Lf}(h:V2 s c=some l) (rest:List Lf):HX s (l++rest)=some (c,rest):=by
 unfold V2 at h
 split at h
 ·cases h
 ·unfold HX;simp only[];rw[I3 h]
 ·cases h
 ·rename_i x hx
  unfold HX
  simp only[]
  rw[I3 h]
  cases x<;>first | rfl | exact absurd rfl (hx _)
 ·unfold HX;simp only[];rw[Fc h];simp only[];rw[MX]
 ·unfold HX;simp only[];rw[Fc h]
 ·obtain⟨h1,h⟩:=Aq h
  unfold HX;simp only[];rw[HO h,Nat.eq_of_beq_eq_true h1]
 ·unfold HX;simp only[];rw[Fc h];simp only[];rw[MX]
 ·obtain⟨h1,h⟩:=Aq h
  split at h
  ·rename_i a ha
   cases h
   unfold HX
   simp only[]
   rw[List.append_assoc,HO ha,Nat.eq_of_beq_eq_true h1]
   rfl
  ·cases h
 ·cases h
def Jt:List Hz→List AV→Option (List Lf)
 | [],[]=>some []
 | s::ss,c::cs=>(match V2 s c with
  | some l=>(match Jt ss cs with
   | some m=>some (l++m)
   | none=>none)
  | none=>none)
 | _,_=>none
def Df:List Hz→List Lf→Option (List AV×List Lf)
 | [],r=>some ([],r)
 | s::ss,r=>(match HX s r with
  | some (c,r)=>(match Df ss r with
   | some (cs,r)=>some (c::cs,r)
   | none=>none)
  | none=>none)
theorem Eg:∀{s:List Hz}{c:List AV}{l:List Lf},Jt s c=some l→∀rest,Df s (l++rest)=some (c,rest)
 | [],[],l,h,rest=>by cases h;rfl
 | s::ss,c::cs,l,h,rest=>by
  unfold Jt at h
  split at h
  ·rename_i a ha
   split at h
   ·rename_i b hb
    cases h
    unfold Df
    rw[List.append_assoc,O1 ha]
    simp only[]
    rw[Eg hb]
   ·cases h
  ·cases h
 | [],_::_,_,h,_=>by cases h
 | _::_,[],_,h,_=>by cases h
def ZV:Vz→AD→Option (List Lf)
 | .c s,.cells cs=>H0 s cs
 | .t k ag sz,.tree k' ag' sz' rows none=>DC (rH k k') (DC (ag==ag') (DC (Nat.beq sz sz') (some [.L rows])))
 | .gone,.gone=>some []
 | .te k ag sz,.tree k' ag' sz' [] none=>DC (rH k k') (DC (ag==ag') (DC (Nat.beq sz sz') (some [])))
 | .n f ss,.fnl g cs rows=>DC (Nat.beq f g) (match Oz ss cs with
  | some a=>some (a++[.L rows])
  | none=>none)
 | _,_=>none
def V3:Vz→List Lf→Option (AD×List Lf)
 | .c s,r=>(match H3 s r with
  | some (cs,r)=>some (.cells cs,r)
  | none=>none)
 | .t k ag sz,.L l::r=>some (.tree k ag sz l none,r)
 | .gone,r=>some (.gone,r)
 | .te k ag sz,r=>some (.tree k ag sz [] none,r)
 | .n f ss,r=>(match O0 ss r with
  | some (cs,.L rows::r)=>some (.fnl f cs rows,r)
  | _=>none)
 | _,_=>none
theorem XU {s:Vz}{c:AD}{l:List Lf}(h:ZV s c=some l) (rest:List Lf):V3 s (l++rest)=some (c,rest):=by
 unfold ZV at h
 split at h
 ·unfold V3;simp only[];rw[Fc h]
 ·obtain⟨h1,h⟩:=Aq h
  obtain⟨h2,h⟩:=Aq h
  obtain⟨h3,h⟩:=Aq h
  cases h
  rw[V0 h1,eq_of_beq h2,Nat.eq_of_beq_eq_true h3];rfl
 ·cases h;rfl
 ·obtain⟨h1,h⟩:=Aq h
  obtain⟨h2,h⟩:=Aq h
  obtain⟨h3,h⟩:=Aq h
  cases h
  rw[V0 h1,eq_of_beq h2,Nat.eq_of_beq_eq_true h3];rfl
 ·obtain⟨h1,h⟩:=Aq h
  split at h
  ·rename_i a ha
   cases h
   unfold V3
   simp only[]
   rw[List.append_assoc,HO ha,Nat.eq_of_beq_eq_true h1]
   rfl
  ·cases h
 ·cases h
def F2:List Vz→List AD→Option (List Lf)
 | [],[]=>some []
 | s::ss,o::os=>(match ZV s o with
  | some l=>(match F2 ss os with
   | some m=>some (l++m)
   | none=>none)
  | none=>none)
 | _,_=>none
def DK:List Vz→List Lf→Option (List AD×List Lf)
 | [],r=>some ([],r)
 | s::ss,r=>(match V3 s r with
  | some (c,r)=>(match DK ss r with
   | some (os,r)=>some (c::os,r)
   | none=>none)
  | none=>none)
theorem Cs:∀{s:List Vz}{c:List AD}{l:List Lf},F2 s c=some l→∀rest,DK s (l++rest)=some (c,rest)
 | [],[],l,h,rest=>by cases h;rfl
 | s::ss,c::cs,l,h,rest=>by
  unfold F2 at h
  split at h
  ·rename_i a ha
   split at h
   ·rename_i b hb
    cases h
    unfold DK
    rw[List.append_assoc,XU ha]
    simp only[]
    rw[Cs hb]
   ·cases h
  ·cases h
 | [],_::_,_,h,_=>by cases h
 | _::_,[],_,h,_=>by cases h
def rK:Sj→List Ty→List Ty
 | .int _,l=>.I::l
 | .bool,l=>.B::l
 | .str,l=>.S::l
 | .list _ _,l=>.L::l
 | .tl _ _,l=>.L::l
 | _,l=>l
def ZW:List iL→List Ty→List Ty
 | [],l=>l
 | s::ss,l=>(match s with
  | .d c=>rK c (ZW ss l)
  | _=>ZW ss l)
def S5:List Sj→List Ty→List Ty
 | [],l=>l
 | s::ss,l=>rK s (S5 ss l)
def Gr:List Hz→List Ty→List Ty
 | [],l=>l
 | s::ss,l=>(match s with
  | .one c=>rK c (Gr ss l)
  | .agg cs=>S5 cs (Gr ss l)
  | .mix cs=>S5 cs (Gr ss l)
  | .fz _ cs=>ZW cs (Gr ss l)
  | .rp cs=>S5 cs (Gr ss l)
  | .df _ cs=>ZW cs (.L::Gr ss l))
def HY:List Vz→List Ty
 | []=>[]
 | s::ss=>(match s with
  | .c l=>S5 l (HY ss)
  | .t _ _ _=>.L::HY ss
  | .gone=>HY ss
  | .te _ _ _=>HY ss
  | .n _ cs=>ZW cs (.L::HY ss))
class Rz (ρ:Type) where
 elim:{γ:Type}→ρ→(Nat→List Lf→Option γ)→Option γ
 make:Nat→List Lf→Option ρ
 alt:ρ→Nat
 pack:ρ→List Lf
 law:∀{γ:Type} {p:ρ} {k:Nat→List Lf→Option γ},elim p k=k (alt p) (pack p)
 law2:∀{i:Nat} {l:List Lf} {p:ρ},make i l=some p→alt p=i∧pack p=l
instance rzOf {ρ:Type} [Res ρ]:Rz ρ:=⟨fun p k=>k 0 (Res.pack p),fun i l=>match i with
 | 0=>kV ρ l
 | _+1=>none,fun _=>0,Res.pack,rfl,fun {i l p} h=>by
  cases i with
  | zero=>exact⟨rfl,(Ow h).symm⟩
  | succ i=>cases h⟩
instance rzSum {α β:Type} [Res α] [Rz β]:Rz (α ⊕ β):=⟨fun p k=>match p with
 | .inl a=>k 0 (Res.pack a)
 | .inr b=>Rz.elim b fun i l=>k (i+1) l,fun i l=>match i with
 | 0=>(match kV α l with
  | some a=>some (.inl a)
  | none=>none)
 | i+1=>(match Rz.make i l with
  | some b=>some (.inr b)
  | none=>none),fun p=>match p with
 | .inl _=>0
 | .inr b=>Rz.alt b+1,fun p=>match p with
 | .inl a=>Res.pack a
 | .inr b=>Rz.pack b,fun {γ p k}=>by
  cases p with
  | inl a=>rfl
  | inr b=>exact Rz.law,fun {i l p} h=>by
  cases i with
  | zero=>
   simp only[]at h
   split at h
   ·rename_i a ha;cases h;exact⟨rfl,(Ow ha).symm⟩
   ·cases h
  | succ i=>
   simp only[]at h
   split at h
   ·rename_i b hb
    cases h
    obtain⟨h1,h2⟩:=Rz.law2 hb
    exact⟨by show Rz.alt b+1=_;rw[h1],h2⟩
   ·cases h⟩
structure Bj (γ:Type) where
 p:Nat
 ks:List Nat
 is:List Id
 nx:Nat
 sk:List Hz
 hk:List Vz
 app:Nat→Vx γ (Gr sk (HY hk))
 pl:Pl
def Bj.st (s:Bj γ) (lv:List Lf):Option St:=
 match Df s.sk lv with
 | some (vs,lv)=>(match DK s.hk lv with
  | some (os,_)=>some ⟨HS s.ks vs,HS s.is os,s.nx⟩
  | none=>none)
 | none=>none
def I4 (ks:List Nat) (is:List Id) (n:Nat) (l:List (Nat×Nat)) (σ:St):Option (List AV×List AD):=
 match Dq (AJ σ.heap) (is.map (Oc l))with
 | none=>none
 | some os=>BB (S3 ((is.map (Oc l)).map (DM l)) is)<| BB (BZ (qP (Iu l n)) (ks.map (AQ σ.slots)))<| BB (BZ (fun x:Id×AD=>match Iu l n x.1 with | true=>MB (Iu l n) x.2 | false=>false) (HS (is.map (Oc l)) os))<|
   some ((ks.map (AQ σ.slots)).map (AV.Az (DM l)),os.map (AD.Az (DM l)))
theorem O2 (l:List (Nat×Nat)):∀(ks:List Nat) (vs:List AV),Wz l (HS ks vs)=HS ks (vs.map (AV.Az (DM l)))
 | [],_=>rfl
 | _::_,[]=>rfl
 | k::ks,v::vs=>by show (k,v.Az (DM l))::Wz l (HS ks vs)=_;rw[O2 l ks vs];rfl
theorem O3 (l:List (Nat×Nat)):∀(ks:List Id) (vs:List AD),Nu l (HS ks vs)=HS (ks.map (DM l)) (vs.map (AD.Az (DM l)))
 | [],_=>rfl
 | _::_,[]=>rfl
 | k::ks,v::vs=>by show (DM l k,v.Az (DM l))::Nu l (HS ks vs)=_;rw[O3 l ks vs];rfl
theorem S6 {p:AV→Bool}(l:List (Nat×AV)):∀ks:List Nat,BZ p (ks.map (AQ l))=true→BZ (fun x:Nat×AV=>p x.2) (HS ks (ks.map (AQ l)))=true
 | [],_=>rfl
 | k::ks,h=>by
  unfold List.map BZ at h
  split at h
  ·rename_i hk
   show (match p (AQ l k)with | true=>_ | false=>_)=true
   rw[hk]
   exact S6 l ks h
  ·cases h
section
variable {n:Nat}{σ:St}{os:List AD}
theorem MZ {ks:List Nat}{is:List Id}{l:List (Nat×Nat)}{vs:List AV}(h:I4 ks is n l σ=some (vs,os)):∃σ',BM σ σ'∧σ'=⟨HS ks vs,HS is os,n⟩:=by
 unfold I4 at h
 split at h
 ·cases h
 ·rename_i os' ho
  obtain⟨h0,h⟩:=AG h
  obtain⟨h1,h⟩:=AG h
  obtain⟨h2,h⟩:=AG h
  cases h
  refine Ht (K:=fun σ'=>σ'=_) (ks:=ks) (is:=is.map (Oc l)) (n:=n) (l:=l) ?_
  unfold SJ
  rw[MY ho,Ox]
  refine AA.2 ⟨S6 _ _ h1,AA.2 ⟨h2,?_⟩⟩
  rw[O2,O3,MW h0]
def Bj.run (s:Bj γ) (n:Nat) (l:List (Nat×Nat)) (σ:St):Option (Option γ):=
 match I4 s.ks s.is s.nx l σ with
 | some (vs,os)=>(match Jt s.sk vs with
  | some a=>(match F2 s.hk os with
   | some b=>some (U6 _ (s.app n) (a++b))
   | none=>none)
  | none=>none)
 | none=>none
theorem Bj.uO {s:Bj γ}{l:List (Nat×Nat)}(h:s.run n l σ=some (some r)):∃lv σ',U6 _ (s.app n) lv=some r∧s.st lv=some σ'∧BM σ σ':=by
 unfold Bj.run at h
 split at h
 ·rename_i vs os hk
  split at h
  ·rename_i a ha
   split at h
   ·rename_i b hb
    obtain⟨σ',hw,rfl⟩:=MZ hk
    refine⟨_,_,Option.some.inj h,?_,hw⟩
    unfold Bj.st
    rw[Eg ha]
    simp only[]
    rw[←List.append_nil b,Cs hb]
   ·cases h
  ·cases h
 ·cases h
def H4:List (Bj γ)→Nat→Nat→List (Nat×Nat)→St→Option γ
 | [],_,_,_,_=>none
 | s::l,n,p,rn,σ=>(match Nat.beq s.p p with
  | true=>(match s.run n rn σ with
   | some x=>x
   | none=>H4 l n p rn σ)
  | false=>H4 l n p rn σ)
theorem O4:∀{l:List (Bj γ)}{n p:Nat}{rn:List (Nat×Nat)}{σ:St},H4 l n p rn σ=some r→∃s∈l,s.p=p∧s.run n rn σ=some (some r)
 | s::l,n,p,rn,σ,h=>by
  have rest:H4 l n p rn σ=some r→∃s'∈s::l,s'.p=p∧s'.run n rn σ=some (some r):=fun h=>by
   obtain⟨s',h1,h2⟩:=O4 h
   grind
  unfold H4 at h
  split at h
  ·rename_i hb
   split at h
   ·simp_all
   ·exact rest h
  ·exact rest h
 | [],_,_,_,_,h=>by cases h
def oZ:List (Bj γ)→Nat→Bool
 | [],_=>false
 | s::l,p=>(match Nat.beq s.p p with
  | true=>true
  | false=>oZ l p)
def U7 (ss:List (Bj γ)) (n p:Nat) (tk:Tk) (σ:St):Option γ:=DA tk.gs σ fun σ'=>H4 ss n p tk.l σ'
theorem XV {ss:List (Bj γ)}{p:Nat}{tk:Tk}(h:U7 ss n p tk σ=some r):∃σ1,BM σ σ1∧∃s∈ss,s.p=p∧s.run n tk.l σ1=some (some r):=by
 obtain⟨σ1,hw,h⟩:=Bx (Cw (P:=fun σ'=>H4 ss n p tk.l σ'=some r) (fun σ h=>h) h)
 exact⟨σ1,hw,O4 h⟩
inductive ABl where
 | one (s:Hz)
 | tup (l:List Hz)
structure E9 where
 res:ABl
 post:List Vz
 new:List Vz
def S7 (s:E9) (x:To):Option (List Lf):=
 match s.res,x.res with
 | .one a,.v y=>(match V2 a (.v y)with
  | some l=>(match F2 s.post x.post with
   | some m=>(match F2 s.new x.new with
    | some n=>some (l++(m++n))
    | none=>none)
   | none=>none)
  | none=>none)
 | .tup xs1,.t ys=>(match Jt xs1 (ys.map AV.v)with
  | some l=>(match F2 s.post x.post with
   | some m=>(match F2 s.new x.new with
    | some n=>some (l++(m++n))
    | none=>none)
   | none=>none)
  | none=>none)
 | _,_=>none
def HZ (s:E9) (lv:List Lf):Option To:=
 match s.res with
 | .one a=>(match HX a lv with
  | some (y,lv)=>(match DK s.post lv with
   | some (os,lv)=>(match DK s.new lv with
    | some (ns,_)=>some ⟨y,os,ns⟩
    | none=>none)
   | none=>none)
  | none=>none)
 | .tup xs1=>(match Df xs1 lv with
  | some (ys,lv)=>(match XR ys with
   | some xs=>(match DK s.post lv with
    | some (os,lv)=>(match DK s.new lv with
     | some (ns,_)=>some ⟨.t xs,os,ns⟩
     | none=>none)
    | none=>none)
   | none=>none)
  | none=>none)
theorem XW:∀{s:E9}{x:To}{l:List Lf},S7 s x=some l→HZ s l=some x
 | ⟨.one a,ps,qs⟩,⟨.v y,post,new⟩,l,h=>by
  unfold S7 at h
  simp only[]at h
  split at h
  ·rename_i l1 h1
   split at h
   ·rename_i l2 h2
    split at h
    ·rename_i l3 h3
     cases h
     unfold HZ
     simp only[]
     rw[O1 h1]
     simp only[]
     rw[Cs h2]
     simp only[]
     rw[←List.append_nil l3,Cs h3]
    ·cases h
   ·cases h
  ·cases h
 | ⟨.tup xs1,ps,qs⟩,⟨.t ys,post,new⟩,l,h=>by
  unfold S7 at h
  simp only[]at h
  split at h
  ·rename_i l1 h1
   split at h
   ·rename_i l2 h2
    split at h
    ·rename_i l3 h3
     cases h
     unfold HZ
     simp only[]
     rw[Eg h1]
     simp only[]
     rw[QY]
     simp only[]
     rw[Cs h2]
     simp only[]
     rw[←List.append_nil l3,Cs h3]
    ·cases h
   ·cases h
  ·cases h
 | ⟨.one _,_,_⟩,⟨.t _,_,_⟩,_,h=>by cases h
 | ⟨.tup _,_,_⟩,⟨.v _,_,_⟩,_,h=>by cases h
 | ⟨.one _,_,_⟩,⟨.u,_,_⟩,_,h=>by cases h
 | ⟨.tup _,_,_⟩,⟨.u,_,_⟩,_,h=>by cases h
def I5:List E9→Nat→Option E9
 | [],_=>none
 | s::_,0=>some s
 | _::l,n+1=>I5 l n
structure BC where
 f:FuncId
 args:List Hz
 pre:List Vz
 ret:List E9
 ρ:Type
 inst:Rz ρ
 F:Nat→Vx ρ (Gr args (HY pre))
def BC.Nd (T:oU) (c:BC) (n:Nat):Prop:=∀lv p,U6 _ (c.F n) lv=some p→∀xs1 pre rk ret l1 l2,Df c.args lv=some (xs1,l1)→DK c.pre l1=some (pre,l2)→I5 c.ret (c.inst.alt p)=some rk→HZ rk (c.inst.pack p)=some ret→∀xs,XR xs1=some xs→T c.f xs pre ret
abbrev BC.ok (P:Program) (I:Inv) (c:BC) (n:Nat):Prop:=c.Nd (TrC P I) n
def Ey:List BC→Nat→Xo γ
 | [],_,_,_,_,_=>none
 | c::l,n,f,args,pre,k=>(match Nat.beq c.f f with
  | true=>(match Jt c.args (args.map AV.v)with
   | some a=>(match F2 c.pre pre with
    | some b=>(match U6 _ (c.F n) (a++b)with
     | some p=>c.inst.elim p fun i l=>(match I5 c.ret i with
      | some rk=>(match HZ rk l with
       | some ret=>k i ret
       | none=>none)
      | none=>none)
     | none=>none)
    | none=>Ey l n f args pre k)
   | none=>Ey l n f args pre k)
  | false=>Ey l n f args pre k)
theorem H5 {T:oU}{n:Nat}:∀{l:List BC},(∀c∈l,c.Nd T n)→(Ey l n:Xo γ).Nd T
 | [],_=>fun _ _ _ _ _ h=>by cases h
 | c::l,hc=>fun f args pre k r h=>by
  have rest:=H5 (T:=T) (n:=n) (l:=l) fun c' hc'=>hc c' (List.mem_cons_of_mem _ hc')
  unfold Ey at h
  split at h
  ·rename_i hf
   split at h
   ·rename_i a ha
    split at h
    ·rename_i b hb
     split at h
     ·rename_i p hp
      rw[c.inst.law]at h
      split at h
      ·rename_i rk hrk
       split at h
       ·rename_i ret hr
        have e1:=Eg ha b
        have e2:=Cs hb []
        rw[List.append_nil]at e2
        have:=hc c (List.mem_cons_self ..) _ _ hp _ _ _ _ _ _ e1 e2 hrk hr args (QY args)
        rw[Nat.eq_of_beq_eq_true hf]at this
        exact⟨_,_,_,_,this,h⟩
       ·cases h
      ·cases h
     ·cases h
    ·exact rest f args pre k r h
   ·exact rest f args pre k r h
  ·exact rest f args pre k r h
theorem Ma {P:Program}{I:Inv}{c:BC}(h:XS _ (c.F n) fun lv p=>∀xs1 pre rk ret l1 l2,Df c.args lv=some (xs1,l1)→DK c.pre l1=some (pre,l2)→I5 c.ret (c.inst.alt p)=some rk→HZ rk (c.inst.pack p)=some ret→∀xs,XR xs1=some xs→Ct P I c.f xs pre ret.res ret.post ret.new):c.ok P I n:=fun _ _ e=>I2 h e
def Mb (ti:Types) (rs:List ResultVar) (np:Nat) (σ:St) (fin:To→Option γ):Option γ:=
 match Sz ti σ rs with
 | none=>none
 | some xs=>(match Dq (AJ σ.heap) (Fb 0 np),Dq (AJ σ.heap) (Dr (Ce (AJ σ.heap) 100 (Cc xs++Fb 0 np) []))with
  | some ps,some ns=>BB (nodupB (Dr (Ce (AJ σ.heap) 100 (Cc xs++Fb 0 np) [])))<|
    BB (qP (KU (Dr (Ce (AJ σ.heap) 100 (Cc xs++Fb 0 np) [])) σ.next) (Vg xs))<| BB (BZ (MB (KU (Dr (Ce (AJ σ.heap) 100 (Cc xs++Fb 0 np) [])) σ.next)) ps)<|
    BB (BZ (MB (KU (Dr (Ce (AJ σ.heap) 100 (Cc xs++Fb 0 np) [])) σ.next)) ns)<|
    fin ⟨(Vg xs).Az (MV (Dr (Ce (AJ σ.heap) 100 (Cc xs++Fb 0 np) []))),ps.map (AD.Az (MV (Dr (Ce (AJ σ.heap) 100 (Cc xs++Fb 0 np) [])))),ns.map (AD.Az (MV (Dr (Ce (AJ σ.heap) 100 (Cc xs++Fb 0 np) []))))⟩
  | _,_=>none)
theorem F3 {f:{γ:Type}→CV→(D→List Id→Option γ)→Option γ}(hf:∀{γ:Type}{r:γ}(c:CV) (K:D→List Id→Option γ),f c K=some r→∃d is,K d is=some r∧∀{γ':Type}(K':D→List Id→Option γ') (r':γ'),K' d is=some r'→f c K'=some r'):
  ∀{l:List CV} {K:List D→List Id→Option γ},FX f l K=some r→∃d is,K d is=some r∧∀{γ':Type} (K':List D→List Id→Option γ') (r':γ'),K' d is=some r'→FX f l K'=some r'
 | [],K,e=>⟨[],[],e,fun K' r' h=>h⟩
 | c::l,K,e=>by
  obtain⟨d,is,e,h1⟩:=hf c _ e
  obtain⟨ds,js,e,h2⟩:=F3 hf e
  exact⟨d::ds,is++js,e,fun K' r' h=>h1 _ _ (h2 _ _ h)⟩
theorem I6 {h:Heap}:∀{n:Nat}{γ:Type}{r:γ}(c:CV) (K:D→List Id→Option γ),CI h n c K=some r→∃d is,K d is=some r∧∀{γ':Type}(K':D→List Id→Option γ') (r':γ'),K' d is=some r'→CI h n c K'=some r'
 | 0,_,_,_,_,e=>by cases e
 | n+1,γ,r,c,K,e=>by
  unfold CI at e
  split at e
  ·split at e
   ·cases e
   ·rename_i hc;exact⟨_,_,e,fun K' r' h=>by unfold CI;simp only[hc];exact h⟩
  ·exact⟨_,_,e,fun K' r' h=>h⟩
  ·split at e
   ·rename_i hc;exact⟨_,_,e,fun K' r' h=>by unfold CI;simp only[hc];exact h⟩
   ·cases e
  ·split at e
   ·rename_i hj
    split at e
    ·rename_i hx;exact⟨_,_,e,fun K' r' h=>by unfold CI;simp_all⟩
    ·cases e
   ·cases e
  ·split at e
   ·split at e
    ·rename_i hj
     obtain⟨d,is,e,h1⟩:=F3 (f:=fun {γ}=>CI h n) (fun c K e=>I6 c K e) e
     exact⟨_,_,e,fun K' r' h=>by unfold CI;simp_all⟩
    ·cases e
   ·cases e
  ·cases e
theorem I7:∀{l:List Id}{h:Heap}{K:Heap→List Id→List (Id×AD)→Option γ},Dc h l K=some r→∃a b c,K a b c=some r∧∀{γ':Type}(K':Heap→List Id→List (Id×AD)→Option γ') (r':γ'),K' a b c=some r'→Dc h l K'=some r'
 | [],_,_,e=>⟨_,_,_,e,fun K' r' h=>h⟩
 | i::l,h,K,e=>by
  unfold Dc at e
  split at e
  ·rename_i hi
   obtain⟨h1,e⟩:=AG e
   obtain⟨ds,is,e,h2⟩:=F3 (f:=fun {γ}=>CI h 3) (fun c K e=>I6 c K e) e
   obtain⟨h3,e⟩:=AG e
   obtain⟨h4,e⟩:=AG e
   obtain⟨a,b,c,e,h5⟩:=I7 (l:=l) e
   refine⟨_,_,_,e,fun K' r' h'=>?_⟩
   unfold Dc
   simp only[hi]
   rw[h1]
   refine h2 _ _ ?_
   rw[h3,h4]
   exact h5 (fun h' rd wr=>K' h' (i::(is++rd)) ((i,_)::(Ah is++wr))) r' h'
  ·cases e
theorem DD:∀{l:List Gh}{σ:St}{K:St→Option γ},DA l σ K=some r→∃σ1,K σ1=some r∧∀{γ':Type}(K':St→Option γ') (r':γ'),K' σ1=some r'→DA l σ K'=some r'
 | [],σ,_,e=>⟨σ,e,fun K' r' h=>h⟩
 | x::l,σ,K,e=>by
  unfold DA at e
  split at e
  ·obtain⟨a,b,c,e,h1⟩:=I7 e
   obtain⟨σ1,e,h2⟩:=DD e
   exact⟨σ1,e,fun K' r' h=>by unfold DA;simp_all⟩
  ·obtain⟨g1,e⟩:=AG e
   obtain⟨g2,e⟩:=AG e
   obtain⟨σ1,e,h2⟩:=DD e
   exact⟨σ1,e,fun K' r' h=>by unfold DA;simp only[g1,g2];exact h2 K' r' h⟩
  ·obtain⟨g1,e⟩:=AG e
   split at e
   ·rename_i hi
    obtain⟨g2,e⟩:=AG e
    obtain⟨σ1,e,h2⟩:=DD e
    exact⟨σ1,e,fun K' r' h=>by unfold DA;simp only[g1,hi,g2];exact h2 K' r' h⟩
   ·cases e
  ·split at e
   ·rename_i hi
    split at e
    ·obtain⟨g2,e⟩:=AG e
     obtain⟨σ1,e,h2⟩:=DD e
     exact⟨σ1,e,fun K' r' h=>by unfold DA;simp only[hi,g2];exact h2 K' r' h⟩
    ·cases e
   ·cases e
  ·split at e
   ·rename_i hi
    obtain⟨σ1,e,h2⟩:=DD e
    exact⟨σ1,e,fun K' r' h=>by unfold DA;simp_all⟩
   ·cases e
  ·split at e
   ·rename_i hi
    split at e
    ·split at e
     ·obtain⟨σ1,e,h2⟩:=DD e
      exact⟨σ1,e,fun K' r' h=>by unfold DA;simp_all⟩
     ·cases e
    ·cases e
   ·cases e
  ·split at e
   ·rename_i hi
    split at e
    ·obtain⟨σ1,e,h2⟩:=DD e
     exact⟨σ1,e,fun K' r' h=>by unfold DA;simp_all⟩
    ·cases e
   ·cases e
  ·split at e
   ·rename_i hi
    obtain⟨σ1,e,h2⟩:=DD e
    exact⟨σ1,e,fun K' r' h=>by unfold DA;simp_all⟩
   ·cases e
  ·split at e
   ·rename_i hi
    obtain⟨g1,e⟩:=AG e
    split at e
    ·rename_i hb
     obtain⟨σ1,e,h2⟩:=DD e
     exact⟨σ1,e,fun K' r' h=>by unfold DA;simp only[hi,g1,hb];exact h2 K' r' h⟩
    ·cases e
   ·cases e
theorem kX {l:List Gh}{K:St→Option γ}(e:DA l σ K=some r):∃σ1,K σ1=some r∧∀P:St→Prop,P σ1→gh l σ P:=by
 obtain⟨σ1,e,h⟩:=DD e
 refine⟨σ1,e,fun P hP=>?_⟩
 classical
 exact Cw (K:=fun σ=>if P σ then some ()else none) (r:=()) (fun σ hσ=>by
  simp_all) (h _ _ (if_pos hP))
theorem Ju {ti:Types}{rs:List ResultVar}{np:Nat}{σ0:St}{gs:List Gh}{fin:To→Option γ}(hg:DA gs σ0 (fun σ=>Mb ti rs np σ fin)=some r):∃res post new,fin ⟨res,post,new⟩=some r∧Ho ti rs σ0 res post new:=by
 obtain⟨σ,e,hP⟩:=kX hg
 unfold Mb at e
 split at e
 ·cases e
 ·rename_i xs hxs
  generalize hm:Ce (AJ σ.heap) 100 (Cc xs++Fb 0 np) []=m at e
  split at e
  ·rename_i ps ns hp hn
   obtain⟨h1,e⟩:=AG e
   obtain⟨h2,e⟩:=AG e
   obtain⟨h3,e⟩:=AG e
   obtain⟨h4,e⟩:=AG e
   exact⟨_,_,_,e,gs,hP _ (MU hxs ⟨Dr m,h1,(UN (p:=KU (Dr m) σ.next) (fun i hi=>Id.beq_iff.1 hi) h2).symm,Jr hp h3,S0 hn h4,Js _⟩)⟩
  ·cases e
def ZX (ti:Types) (rs:List ResultVar) (np:Nat) (fin:To→Option γ):QV γ:=fun pl e σ=>match e with
 | .exit _=>none
 | .normal=>DA pl.take.gs σ fun σ=>Mb ti rs np σ fin
 | .ret=>DA pl.take.gs σ fun σ=>Mb ti rs np σ fin
structure Sw (P:Program) (ti:Types) where
 ds:(γ:Type)→Ds γ
 el:oO
 sok:TypeId→Bool
 hd:∀γ,(ds γ).ok
 hs:Sok P ti sok
def QZ {P:Program}{ti:Types}(w:Sw P ti) (own:Bool) (cs:List BC) (ss:List (Bj γ)) (cl:Bool) (n:Nat):EnvP γ:={ds:=w.ds γ,el:=w.el,own:=own,sok:=w.sok,call:=Ey cs n,has:=oZ ss,rest:=U7 ss n,cl:=cl}
def Qa (mk:Nat→List Lf→Option γ):List E9→Nat→To→Option γ
 | [],_,_=>none
 | s::l,i,x=>(match S7 s x with
  | some v=>mk i v
  | none=>Qa mk l (i+1) x)
theorem O5 {mk:Nat→List Lf→Option γ}:∀{l:List E9}{i:Nat}{x:To},Qa mk l i x=some r→∃j rk v,I5 l j=some rk∧S7 rk x=some v∧mk (i+j) v=some r
 | [],_,_,h=>by cases h
 | s::l,i,x,h=>by
  unfold Qa at h
  split at h
  ·rename_i v hv;exact⟨0,s,v,rfl,hv,h⟩
  ·obtain⟨j,rk,v,h1,h2,h3⟩:=O5 h
   exact⟨j+1,rk,v,h1,h2,by grind⟩
def Fe (l:List D) (a:Option γ) (b:D→List D→Option γ):Option γ:=match l with
 | []=>a
 | x::l=>b x l
def ZY (f:Nat) (cs:List FC) (s:Bj γ) (n:Nat) (σ:St):Option γ:=
 match s.ks with
 | [t]=>BB (Nat.beq t DT)<| (match AQ σ.slots DT with
  | .df g cs' _=>BB (Nat.beq g f)<| BB (KS cs' cs)<| (match s.run n [] σ with
   | some x=>x
   | none=>none)
  | _=>none)
 | _=>none
def Ez (f:Nat) (cs:List FC):List (Bj γ)→Nat→St→Option γ
 | [],_,_=>none
 | s::l,n,σ=>(match Nat.beq s.p 0 with
  | true=>ZY f cs s n σ
  | false=>Ez f cs l n σ)
theorem U8 {ks:List Nat}{is:List Id}{l:List (Nat×Nat)}{vs:List AV}(h:I4 ks is n l σ=some (vs,os)):vs=(ks.map (AQ σ.slots)).map (AV.Az (DM l)):=by
 unfold I4 at h
 split at h
 ·cases h
 ·obtain⟨_,h⟩:=AG h
  obtain⟨_,h⟩:=AG h
  obtain⟨_,h⟩:=AG h
  cases h
  rfl
theorem FC.WI:∀cs:List FC,cs.map (FC.Az (DM []))=cs
 | []=>rfl
 | c::cs=>by
  rw[List.map_cons,FC.WI cs]
  cases c with
  | p i=>cases i<;>rfl
  | d x=>rfl
  | h=>rfl
theorem Mc {f:Nat}{cs:List FC}{n:Nat}{σ:St}:∀{ss:List (Bj γ)},Ez f cs ss n σ=some r→∃s∈ss,s.p=0∧∃rows lv σ',AQ σ.slots DT= .df f cs rows∧U6 _ (s.app n) lv=some r∧s.st lv=some σ'∧BM σ σ'∧AQ σ'.slots DT= .df f cs rows
 | [],h=>by cases h
 | s::l,h=>by
  unfold Ez at h
  split at h
  ·rename_i hb
   refine⟨s,List.mem_cons_self ..,Nat.eq_of_beq_eq_true hb,?_⟩
   unfold ZY at h
   split at h
   ·rename_i t ht
    obtain⟨h1,h⟩:=AG h
    split at h
    ·rename_i g cs' rows hd
     obtain⟨h2,h⟩:=AG h
     obtain⟨h3,h⟩:=AG h
     split at h
     ·rename_i x hx
      subst h
      rw[Nat.eq_of_beq_eq_true h1]at ht
      rw[Nat.eq_of_beq_eq_true h2,Gp h3]at hd
      unfold Bj.run at hx
      split at hx
      ·rename_i vs os hk
       split at hx
       ·rename_i a ha
        split at hx
        ·rename_i b hb2
         obtain⟨σ',hw,rfl⟩:=MZ hk
         have hv:=U8 hk
         refine⟨rows,_,_,hd,Option.some.inj hx,?_,hw,?_⟩
         ·unfold Bj.st
          rw[Eg ha]
          simp only[]
          rw[←List.append_nil b,Cs hb2]
         ·rw[ht]at hv ⊢
          rw[hv]
          show AQ [(DT,(AQ σ.slots DT).Az (DM []))] DT=_
          rw[hd]
          show AQ [(DT,AV.df f (cs.map (FC.Az (DM []))) rows)] DT=_
          rw[FC.WI]
          rfl
        ·cases hx
       ·cases hx
      ·cases hx
     ·cases h
    ·cases h
   ·cases h
  ·obtain⟨s',h1,h2⟩:=Mc h
   grind
def Qb (ds:Ds γ) (call:Xo γ) (ti:Types) (rs:List ResultVar) (np:Nat) (fin:To→Option γ) (f:Nat) (cs:List FC) (lv:St→Option γ) (pl:Pl) (σ:St):Option γ:=
 match AQ σ.slots DT with
 | .df g cs' rows=>BB (Nat.beq g f)<| BB (KS cs' cs)<| Fe rows (DA pl.take.gs σ fun σ=>Mb ti rs np σ fin) fun x rows'=>ds (xN f) x fun x=>
   Iz call f ((fill cs x.cells).map WJ) (Ce (AJ σ.heap) 100 (Cc ((fill cs x.cells).map WJ)) []) σ.next (AJ σ.heap) .e fun _ _ wr=>lv ⟨(DT,.df f cs rows')::σ.slots,Cb σ.heap wr,σ.next+32⟩
 | _=>none
def kfY (ti:Types) (rs:List ResultVar) (np:Nat) (fin:To→Option γ) (df:Option (Nat×List FC)) (ss:List (Bj γ)) (n:Nat):QV γ:=match df with
 | none=>ZX ti rs np fin
 | some x=>fun _ e σ=>(match e with
  | .exit _=>none
  | .normal=>Ez x.1 x.2 ss n σ
  | .ret=>Ez x.1 x.2 ss n σ)
def xR {P:Program}{ti:Types}(w:Sw P ti) (own:Bool) (cs dc:List BC) (ss:List (Bj γ)) (nt:Nat) (body:Code) (rs:List ResultVar) (np:Nat) (fin:To→Option γ) (df:Option (Nat×List FC)) (n p:Nat) (pl:Pl) (σ:St):Option γ:=
 match df with
 | none=>F1 (QZ w own cs ss false n) ti nt body (ZX ti rs np fin) (Ou 300 p) pl σ
 | some x=>(match Nat.beq p 0 with
  | true=>Qb (w.ds γ) (Ey dc n) ti rs np fin x.1 x.2 (Ez x.1 x.2 ss n) pl σ
  | false=>F1 (QZ w own cs ss true n) ti nt body (kfY ti rs np fin (some x) ss n) (Ou 300 p) pl σ)
def U9 (P:Program) (I:Inv):oU:=fun f args pre x=>SM P I f args pre fun a b c=>a=x.res∧b=x.post∧c=x.new
end
section
variable {P:Program}{I:Inv}{ti:Types}(w:Sw P ti) {own:Bool}{cs dc:List BC}{ss:List (Bj γ)}{nt:Nat}{c:Code}{rs:List ResultVar}{np:Nat}{fin:To→Option γ}{df:Option (Nat×List FC)}{Q:AV→List AD→List AD→Prop}{M:Au}
def Bj.ok (own:Bool) (cs dc:List BC) (ss:List (Bj γ)) (nt:Nat) (body:Code) (rs:List ResultVar) (np:Nat) (fin:To→Option γ) (df:Option (Nat×List FC)) (s:Bj γ):Prop:=
 (∀lv r,U6 _ (s.app 0) lv≠some r)∧(s.p=0∨Bd (Ou 300 s.p)=s.p)∧∀n lv σ r,U6 _ (s.app (n+1)) lv=some r→s.st lv=some σ→xR w own cs dc ss nt body rs np fin df n s.p s.pl σ=some r
def kY (M:Au) (ti:Types) (rs:List ResultVar) (Q:AV→List AD→List AD→Prop) (df:Option (Nat×List FC)) (σ:St):Prop:=match df with
 | none=>∃res post new,Q res post new∧Ho ti rs σ res post new
 | some x=>∃rows,Ee M ti rs Q x.1 x.2 rows σ∧AQ σ.slots DT= .df x.1 x.2 rows
theorem Jv {f:Nat}{cf:List FC}(hP:M.P=P) (hI:M.I=I) (hQ:∀a b c,fin ⟨a,b,c⟩=some r→Q a b c) (hs:∀s∈ss,s.ok w own cs dc ss nt c rs np fin (some (f,cf))):∀(n:Nat) (σ:St),(∀m,m≤n→∀d∈dc,d.Nd (U9 P I) m)→Ez f cf ss n σ=some r→∃rows,Ee M ti rs Q f cf rows σ∧AQ σ.slots DT= .df f cf rows
 | n,σ,hd,h=>by
  obtain⟨s,hm,h0,rows,lv,σ',g1,g2,g3,g4,g5⟩:=Mc h
  obtain⟨k1,_,k3⟩:=hs s hm
  cases n with
  | zero=>simp_all
  | succ n=>
   refine⟨rows,Ee.AIa g4 ?_,g1⟩
   have e:=k3 n lv σ' r g2 g3
   unfold xR at e
   rw[h0]at e
   replace e:Qb (w.ds γ) (Ey dc n) ti rs np fin f cf (Ez f cf ss n) s.pl σ'=some r:=e
   unfold Qb at e
   rw[g5]at e
   simp only[]at e
   obtain⟨_,e⟩:=AG e
   obtain⟨_,e⟩:=AG e
   cases rows with
   | nil=>
    obtain⟨res,post,new,e1,e2⟩:=Ju e
    exact⟨σ',BM.refl _,res,post,new,hQ _ _ _ e1,e2⟩
   | cons x rows'=>
    replace e:=w.hd γ _ _ _ _ e
    obtain⟨targs,pre,res,post,new,p,q1,q2,q3,q4,q5,q6,q7,e⟩:=Hx (H5 (T:=U9 P I) (hd n (Nat.le_succ n))) e
    obtain⟨rows2,e1,e2⟩:=Jv hP hI hQ hs n _ (fun m hm=>hd m (Nat.le_succ_of_le hm)) e
    have:rows2=rows':=by
     rw[Ba]at e2
     grind
    subst this
    refine⟨σ',BM.refl _,g5,_,targs,pre,_,by rw[hP,hI];exact q1,q2,q3,q4,q5,?_⟩
    grind
theorem kZ {N:Nat}{pl:Pl}{σ0:St}(hP:M.P=P) (hI:M.I=I) (hcl:df.isSome=true→M.cl=true) (hc:∀m,m≤N→∀c∈cs,c.ok P I m) (hd:∀m,m≤N→∀d∈dc,d.Nd (U9 P I) m) (hs:∀s∈ss,s.ok w own cs dc ss nt c rs np fin df)
  (hx:xR w own cs dc ss nt c rs np fin df N 1 pl σ0=some r) (hQ:∀a b c,fin ⟨a,b,c⟩=some r→Q a b c):
  exec M ti nt (BI ti M nt) c σ0 fun e σ=>match e with
   | .exit _=>False
   | .normal=>kY M ti rs Q df σ
   | .ret=>kY M ti rs Q df σ:=by
 have hx':F1 (QZ w own cs ss df.isSome N) ti nt c (kfY ti rs np fin df ss N) [] pl σ0=some r:=by
  cases df<;>exact hx
 refine (De (M:=M) (N:=N) (E:=QZ w own cs ss df.isSome) (Kf:=kfY ti rs np fin df ss) (body:=c) (ti:=ti) (nt:=nt) (r:=r) (fun m hm=>⟨w.hd γ,by rw[hP];exact w.hs,by rw[hP,hI];exact H5 (hc m hm)⟩) (fun m h=>hcl h) (fun m hm wy tk σ e=>?_) c [] N (fun m=>kfY ti rs np fin df ss m) _ (Nat.le_refl _) (fun _ _=>rfl) (fun m p e σ hm h=>?_)).2 _ _ hx'
 ·replace e:U7 ss m (Bd wy) tk σ=some r:=e
  obtain⟨σ1,hw,s,hmem,hp,e1⟩:=XV e
  obtain⟨lv,σ',g1,g2,g3⟩:=Bj.uO e1
  obtain⟨k1,k2,k3⟩:=hs s hmem
  have hpos:=HM wy
  have k2:Bd (Ou 300 s.p)=s.p:=k2.resolve_left (by omega)
  cases m with
  | zero=>simp_all
  | succ m=>
   refine⟨m,σ',_,s.pl,Nat.lt_succ_self m,BM.trans hw g3,k2.trans hp,?_⟩
   have:=k3 m lv σ' r g1 g2
   unfold xR at this
   cases df with
   | none=>exact this
   | some x=>
    have hz:Nat.beq s.p 0=false:=by
     cases hb:Nat.beq s.p 0 with
     | false=>rfl
     | true=>have:=Nat.eq_of_beq_eq_true hb;omega
    simp_all
 ·cases df with
  | none=>
   cases e with
   | exit id=>cases h
   | normal=>
    obtain⟨a,b,c,h1,h2⟩:=Ju h
    exact⟨a,b,c,hQ _ _ _ h1,h2⟩
   | ret=>
    obtain⟨a,b,c,h1,h2⟩:=Ju h
    exact⟨a,b,c,hQ _ _ _ h1,h2⟩
  | some x=>
   cases e with
   | exit id=>cases h
   | normal=>exact Jv w hP hI hQ hs m σ (fun k hk=>hd k (Nat.le_trans hk hm)) h
   | ret=>exact Jv w hP hI hQ hs m σ (fun k hk=>hd k (Nat.le_trans hk hm)) h
end
structure AH where
 f:FuncId
 fn:Func
 own:Bool
 args:List Hz
 pre:List Vz
 ret:List E9
 ρ:Type
 inst:Rz ρ
 F:Nat→Vx ρ (Gr args (HY pre))
 pl:Pl
 sites:List (Bj ρ)
 /-- The closure that it defers; how that one is called. -/
 df:Option (Nat×List FC):=none
 dc:List BC:=[]
def AH.c (x:AH):BC:=⟨x.f,x.args,x.pre,x.ret,x.ρ,x.inst,x.F⟩
def AH.go {P:Program}{ti:Types}(w:Sw P ti) (x:AH) (cs:List BC) (n p:Nat) (pl:Pl) (σ:Option St):Option x.ρ:=
 match σ with
 | some σ=>xR w x.own cs x.dc x.sites x.fn.ntmps (Oy x.fn) x.fn.results.toList x.pre.length (Qa x.inst.make x.ret 0) x.df n p pl σ
 | none=>none
def VA (df:Option (Nat×List FC)) (l:List (Nat×AV)):List (Nat×AV):=match df with
 | none=>l
 | some x=>(DT,.df x.1 x.2 [])::l
def AH.st (x:AH) (lv:List Lf):Option St:=
 match Df x.args lv with
 | some (xs1,l)=>(match XR xs1 with
  | some xs=>(match DK x.pre l with
   | some (os,_)=>some ⟨VA x.df (slotsOf xs 0),Bi os 0,0⟩
   | none=>none)
  | none=>none)
 | none=>none
def ZZ (γ:Type):List (Bj γ)→Type
 | []=>Unit
 | s::l=>(Vx γ (Gr s.sk (HY s.hk))×(Nat→Vx γ (Gr s.sk (HY s.hk))))×ZZ γ l
def Cy:(l:List (Bj γ))→ZZ γ l
 | []=>()
 | s::l=>((s.app 0,fun n=>s.app (n+1)),Cy l)
def Cz (go:Nat→Nat→Pl→Option St→Option γ):(l:List (Bj γ))→ZZ γ l
 | []=>()
 | s::l=>((HW _,fun n=>Gq _ fun lv=>go n s.p s.pl (s.st lv)),Cz go l)
def AH.eqn {P:Program}{ti:Types}(w:Sw P ti) (x:AH) (cs:List BC):Prop:=
 Cy x.sites=Cz (AH.go w x cs) x.sites∧(x.F 0,fun n=>x.F (n+1))=(HW _,fun n=>Gq _ fun lv=>AH.go w x cs n 1 x.pl (x.st lv))
def AH.zQ {P:Program}{ti:Types}(w:Sw P ti) (x:AH) (cs:List BC):Prop:=
 Cy x.sites=Cz (AH.go w x cs) x.sites∧x.F=fun n=>Gq _ fun lv=>AH.go w x cs n 1 x.pl (x.st lv)
theorem S8 {go:Nat→Nat→Pl→Option St→Option γ}:∀{l:List (Bj γ)},Cy l=Cz go l→∀s∈l,(s.app 0=HW _∧(fun n=>s.app (n+1))=fun n=>Gq _ fun lv=>go n s.p s.pl (s.st lv))
 | s::l,h,t,ht=>by
  have h1:=congrArg (fun x:ZZ γ (s::l)=>x.1) h
  have h2:=congrArg (fun x:ZZ γ (s::l)=>x.2) h
  cases ht with
  | head=>exact⟨congrArg Prod.fst h1,congrArg Prod.snd h1⟩
  | tail _ ht=>exact S8 h2 t ht
 | [],_,_,ht=>by cases ht
def AH.fits (P:Program) (x:AH):Bool:=
 (match x.fn.body with
 | some _=>true
 | none=>false)&&!(x.fn.name== "runtime.NumGoroutine")&&Nat.ble x.args.length x.fn.ntmps&&BZ (fun s:Bj x.ρ=>Nat.beq s.p 0 || Nat.beq (Bd (Ou 300 s.p)) s.p) x.sites&&(match x.df with
 | none=>true
 | some _=>Nat.ble x.fn.ntmps DT&&Dv (Oy x.fn))
theorem Md:∀{s:List Hz}{l:List Lf}{xs1:List AV}{q:List Lf},Df s l=some (xs1,q)→xs1.length=s.length
 | [],l,xs1,q,h=>by cases h;rfl
 | s::ss,l,xs1,q,h=>by
  unfold Df at h
  split at h
  ·split at h
   ·rename_i h2;cases h;simp[Md h2]
   ·cases h
  ·cases h
section
variable {x:AH}{N:Nat}{lv:List Lf}{p:x.ρ}
theorem AH.pN {P:Program}{I:Inv}{ti:Types}(w:Sw P ti) {cs:List BC}(hf:P.funcs[x.f]?=some x.fn) (hx:x.fits P=true) (he:Cy x.sites=Cz (AH.go w x cs) x.sites) (hc:∀m,m≤N→∀c∈cs,c.ok P I m) (hd:∀m,m≤N→∀d∈x.dc,d.Nd (U9 P I) m) (hp:AH.go w x cs N 1 x.pl (x.st lv)=some p)
  {xs1:List AV} {pre:List AD} {rk:E9} {ret:To} {l1 l2:List Lf} (e1:Df x.args lv=some (xs1,l1)) (e2:DK x.pre l1=some (pre,l2)) (e6:I5 x.ret (x.inst.alt p)=some rk) (e3:HZ rk (x.inst.pack p)=some ret) {xs:List V1} (e4:XR xs1=some xs):
  (x.fn.body=some (Oy x.fn)∧(x.fn.name== "runtime.NumGoroutine")=false∧Nat.ble xs.length x.fn.ntmps=true)∧∀M:Au,M.P=P→M.I=I→(x.df.isSome=true→M.cl=true)→exec M ti x.fn.ntmps (BI ti M x.fn.ntmps) (Oy x.fn) ⟨VA x.df (slotsOf xs 0),Bi pre 0,0⟩ fun e σ=>match e with
   | .exit _=>False
   | .normal=>kY M ti x.fn.results.toList (fun a b c=>a=ret.res∧b=ret.post∧c=ret.new) x.df σ
   | .ret=>kY M ti x.fn.results.toList (fun a b c=>a=ret.res∧b=ret.post∧c=ret.new) x.df σ:=by
 unfold AH.fits at hx
 simp only[Bool.and_eq_true,Bool.not_eq_true']at hx
 obtain⟨⟨⟨⟨g1,g2⟩,g3⟩,g4⟩,_⟩:=hx
 obtain⟨c,hb⟩:∃c,x.fn.body=some c:=by
  grind
 have hbody:Oy x.fn=c:=by unfold Oy;rw[hb]
 have hst:x.st lv=some ⟨VA x.df (slotsOf xs 0),Bi pre 0,0⟩:=by unfold AH.st;simp_all
 rw[hst]at hp
 unfold AH.go at hp
 simp only[]at hp
 refine⟨⟨by rw[hbody];exact hb,g2,by rw[Vy e4,Md e1];exact g3⟩,fun M hP hI hcl=>kZ w hP hI hcl hc hd (fun s hs=>?_) hp fun a b c h=>?_⟩
 ·obtain⟨k1,k2⟩:=S8 he s hs
  refine⟨fun lv r=>by rw[k1];exact S4,?_,fun n lv σ r q1 q2=>?_⟩
  ·have:=BD.1 g4 s hs
   simp_all
  ·rw[show s.app (n+1)=_ from congrFun k2 n]at q1
   have:=Dy q1
   rw[q2]at this
   exact this
 ·obtain⟨j,k,v,h1,h2,h3⟩:=O5 h
  rw[Nat.zero_add]at h3
  obtain⟨a1,a2⟩:=x.inst.law2 h3
  rw[a1,h1]at e6
  cases e6
  rw[a2,XW h2]at e3
  grind
theorem AH.step {P:Program}{I:Inv}{ti:Types}(hti:Ax P ti) (h1:BG ti) (hm:P.follows .mixedOrders=true) (w:Sw P ti) {cs:List BC}(hf:P.funcs[x.f]?=some x.fn) (hx:x.fits P=true) (he:Cy x.sites=Cz (AH.go w x cs) x.sites) (hc:∀m,m≤N→∀c∈cs,c.ok P I m) (hd:∀m,m≤N→∀d∈x.dc,d.Nd (U9 P I) m) (hp:AH.go w x cs N 1 x.pl (x.st lv)=some p):
  ∀xs1 pre rk ret l1 l2,Df x.args lv=some (xs1,l1)→DK x.pre l1=some (pre,l2)→I5 x.ret (x.inst.alt p)=some rk→HZ rk (x.inst.pack p)=some ret→∀xs,XR xs1=some xs→TrC P I x.f xs pre ret:=by
 intro xs1 pre rk ret l1 l2 e1 e2 e6 e3 xs e4
 obtain⟨⟨b1,b2,b3⟩,H⟩:=AH.pN w hf hx he hc hd hp e1 e2 e6 e3 e4
 unfold AH.fits at hx
 simp only[Bool.and_eq_true]at hx
 have g5:=hx.2
 cases hdf:x.df with
 | none=>
  rw[hdf]at H
  exact EP.of hti h1 hm hf b1 b2 rfl b3 rfl fun M hP hI=>H M hP hI (fun h=>by cases h)
 | some y=>
  rw[hdf]at H g5
  simp only[Bool.and_eq_true]at g5
  exact EP.uN (fun M nt=>BI ti M nt) hti h1 (Po hti h1 hm) hf b1 b2 (Nat.le_of_ble_eq_true b3) (Nat.le_of_ble_eq_true g5.1) g5.2 y.1 y.2 fun M hP hI hcl=>H M hP hI (fun _=>hcl)
theorem AH.zR {P:Program}{I:Inv}{ti:Types}(hti:Ax P ti) (h1:BG ti) (hm:P.follows .mixedOrders=true) (w:Sw P ti) {cs:List BC}(hf:P.funcs[x.f]?=some x.fn) (hx:x.fits P=true) (h0:x.df.isSome=false) (he:Cy x.sites=Cz (AH.go w x cs) x.sites) (hc:∀m,m≤N→∀c∈cs,c.ok P I m) (hd:∀m,m≤N→∀d∈x.dc,d.Nd (U9 P I) m) (hp:AH.go w x cs N 1 x.pl (x.st lv)=some p):
  ∀xs1 pre rk ret l1 l2,Df x.args lv=some (xs1,l1)→DK x.pre l1=some (pre,l2)→I5 x.ret (x.inst.alt p)=some rk→HZ rk (x.inst.pack p)=some ret→∀xs,XR xs1=some xs→U9 P I x.f xs pre ret:=by
 intro xs1 pre rk ret l1 l2 e1 e2 e6 e3 xs e4
 obtain⟨⟨b1,b2,b3⟩,H⟩:=AH.pN w hf hx he hc hd hp e1 e2 e6 e3 e4
 cases hdf:x.df with
 | none=>
  rw[hdf]at H
  exact SM.intro (fun M nt=>BI ti M nt) hti h1 (Po hti h1 hm) hf b1 b2 (Nat.le_of_ble_eq_true b3) fun M hP hI=>H M hP hI (fun h=>by cases h)
 | some y=>simp_all
theorem AH.nF {T:oU}{n:Nat}(h:∀lv p,U6 _ (x.F n) lv=some p→∀xs1 pre rk ret l1 l2,Df x.args lv=some (xs1,l1)→DK x.pre l1=some (pre,l2)→I5 x.ret (x.inst.alt p)=some rk→HZ rk (x.inst.pack p)=some ret→∀xs,XR xs1=some xs→T x.f xs pre ret):x.c.Nd T n:=h
def Be (P:Program) (I:Inv):List BC→Prop
 | []=>True
 | c::l=>(∀n,c.ok P I n)∧Be P I l
def H6 (P:Program) {ti:Types}(w:Sw P ti) (d:Bool) (cs:List BC):List AH→Prop
 | []=>True
 | x::l=>(P.funcs[x.f]?=some x.fn∧(x.fits P&&(d || x.dc.isEmpty))=true∧x.eqn w cs)∧H6 P w d cs l
theorem Eh {P:Program}{I:Inv}:∀{l:List BC},Be P I l→∀c∈l,∀n,c.ok P I n
 | c::l,h,d,hd=>by
  cases hd with
  | head=>exact h.1
  | tail _ hd=>exact Eh h.2 d hd
 | [],_,_,hd=>by cases hd
theorem Me {P:Program}{ti:Types}{w:Sw P ti}{d:Bool}{cs:List BC}:∀{l:List AH},H6 P w d cs l→∀x∈l,P.funcs[x.f]?=some x.fn∧(x.fits P&&(d || x.dc.isEmpty))=true∧x.eqn w cs
 | c::l,h,e,he=>by
  cases he with
  | head=>exact h.1
  | tail _ he=>exact Me h.2 e he
 | [],_,_,he=>by cases he
theorem O6 {P:Program}{I:Inv}:∀{g:List AH},(∀x∈g,∀n,x.c.ok P I n)→Be P I (g.map AH.c)
 | [],_=>trivial
 | x::g,h=>⟨h x (List.mem_cons_self ..),O6 fun y hy=>h y (List.mem_cons_of_mem _ hy)⟩
theorem VB {T:oU}{d:Bool}{l:List BC}(hd:d=true→∀c∈l,∀n,c.Nd T n) (h:(d || l.isEmpty)=true) (n:Nat):∀c∈l,c.Nd T n:=fun c hc=>by
 grind
variable {g:List AH}
theorem Za {P:Program}{I:Inv}{ti:Types}(hti:Ax P ti) (h1:BG ti) (hm:P.follows .mixedOrders=true) (w:Sw P ti) {d:Bool}{cs:List BC}(hc:Be P I cs) (hd:d=true→∀x∈g,∀c∈x.dc,∀n,c.Nd (U9 P I) n) (he:H6 P w d (g.map AH.c++cs) g):Be P I (g.map AH.c):=by
 have main:∀n,∀x∈g,x.c.ok P I n:=by
  intro n
  induction n using Nat.strongRecOn with
  | _ n ih=>
   have rec1:∀N,N<n→∀m,m≤N→∀c∈g.map AH.c++cs,c.ok P I m:=by
    intro N hN m hm c hcm
    rcases List.mem_append.1 hcm with h | h
    ·grind
    ·exact Eh hc c h m
   intro x hx
   refine AH.nF fun lv p hp=>?_
   obtain⟨hf,hfit,heq⟩:=Me he x hx
   simp only[Bool.and_eq_true]at hfit
   have e0:=congrArg Prod.fst heq.2
   have e1:=congrArg Prod.snd heq.2
   simp only[]at e0 e1
   cases n with
   | zero=>rw[e0]at hp;exact absurd hp S4
   | succ N=>
    rw[show x.F (N+1)=_ from congrFun e1 N]at hp
    exact AH.step hti h1 hm w hf hfit.1 heq.1 (rec1 N (Nat.lt_succ_self N)) (fun m _=>VB (fun h=>hd h x hx) hfit.2 m) (Dy hp)
 exact O6 fun x hx n=>main n x hx
theorem lA {P:Program}{I:Inv}{ti:Types}(hti:Ax P ti) (h1:BG ti) (hm:P.follows .mixedOrders=true) (w:Sw P ti) {cs:List BC}(hc:Be P I cs) (hf:P.funcs[x.f]?=some x.fn) (hx:(x.fits P&&(false || x.dc.isEmpty))=true) (he:x.zQ w cs) (n:Nat):x.c.ok P I n:=by
 refine AH.nF fun lv p hp=>?_
 rw[show x.F n=_ from congrFun he.2 n]at hp
 simp only[Bool.and_eq_true]at hx
 exact AH.step hti h1 hm w hf hx.1 he.1 (fun m _ c hcm=>Eh hc c hcm m) (fun m _=>VB (d:=false) (fun h=>by cases h) hx.2 m) (Dy hp)
theorem lB {P:Program}{I:Inv}{ti:Types}(hti:Ax P ti) (h1:BG ti) (hm:P.follows .mixedOrders=true) (w:Sw P ti) {cs:List BC}(hc:Be P I cs) (hf:P.funcs[x.f]?=some x.fn) (hx:((x.fits P&&x.dc.isEmpty)&&C6 x.df.isSome)=true) (he:x.zQ w cs) (n:Nat):x.c.Nd (U9 P I) n:=by
 refine AH.nF fun lv p hp=>?_
 rw[show x.F n=_ from congrFun he.2 n]at hp
 simp only[Bool.and_eq_true]at hx
 exact AH.zR hti h1 hm w hf hx.1.1 (E5 hx.2) he.1 (fun m _ c hcm=>Eh hc c hcm m) (fun m _=>VB (d:=false) (fun h=>by cases h) (by simpa using hx.1.2) m) (Dy hp)
structure iM (P:Program) (I:Inv) where
 c:BC
 ok:∀n,c.ok P I n
def HT {P:Program}{I:Inv}:List (iM P I)→List BC
 | []=>[]
 | x::l=>x.c::HT l
theorem O7 {P:Program}{I:Inv}:∀l:List (iM P I),Be P I (HT l)
 | []=>trivial
 | x::l=>⟨x.ok,O7 l⟩
def EB:List AH→List BC
 | []=>[]
 | x::l=>x.c::EB l
theorem I8:∀l:List AH,EB l=l.map AH.c
 | []=>rfl
 | x::l=>by rw[EB,I8 l];rfl
def Mf:List BC→List BC→List BC
 | [],m=>m
 | x::l,m=>x::Mf l m
theorem Mg (m:List BC):∀l,Mf l m=l++m
 | []=>rfl
 | x::l=>by rw[Mf,Mg m l];rfl
theorem Zb {P:Program}{I:Inv}{ti:Types}(hti:Ax P ti) (h1:BG ti) (hm:P.follows .mixedOrders=true) (w:Sw P ti) (l:List (iM P I)) (he:H6 P w false (Mf (EB g) (HT l)) g):Be P I (EB g):=by
 rw[I8]
 rw[Mg,I8]at he
 exact Za hti h1 hm w (O7 l) (fun h=>by cases h) he
theorem Zc {P:Program}{I:Inv}{ti:Types}(hti:Ax P ti) (h1:BG ti) (hm:P.follows .mixedOrders=true) (w:Sw P ti) (l:List (iM P I)) {dc:List BC}(hd:∀c∈dc,∀n,c.Nd (U9 P I) n) (hg:∀x∈g,x.dc=dc∨x.dc=[]) (he:H6 P w true (Mf (EB g) (HT l)) g):Be P I (EB g):=by
 rw[I8]
 rw[Mg,I8]at he
 exact Za hti h1 hm w (O7 l) (fun _ x hx c hc n=>by
  grind) he
def XX {P:Program}{I:Inv}{ti:Types}(hti:Ax P ti) (h1:BG ti) (hm:P.follows .mixedOrders=true) (w:Sw P ti) (x:AH) (l:List (iM P I)) (hf:P.funcs[x.f]?=some x.fn) (hx:(x.fits P&&(false || x.dc.isEmpty))=true) (h2:Cy x.sites=Cz (AH.go w x (HT l)) x.sites) (h3:x.F=fun n=>Gq _ fun lv=>AH.go w x (HT l) n 1 x.pl (x.st lv)):iM P I:=
 ⟨x.c,lA hti h1 hm w (O7 l) hf hx ⟨h2,h3⟩⟩
theorem XY {P:Program}{I:Inv}{ti:Types}(hti:Ax P ti) (h1:BG ti) (hm:P.follows .mixedOrders=true) (w:Sw P ti) (x:AH) (l:List (iM P I)) (hf:P.funcs[x.f]?=some x.fn) (hx:((x.fits P&&x.dc.isEmpty)&&C6 x.df.isSome)=true) (h2:Cy x.sites=Cz (AH.go w x (HT l)) x.sites) (h3:x.F=fun n=>Gq _ fun lv=>AH.go w x (HT l) n 1 x.pl (x.st lv)) (n:Nat):x.c.Nd (U9 P I) n:=
 lB hti h1 hm w (O7 l) hf hx ⟨h2,h3⟩ n
def XZ {P:Program}{I:Inv}{ti:Types}(hti:Ax P ti) (h1:BG ti) (hm:P.follows .mixedOrders=true) (w:Sw P ti) (x:AH) (l:List (iM P I)) {c:BC}(hd:∀n,c.Nd (U9 P I) n) (hg:x.dc=[c]) (hf:P.funcs[x.f]?=some x.fn) (hx:x.fits P=true) (h2:Cy x.sites=Cz (AH.go w x (HT l)) x.sites) (h3:x.F=fun n=>Gq _ fun lv=>AH.go w x (HT l) n 1 x.pl (x.st lv)):iM P I:=
 ⟨x.c,fun n=>AH.nF fun lv p hp=>by
  rw[show x.F n=_ from congrFun h3 n]at hp
  exact AH.step hti h1 hm w hf hx h2 (fun m _ c hcm=>Eh (O7 l) c hcm m) (fun m _ d hd'=>by
   rw[hg]at hd'
   cases hd' with
   | head=>exact hd m
   | tail _ h=>cases h) (Dy hp)⟩
end
end
end Go.AM
set_option maxRecDepth 100000
set_option maxHeartbeats 40000000
set_option linter.unusedVariables false
noncomputable section
namespace Go.Proofs.YtjfmnfncmfepnaaGreatDoor
open Go Go.AM
def dsR (γ:Type):Ds γ:=fun t x k=>match Nat.beq t 56 with
 | true=>Bo x fun a b c d e f g h o p i j l m n q=>k (.agg [.int .u8 a,.str b,.list true 4 c,.int .u8 d,.str e,.list true 3 f,.list true 15 g,.int .u8 h,.int .i64 o,.str p,.str i,.str j,.list false 1 l,.list true 8 m,.int .i64 n,.int .i64 q])
 | false=>match Nat.beq t 58 with
 | true=>Co x fun a b c d=>k (.agg [.str a,.int .u8 b,.str c,.list true 3 d])
 | false=>match Nat.beq t 48 with
 | true=>Fx x fun a b c=>k (.agg [.int .u8 a,.str b,.list true 3 c])
 | false=>match Nat.beq t 90 with
 | true=>Cp x fun a b c d e f g h o p i j l m n=>k (.agg [.int .u8 a,.str b,.str c,.list false 1 d,.int .u8 e,.str f,.list true 3 g,.int .i64 h,.str o,.list false 1 p,.list true 8 i,.list true 15 j,.list true 15 l,.list true 3 m,.int .i64 n])
 | false=>match Nat.beq t 9 with
 | true=>CG x fun a=>k (.str a)
 | false=>match Nat.beq t 54 with
 | true=>CQ x fun a b c d e f g h=>k (.agg [.int .u8 a,.int .i64 b,.str c,.str d,.str e,.list false 1 f,.list true 8 g,.int .i64 h])
 | false=>match Nat.beq t 96 with
 | true=>EA x fun a b c=>k (.agg [.str a,.str b,.list true 15 c])
 | false=>match Nat.beq t 3 with
 | true=>CH x fun a=>k (.int .i64 a)
 | false=>match Nat.beq t 4 with
 | true=>Iv x fun a=>k (.bool a)
 | false=>match Nat.beq t 139 with
 | true=>Eu x fun a=>k (.agg [.bool a])
 | false=>match Nat.beq t 100216 with
 | true=>DI x fun a b=>k (.agg [.bool a,.str b])
 | false=>match Nat.beq t 5 with
 | true=>KO x fun a=>k (.int .u8 a)
 | false=>match Nat.beq t 44 with
 | true=>Ef x fun a b c d e f g h o=>k (.agg [.int .u8 a,.int .i64 b,.int .i64 c,.int .i64 d,.list false 1 e,.list false 1 f,.int .i64 g,.str h,.list false 1 o])
 | false=>match Nat.beq t 100247 with
 | true=>CH x fun a=>k (.int .i64 a)
 | false=>match Nat.beq t 73 with
 | true=>Jb x fun a b=>k (.agg [.list false 1 a,.list true 15 b])
 | false=>match Nat.beq t 40 with
 | true=>Cr x fun a b c d=>k (.agg [.str a,.int .i64 b,.int .i64 c,.list true 9 d])
 | false=>match Nat.beq t 101 with
 | true=>K2 x fun a b c d e f g h=>k (.agg [.str a,.int .i64 b,.int .i64 c,.bool d,.bool e,.bool f,.bool g,.list false 1 h])
 | false=>k x
theorem rL (γ:Type):(dsR γ).ok:=fun t x k r h=>by
 unfold dsR at h
 split at h
 ·obtain⟨a,b,c,d,e,f,g,i,p,q,j,l,m,n,o,s,rfl,h⟩:=US h;exact h
 split at h
 ·obtain⟨a,b,c,d,rfl,h⟩:=UT h;exact h
 split at h
 ·obtain⟨a,b,c,rfl,h⟩:=UU h;exact h
 split at h
 ·obtain⟨a,b,c,d,e,f,g,i,p,q,j,l,m,n,o,rfl,h⟩:=UW h;exact h
 split at h
 ·obtain⟨a,rfl,h⟩:=MD h;exact h
 split at h
 ·obtain⟨a,b,c,d,e,f,g,i,rfl,h⟩:=UX h;exact h
 split at h
 ·obtain⟨a,b,c,rfl,h⟩:=UY h;exact h
 split at h
 ·obtain⟨a,rfl,h⟩:=Hv h;exact h
 split at h
 ·obtain⟨a,rfl,h⟩:=SO h;exact h
 split at h
 ·obtain⟨a,rfl,h⟩:=SP h;exact h
 split at h
 ·obtain⟨a,b,rfl,h⟩:=UZ h;exact h
 split at h
 ·obtain⟨a,rfl,h⟩:=XC h;exact h
 split at h
 ·obtain⟨a,b,c,d,e,f,g,i,p,rfl,h⟩:=Ua h;exact h
 split at h
 ·obtain⟨a,rfl,h⟩:=Hv h;exact h
 split at h
 ·obtain⟨a,b,rfl,h⟩:=Ub h;exact h
 split at h
 ·obtain⟨a,b,c,d,rfl,h⟩:=Uc h;exact h
 split at h
 ·obtain⟨a,b,c,d,e,f,g,i,rfl,h⟩:=SX h;exact h
 exact h
def elR:oO:=fun ag sz t o=>match !ag&&(Nat.beq sz 1&&(Nat.beq t 3&&Nat.beq o 0))with
 | true=>3
 | false=>match !ag&&(Nat.beq sz 1&&(Nat.beq t 4&&Nat.beq o 0))with
 | true=>4
 | false=>match ag&&(Nat.beq sz 2&&(Nat.beq t 42&&Nat.beq o 0))with
 | true=>73
 | false=>match ag&&(Nat.beq sz 2&&(Nat.beq t 49&&Nat.beq o 1))with
 | true=>73
 | false=>match ag&&(Nat.beq sz 9&&(Nat.beq t 3&&Nat.beq o 1))with
 | true=>44
 | false=>match ag&&(Nat.beq sz 9&&(Nat.beq t 41&&Nat.beq o 4))with
 | true=>44
 | false=>0
def xS (t:TypeId):Bool:=false
theorem lC:Sok Tryz.prog Ac xS:=fun t i fs h=>by cases h
noncomputable def wz:Sw Tryz.prog Ac:=⟨dsR,elR,xS,rL,lC⟩
abbrev Kz:=iM Tryz.prog inv
noncomputable def sg (x:AH) (l:List Kz) (a:Tryz.prog.funcs[x.f]?=some x.fn) (b:(x.fits Tryz.prog&&(false || x.dc.isEmpty))=true:=by kernel_rfl) (c:Cy x.sites=Cz (AH.go wz x (HT l)) x.sites:=by kernel_rfl) (d:x.F=fun n=>Gq _ fun lv=>AH.go wz x (HT l) n 1 x.pl (x.st lv):=by kernel_rfl):Kz:=XX Fq Er oH wz x l a b c d
theorem ge {x:AH}{cs:List BC}(a:Tryz.prog.funcs[x.f]?=some x.fn) (b:(x.fits Tryz.prog&&(false || x.dc.isEmpty))=true:=by kernel_rfl) (c:Cy x.sites=Cz (AH.go wz x cs) x.sites:=by kernel_rfl) (d:(x.F 0,fun n=>x.F (n+1))=(HW _,fun n=>Gq _ fun lv=>AH.go wz x cs n 1 x.pl (x.st lv)):=by kernel_rfl):Tryz.prog.funcs[x.f]?=some x.fn/\(x.fits Tryz.prog&&(false || x.dc.isEmpty))=true/\x.eqn wz cs:=⟨a,b,c,d⟩
abbrev ii {ρ:Type} [i:Rz ρ]:Rz ρ:=i
noncomputable def sgF:=@XZ Tryz.prog inv _ Fq Er oH wz
theorem sgD (x:AH) (l:List Kz) (a:Tryz.prog.funcs[x.f]?=some x.fn) (b:((x.fits Tryz.prog&&x.dc.isEmpty)&&C6 x.df.isSome)=true) (d:Cy x.sites=Cz (AH.go wz x (HT l)) x.sites) (e:x.F=fun n=>Gq _ fun lv=>AH.go wz x (HT l) n 1 x.pl (x.st lv)) (n:Nat):x.c.Nd (U9 Tryz.prog inv) n:=XY Fq Er oH wz x l a b d e n
theorem grD {g:List AH}(l:List Kz) {c:BC}(a:∀n,c.Nd (U9 Tryz.prog inv) n) (b:∀x∈g,x.dc=[c]∨x.dc=[]) (d:H6 Tryz.prog wz true (Mf (EB g) (HT l)) g):Be Tryz.prog inv (EB g):=Zc Fq Er oH wz l (dc:=[c]) (by simpa using a) b d
theorem gr {g:List AH}(l:List Kz) (a:H6 Tryz.prog wz false (Mf (EB g) (HT l)) g):Be Tryz.prog inv (EB g):=Zb Fq Er oH wz l a
noncomputable def ABn:BC:=⟨254,[.s],[],[⟨.one (.f 1),[],[]⟩],LD,ii,XB⟩
noncomputable def ABo:Kz:=⟨ABn,fun n=>Ma fun a p h g i j k l m b c d e xs f=>by cases b;cases c;cases f;cases d;cases e;exact ABf n h⟩
noncomputable def c41:BC:=⟨41,[.z],[],[⟨.one (.s),[],[]⟩],BA,ii,oJ⟩
noncomputable def k41:Kz:=⟨c41,fun n=>Ma fun a p h g i j k l m b c d e xs f=>by cases b;cases c;cases f;cases d;cases e;exact T41 n h⟩
noncomputable def c43:BC:=⟨43,[.z,.z],[],[⟨.one (.s),[],[]⟩],BA,ii,zX⟩
noncomputable def k43:Kz:=⟨c43,fun n=>Ma fun a b p h i j k l m o c d e f xs g=>by cases c;cases d;cases g;cases e;cases f;exact T43 n h⟩
def Zd:List Nat:=[166,158,158,158,159,159,159,160,160,161,161,161,161,161,161,161,161,161,162,163,163,164,165,164,166,166,164,164,166,164,165,164,166,166,166,166,166]
def V4 (k:Nat):List Nat->Nat->List Sj
 | [],_=>[]
 | f::l,i=>(match Nat.blt i k with
  | true=>.fn f []
  | false=>.nilf)::V4 k l (i+1)
def rM:Nat->Nat->Option Unit
 | 0,_=>none
 | n+1,k=>match Nat.blt k 37 with
  | true=>rM n (k+1)
  | false=>some ()
def rN (n:Nat):Option Unit:=rM n 0
noncomputable def CU (k:Nat):Bj Unit:=⟨58,[0,1,4],[.loc 0,.loc 32],96,[.p (.loc 0) 0,.p (.loc 32) 0,.k k],[.c (V4 0 Zd 0),.c (V4 k Zd 0)],fun n=>Gq _ fun _=>rM n k,.e⟩
noncomputable def ABp:AH:=⟨110,Tryz.f110,false,[],[],[⟨.one (.mix (V4 37 Zd 0)),[],[]⟩],Unit,ii,rN,.e,[CU 0,CU 1,CU 2,CU 3,CU 4,CU 5,CU 6,CU 7,CU 8,CU 9,CU 10,CU 11,CU 12,CU 13,CU 14,CU 15,CU 16,CU 17,CU 18,CU 19,CU 20,CU 21,CU 22,CU 23,CU 24,CU 25,CU 26,CU 27,CU 28,CU 29,CU 30,CU 31,CU 32,CU 33,CU 34,CU 35,CU 36,CU 37],none,[]⟩
noncomputable def ABq:Kz:=sg ABp [] Tryz.func110
noncomputable def c42:BC:=⟨42,[.f 1,.s],[],[⟨.one (.s),[],[]⟩],BA,ii,zY⟩
noncomputable def k42:Kz:=⟨c42,fun n=>Ma fun a b p h i j k l m o c d e f xs g=>by cases c;cases d;cases g;cases e;cases f;exact T42 n h⟩
def Nv (n:Nat) (a:Int) (b:BA) (c:LD):Option (Bool):=
 (if a=0 then (if b=ByteArray.empty then AP c fun d=>(if d=0 then some true else some false)else some false)else some false)
noncomputable def ABr:AH:=⟨138,Tryz.f138,false,[.agg [.y,.str,.q 3]],[],[⟨.one (.b),[],[]⟩],Bool,ii,Nv,.e,[],none,[]⟩
noncomputable def lD:Kz:=sg ABr [] Tryz.func138
def Ze (n:Nat) (a:Int):Option (Bool):=
 (if 97<=a then (if a<=122 then some true else some false)else some false)
noncomputable def ABs:AH:=⟨201,Tryz.f201,false,[.y],[],[⟨.one (.b),[],[]⟩],Bool,ii,Ze,.e,[],none,[]⟩
noncomputable def xT:Kz:=sg ABs [] Tryz.func201
def Zf (n:Nat) (a:Int):Option (Bool):=
 (if 65<=a then (if a<=90 then some true else some false)else some false)
noncomputable def ABt:AH:=⟨200,Tryz.f200,false,[.y],[],[⟨.one (.b),[],[]⟩],Bool,ii,Zf,.e,[],none,[]⟩
noncomputable def xU:Kz:=sg ABt [] Tryz.func200
def lF (n:Nat) (a:Int):Option (Bool):=
 (if 48<=a then (if a<=57 then some true else some false)else some false)
noncomputable def ABu:AH:=⟨252,Tryz.f252,false,[.y],[],[⟨.one (.b),[],[]⟩],Bool,ii,lF,.e,[],none,[]⟩
noncomputable def ABv:Kz:=sg ABu [] Tryz.func252
def lG (n:Nat) (a:Int):Option (Bool):=
 Av (Ze n a) fun b=>(if b=true then some true else Av (Zf n a) fun c=>(if c=true then some true else Av (lF n a) fun d=>(if d=true then some true else (if a=95 then some true else some false))))
noncomputable def ABw:AH:=⟨243,Tryz.f243,false,[.y],[],[⟨.one (.b),[],[]⟩],Bool,ii,lG,.e,[],none,[]⟩
noncomputable def ABx:Kz:=sg ABw [xU,xT,ABv] Tryz.func243
def Mh:Nat->Int->Option (Int)
 | 0,_=>none
 | n+1,a=>
  some a
def Mi:Nat->BA->Int->Option (Int)
 | 0,_,_=>none
 | n+1,b,a=>
  Xn b fun c=>(if a<c then oB b a fun d=>Av (lG n d) fun e=>(if e=true then AW (IntKind.wrap .i64 (a+1)) fun f=>Mi n b f else Mh n a)else Mh n a)
def Zg (n:Nat) (a:BA):Option (Int):=
 Mi n a 0
noncomputable def ABy:AH:=⟨242,Tryz.f242,false,[.s,.one (.fn 243 [])],[],[⟨.one (.z),[],[]⟩],Int,ii,Zg,.e,[⟨28,[0,1,4,5],[],64,[.s,.one (.fn 243 []),.k 0,.z],[],Mi,.e⟩,
 ⟨15,[4,5],[],416,[.k 0,.z],[],Mh,.e⟩],none,[]⟩
noncomputable def xV:Kz:=sg ABy [ABx] Tryz.func242
def Mj:Nat->LD->Int->Int->LD->Option LD
 | 0,_,_,_,_=>none
 | n+1,b,c,a,d=>
  (if a<c then An b a fun e=>CG e fun f=>AW (IntKind.wrap .i64 (a+1)) fun g=>CO (.str f) [.int .i64 g] d fun h=>AW (IntKind.wrap .i64 (a+1)) fun i=>Mj n b c i h else some d)
def lH (n:Nat):Option LD:=
 Av (XB n Cq) fun a=>AP a fun b=>Mj n a b 0 ([]:LD)
noncomputable def ABz:AH:=⟨253,Tryz.f253,false,[],[],[⟨.one (.w (.loc 0)),[],[.t (.fmap false) true 2]⟩],LD,ii,lH,.e,[⟨58,[0,1,5,6,7],[.loc 32],192,[.one (.nilm),.w (.loc 32),.f 1,.z,.z],[.t (.fmap false) true 2],Mj,.e⟩],none,[]⟩
noncomputable def ACa:Kz:=sg ABz [ABo] Tryz.func253
def Zh (n:Nat) (a:BA):Option (Bool):=
 Av (lH n) fun b=>(findF false (.str a) b (fun c=>CH c fun d=>(if 0<d then some true else some false)) (some false))
noncomputable def ACb:AH:=⟨244,Tryz.f244,false,[.s],[],[⟨.one (.b),[],[]⟩],Bool,ii,Zh,.e,[],none,[]⟩
noncomputable def xW:Kz:=sg ACb [ACa] Tryz.func244
def Qc (n:Nat) (a:BA):Option (Bool):=
 (if a=ByteArray.empty then some false else Xn a fun b=>(if b<=16 then oB a 0 fun c=>Av (Ze n c) fun d=>(if d=true then Av (Zg n a) fun e=>Xn a fun f=>(if e=f then Av (Zh n a) fun g=>Aw (!g) fun h=>some h else some false)else some false)else some false))
noncomputable def rO:AH:=⟨199,Tryz.f199,false,[.s,.one (.fn 201 [])],[],[⟨.one (.b),[],[]⟩],Bool,ii,Qc,.e,[],none,[]⟩
noncomputable def rP:Kz:=sg rO [xT,xV,xW] Tryz.func199
def I9 (n:Nat) (a:BA):Option (Bool):=
 Av (Qc n a) fun b=>some b
noncomputable def ACc:AH:=⟨142,Tryz.f142,false,[.s],[],[⟨.one (.b),[],[]⟩],Bool,ii,I9,.e,[],none,[]⟩
noncomputable def VC:Kz:=sg ACc [rP] Tryz.func142
def lI (n:Nat) (a:BA):Option (Bool):=
 (if a=ByteArray.empty then some false else Xn a fun b=>(if b<=16 then oB a 0 fun c=>Av (Zf n c) fun d=>(if d=true then Av (Zg n a) fun e=>Xn a fun f=>(if e=f then Av (Zh n a) fun g=>Aw (!g) fun h=>some h else some false)else some false)else some false))
noncomputable def ACd:AH:=⟨199,Tryz.f199,false,[.s,.one (.fn 200 [])],[],[⟨.one (.b),[],[]⟩],Bool,ii,lI,.e,[],none,[]⟩
noncomputable def ACe:Kz:=sg ACd [xU,xV,xW] Tryz.func199
def Kg (n:Nat) (a:BA):Option (Bool):=
 Av (lI n a) fun b=>some b
noncomputable def ACf:AH:=⟨141,Tryz.f141,false,[.s],[],[⟨.one (.b),[],[]⟩],Bool,ii,Kg,.e,[],none,[]⟩
noncomputable def Zi:Kz:=sg ACf [ACe] Tryz.func141
mutual
def rQ:Nat->Int->BA->LD->Int->Option (Bool×Int)
 | 0,_,_,_,_=>none
 | n+1,b,f,c,a=>
  AW (IntKind.wrap .i64 (a - 1)) fun g=>Av (H7 n b f c g) fun k=>some (k,a)
def Jw:Nat->LD->Int->Int->Int->Option (Bool×Int)
 | 0,_,_,_,_=>none
 | n+1,d,e,a,g=>
  AP d fun s=>(if a<s then (if a<e then An d a fun t=>Fx t fun u v l=>Ir (rQ n u v l g) fun m h=>Aw (!m) fun o=>(if o=true then some (false,h)else AW (IntKind.wrap .i64 (a+1)) fun p=>Jw n d e p h)else Mk n d e g)else Mk n d e g)
def Mk:Nat->LD->Int->Int->Option (Bool×Int)
 | 0,_,_,_=>none
 | n+1,d,e,i=>
  AP d fun q=>(if q<=e then some (true,i)else some (false,i))
def lJ:Nat->LD->Int->Int->Option (Bool×Int)
 | 0,_,_,_=>none
 | n+1,d,e,w=>
  Jw n d e 0 w
def Ml:Nat->Int->BA->LD->Int->Bool->Option (Bool)
 | 0,_,_,_,_,_=>none
 | n+1,b,f,c,a,j=>
  (if b=1 then F4 n b c a 0 j else (if b=2 then F4 n b c a 0 j else (if b=3 then F4 n b c a 0 j else (if b=10 then F4 n b c a 0 j else (if b=4 then Av (Kg n f) fun k=>F4 n b c a 0 k else F4 n b c a 1 j)))))
def F4:Nat->Int->LD->Int->Int->Bool->Option (Bool)
 | 0,_,_,_,_,_=>none
 | n+1,b,c,a,x,y=>
  (if 0<a then (if 1<=b then (if b<=14 then (if y=true then AP c fun z=>(if z=x then Ir (lJ n c 1 a) fun r A=>some r else some false)else some false)else some false)else some false)else some false)
def H7:Nat->Int->BA->LD->Int->Option (Bool)
 | 0,_,_,_,_=>none
 | n+1,b,f,c,a=>
  (if f=ByteArray.empty then Ml n b f c a true else Ml n b f c a false)
end
noncomputable def ACg:AH:=⟨196,Tryz.f196,false,[.agg [.y,.str,.q 3],.p (.ext 0) 0],[.c [.z]],[⟨.one (.b),[.c [.z]],[]⟩],Bool×Int,ii,rQ,.e,[],none,[]⟩
noncomputable def ACh:AH:=⟨195,Tryz.f195,false,[.q 3,.z,.one (.fn 196 [.ext 0])],[.c [.z]],[⟨.one (.b),[.c [.z]],[]⟩],Bool×Int,ii,lJ,.e,[⟨26,[0,1,2,6,7],[.ext 0],64,[.q 3,.z,.one (.fn 196 [.ext 0]),.one (.cb false),.z],[.c [.z]],Jw,.e⟩,
 ⟨7,[0,1,6],[.ext 0],352,[.q 3,.z,.one (.cb false)],[.c [.z]],Mk,.e⟩],none,[]⟩
noncomputable def xX:AH:=⟨139,Tryz.f139,false,[.agg [.y,.str,.q 3],.z],[],[⟨.one (.b),[],[]⟩],Bool,ii,H7,.e,[⟨7,[2,3,4,5,6],[.loc 0,.loc 32],256,[.p (.loc 0) 0,.p (.loc 32) 0,.one (.cb false),.k 1,.b],[.c [.y,.str,.q 3],.c [.z]],fun n g a h d f=>Ml n a h d f g,.e⟩,
 ⟨15,[2,3,4,5,6],[.loc 0,.loc 32],800,[.p (.loc 0) 0,.p (.loc 32) 0,.one (.cb false),.z,.b],[.c [.y,.str,.q 3],.c [.z]],fun n i j a _ d f=>F4 n a d f i j,.e⟩],none,[]⟩
theorem ACi:Be Tryz.prog inv (EB [ACg,ACh,xX]):=gr [Zi] ⟨ge Tryz.func196,ge Tryz.func195,ge Tryz.func139,trivial⟩
noncomputable def lK:Kz:=⟨xX.c,ACi.2.2.1⟩
def lL (n:Nat) (i:BA) (c:Int) (d:BA) (e:LD) (b:Bool) (a:Int):Option (Bool×Bool×Int):=
 Av (I9 n i) fun j=>(if j=true then (if b=true then Av (Nv n c d e) fun k=>(if k=true then some (true,b,a)else AW (IntKind.wrap .i64 (a - 1)) fun l=>Av (H7 n c d e l) fun f=>some (f,b,a))else AW (IntKind.wrap .i64 (a - 1)) fun g=>Av (H7 n c d e g) fun h=>some (h,b,a))else some (false,b,a))
noncomputable def ACj:AH:=⟨137,Tryz.f137,false,[.agg [.str,.y,.str,.q 3],.p (.ext 0) 0,.p (.ext 1) 0,.p (.ext 2) 0],[.c [.fn 142 []],.c [.bool],.c [.z]],[⟨.one (.b),[.c [.fn 142 []],.c [.bool],.c [.z]],[]⟩],Bool×Bool×Int,ii,lL,.e,[],none,[]⟩
noncomputable def ACk:Kz:=sg ACj [lD,lK,VC] Tryz.func137
def Mm:Nat->LD->Int->Bool->Int->Option (Bool×Bool×Int)
 | 0,_,_,_,_=>none
 | n+1,d,e,a,b=>
  AP d fun c=>(if c<=e then some (true,a,b)else some (false,a,b))
def Mo:Nat->LD->Int->Int->Bool->Int->Option (Bool×Bool×Int)
 | 0,_,_,_,_,_=>none
 | n+1,a,d,e,f,g=>
  AP a fun p=>(if e<p then (if e<d then An a e fun q=>Co q fun h i j k=>EK (lL n h i j k f g) fun l b c=>Aw (!l) fun m=>(if m=true then some (false,b,c)else AW (IntKind.wrap .i64 (e+1)) fun o=>Mo n a d o b c)else Mm n a d f g)else Mm n a d f g)
def lM (n:Nat) (a:LD) (b:Int) (c:Bool) (d:Int):Option (Bool×Bool×Int):=
 Mo n a b 0 c d
noncomputable def ACl:AH:=⟨136,Tryz.f136,false,[.q 4,.z,.one (.fn 137 [.ext 0,.ext 1,.ext 2])],[.c [.fn 142 []],.c [.bool],.c [.z]],[⟨.one (.b),[.c [.fn 142 []],.c [.bool],.c [.z]],[]⟩],Bool×Bool×Int,ii,lM,.e,[⟨26,[0,1,2,6,7],[.ext 0,.ext 1,.ext 2],64,[.q 4,.z,.one (.fn 137 [.ext 0,.ext 1,.ext 2]),.one (.cb false),.z],[.c [.fn 142 []],.c [.bool],.c [.z]],Mo,.e⟩,
 ⟨7,[0,1,6],[.ext 0,.ext 1,.ext 2],352,[.q 4,.z,.one (.cb false)],[.c [.fn 142 []],.c [.bool],.c [.z]],Mm,.e⟩],none,[]⟩
noncomputable def ACm:Kz:=sg ACl [ACk] Tryz.func136
def Zj (n:Nat) (m:Bool) (o:Int) (p:BA) (l:LD) (q:Int) (r:BA) (s:LD) (t:LD) (u:Int) (a:Int) (b:BA) (c:BA) (d:BA) (e:LD) (f:LD) (g:Int) (h:Int) (i:Int):Option (Bool×Int×BA×LD×Int×BA×LD×LD×Int×Int×BA×BA×BA×LD×LD×Int×Int×Int):=
 EK (lM n l 6 m i) fun j v k=>some (j,o,p,l,q,r,s,t,u,a,b,c,d,e,f,g,h,k)
noncomputable def ACn:AH:=⟨135,Tryz.f135,false,[.one (.fn 142 []),.b,.p (.ext 0) 0,.p (.ext 1) 0],[.c [.y,.str,.q 4,.y,.str,.q 3,.q 15,.y,.z,.str,.str,.str,.f 1,.q 8,.z,.z],.c [.z]],[⟨.one (.b),[.c [.y,.str,.q 4,.y,.str,.q 3,.q 15,.y,.z,.str,.str,.str,.f 1,.q 8,.z,.z],.c [.z]],[]⟩],Bool×Int×BA×LD×Int×BA×LD×LD×Int×Int×BA×BA×BA×LD×LD×Int×Int×Int,ii,Zj,.e,[],none,[]⟩
noncomputable def ACo:Kz:=sg ACn [ACm] Tryz.func135
def Qe (n:Nat) (i:BA) (c:Int) (d:BA) (e:LD) (b:Bool) (a:Int):Option (Bool×Bool×Int):=
 Av (Kg n i) fun j=>(if j=true then (if b=true then Av (Nv n c d e) fun k=>(if k=true then some (true,b,a)else AW (IntKind.wrap .i64 (a - 1)) fun l=>Av (H7 n c d e l) fun f=>some (f,b,a))else AW (IntKind.wrap .i64 (a - 1)) fun g=>Av (H7 n c d e g) fun h=>some (h,b,a))else some (false,b,a))
noncomputable def rR:AH:=⟨137,Tryz.f137,false,[.agg [.str,.y,.str,.q 3],.p (.ext 0) 0,.p (.ext 1) 0,.p (.ext 2) 0],[.c [.fn 141 []],.c [.bool],.c [.z]],[⟨.one (.b),[.c [.fn 141 []],.c [.bool],.c [.z]],[]⟩],Bool×Bool×Int,ii,Qe,.e,[],none,[]⟩
noncomputable def rS:Kz:=sg rR [lD,lK,Zi] Tryz.func137
def Gs:Nat->LD->Int->Bool->Int->Option (Bool×Bool×Int)
 | 0,_,_,_,_=>none
 | n+1,d,e,a,b=>
  AP d fun c=>(if c<=e then some (true,a,b)else some (false,a,b))
def Gt:Nat->LD->Int->Int->Bool->Int->Option (Bool×Bool×Int)
 | 0,_,_,_,_,_=>none
 | n+1,a,d,e,f,g=>
  AP a fun p=>(if e<p then (if e<d then An a e fun q=>Co q fun h i j k=>EK (Qe n h i j k f g) fun l b c=>Aw (!l) fun m=>(if m=true then some (false,b,c)else AW (IntKind.wrap .i64 (e+1)) fun o=>Gt n a d o b c)else Gs n a d f g)else Gs n a d f g)
def Qf (n:Nat) (a:LD) (b:Int) (c:Bool) (d:Int):Option (Bool×Bool×Int):=
 Gt n a b 0 c d
noncomputable def rT:AH:=⟨136,Tryz.f136,false,[.q 4,.z,.one (.fn 137 [.ext 0,.ext 1,.ext 2])],[.c [.fn 141 []],.c [.bool],.c [.z]],[⟨.one (.b),[.c [.fn 141 []],.c [.bool],.c [.z]],[]⟩],Bool×Bool×Int,ii,Qf,.e,[⟨26,[0,1,2,6,7],[.ext 0,.ext 1,.ext 2],64,[.q 4,.z,.one (.fn 137 [.ext 0,.ext 1,.ext 2]),.one (.cb false),.z],[.c [.fn 141 []],.c [.bool],.c [.z]],Gt,.e⟩,
 ⟨7,[0,1,6],[.ext 0,.ext 1,.ext 2],352,[.q 4,.z,.one (.cb false)],[.c [.fn 141 []],.c [.bool],.c [.z]],Gs,.e⟩],none,[]⟩
noncomputable def rU:Kz:=sg rT [rS] Tryz.func136
def Qg (n:Nat) (m:Bool) (o:Int) (p:BA) (l:LD) (q:Int) (r:BA) (s:LD) (t:LD) (u:Int) (a:Int) (b:BA) (c:BA) (d:BA) (e:LD) (f:LD) (g:Int) (h:Int) (i:Int):Option (Bool×Int×BA×LD×Int×BA×LD×LD×Int×Int×BA×BA×BA×LD×LD×Int×Int×Int):=
 EK (Qf n l 6 m i) fun j v k=>some (j,o,p,l,q,r,s,t,u,a,b,c,d,e,f,g,h,k)
noncomputable def rV:AH:=⟨135,Tryz.f135,false,[.one (.fn 141 []),.b,.p (.ext 0) 0,.p (.ext 1) 0],[.c [.y,.str,.q 4,.y,.str,.q 3,.q 15,.y,.z,.str,.str,.str,.f 1,.q 8,.z,.z],.c [.z]],[⟨.one (.b),[.c [.y,.str,.q 4,.y,.str,.q 3,.q 15,.y,.z,.str,.str,.str,.f 1,.q 8,.z,.z],.c [.z]],[]⟩],Bool×Int×BA×LD×Int×BA×LD×LD×Int×Int×BA×BA×BA×LD×LD×Int×Int×Int,ii,Qg,.e,[],none,[]⟩
noncomputable def rX:Kz:=sg rV [rU] Tryz.func135
def Nw (n:Nat) (a:Int) (b:Int) (c:BA) (d:BA) (e:BA) (f:LD) (g:LD) (h:Int):Option (Bool):=
 (if a=5 then some true else (if a=6 then some true else some false))
noncomputable def ACp:AH:=⟨143,Tryz.f143,false,[.agg [.y,.z,.str,.str,.str,.f 1,.q 8,.z]],[],[⟨.one (.b),[],[]⟩],Bool,ii,Nw,.e,[],none,[]⟩
noncomputable def VD:Kz:=sg ACp [] Tryz.func143
def lN (n:Nat) (a:Int):Option (Bool×Int×Int×Bool):=
 (if a=1 then some (false,0,0,true)else (if a=2 then some (false,0,0,true)else (if a=3 then some (false,0,0,true)else (if a=4 then some (true,0,0,true)else (if a=5 then some (true,0,0,true)else (if a=6 then some (true,0,0,true)else (if a=24 then some (true,0,0,true)else (if a=28 then some (true,0,0,true)else (if a=32 then some (true,0,0,true)else (if a=36 then some (true,0,0,true)else (if a=25 then some (true,1,1,true)else (if a=33 then some (true,1,1,true)else (if a=34 then some (true,1,1,true)else (if a=35 then some (true,1,1,true)else (if a=18 then some (false,0,6,true)else (if a=19 then some (false,0,6,true)else (if a=20 then some (false,0,1,true)else (if a=9 then some (false,2,2,true)else (if a=10 then some (false,2,2,true)else (if a=11 then some (false,2,2,true)else (if a=12 then some (false,2,2,true)else (if a=13 then some (false,2,2,true)else (if a=14 then some (false,2,2,true)else (if a=15 then some (false,2,2,true)else (if a=16 then some (false,2,2,true)else (if a=17 then some (false,2,2,true)else (if 1<=a then (if a<=36 then some (false,1,1,true)else some (false,1,1,false))else some (false,1,1,false))))))))))))))))))))))))))))
noncomputable def ACq:AH:=⟨202,Tryz.f202,false,[.y],[],[⟨.tup [.agg [.bool,.z,.z],.b],[],[]⟩],Bool×Int×Int×Bool,ii,lN,.e,[],none,[]⟩
noncomputable def ACr:Kz:=sg ACq [] Tryz.func202
def EE:Nat->Bool->Bool->Bool->Option (Bool)
 | 0,_,_,_=>none
 | n+1,a,b,c=>
  (if a=true then (if b=true then some c else some false)else some false)
def Ei:Nat->Int->Int->BA->BA->Bool->Bool->Bool->Option (Bool)
 | 0,_,_,_,_,_,_,_=>none
 | n+1,d,e,f,k,c,a,b=>
  (if d=1 then (if 0<=e then EE n c a true else EE n c a false)else (if d=2 then (if e=0 then EE n c a true else (if e=1 then EE n c a true else EE n c a false))else (if d=18 then Av (I9 n f) fun g=>EE n g a b else (if d=19 then Av (Kg n f) fun h=>EE n h a b else (if d=20 then Av (Kg n f) fun i=>Av (Kg n k) fun j=>EE n i j b else EE n c a b)))))
def lO (n:Nat) (d:Int) (a:Int) (c:BA) (b:BA) (e:BA) (f:LD) (g:LD) (h:Int):Option (Bool):=
 (if c=ByteArray.empty then (if b=ByteArray.empty then (if a=0 then Ei n d a c b true true true else Ei n d a c b true true false)else (if a=0 then Ei n d a c b true false true else Ei n d a c b true false false))else (if b=ByteArray.empty then (if a=0 then Ei n d a c b false true true else Ei n d a c b false true false)else (if a=0 then Ei n d a c b false false true else Ei n d a c b false false false)))
noncomputable def ACs:AH:=⟨203,Tryz.f203,false,[.agg [.y,.z,.str,.str,.str,.f 1,.q 8,.z]],[],[⟨.one (.b),[],[]⟩],Bool,ii,lO,.e,[⟨7,[1,2,3,4,5],[.loc 0],448,[.p (.loc 0) 0,.one (.cb false),.b,.b,.b],[.c [.y,.z,.str,.str,.str,.f 1,.q 8,.z]],fun n g a d h i j k _ _ _ _=>Ei n h i j k g a d,.e⟩,
 ⟨15,[2,3,4,5],[],1088,[.one (.cb false),.b,.b,.b],[],EE,.e⟩],none,[]⟩
noncomputable def ACt:Kz:=sg ACs [Zi,VC] Tryz.func203
def Gu:Nat->LD->Int->Option (Bool)
 | 0,_,_=>none
 | n+1,b,c=>
  AP b fun a=>(if a<=c then some true else some false)
def Gv:Nat->LD->Int->Int->Option (Bool)
 | 0,_,_,_=>none
 | n+1,a,b,c=>
  AP a fun d=>(if c<d then (if c<b then An a c fun e=>CG e fun f=>Av (I9 n f) fun g=>Aw (!g) fun h=>(if h=true then some false else AW (IntKind.wrap .i64 (c+1)) fun i=>Gv n a b i)else Gu n a b)else Gu n a b)
def F6 (n:Nat) (a:LD) (b:Int):Option (Bool):=
 Gv n a b 0
noncomputable def rY:AH:=⟨209,Tryz.f209,false,[.f 1,.z,.one (.fn 142 [])],[],[⟨.one (.b),[],[]⟩],Bool,ii,F6,.e,[⟨26,[0,1,2,6,7],[],64,[.f 1,.z,.one (.fn 142 []),.one (.cb false),.z],[],Gv,.e⟩,
 ⟨7,[0,1,6],[],352,[.f 1,.z,.one (.cb false)],[],Gu,.e⟩],none,[]⟩
noncomputable def Zk:Kz:=sg rY [VC] Tryz.func209
def lP (n:Nat) (a:BA):Option (Bool):=
 (if a=k__ then some true else Av (I9 n a) fun b=>some b)
noncomputable def ACu:AH:=⟨246,Tryz.f246,false,[.s],[],[⟨.one (.b),[],[]⟩],Bool,ii,lP,.e,[],none,[]⟩
noncomputable def ACv:Kz:=sg ACu [VC] Tryz.func246
def Mp:Nat->LD->Int->Option (Bool)
 | 0,_,_=>none
 | n+1,b,c=>
  AP b fun a=>(if a<=c then some true else some false)
def Mq:Nat->LD->Int->Int->Option (Bool)
 | 0,_,_,_=>none
 | n+1,a,b,c=>
  AP a fun d=>(if c<d then (if c<b then An a c fun e=>CG e fun f=>Av (lP n f) fun g=>Aw (!g) fun h=>(if h=true then some false else AW (IntKind.wrap .i64 (c+1)) fun i=>Mq n a b i)else Mp n a b)else Mp n a b)
def lQ (n:Nat) (a:LD) (b:Int):Option (Bool):=
 Mq n a b 0
noncomputable def ACw:AH:=⟨209,Tryz.f209,false,[.f 1,.z,.one (.fn 246 [])],[],[⟨.one (.b),[],[]⟩],Bool,ii,lQ,.e,[⟨26,[0,1,2,6,7],[],64,[.f 1,.z,.one (.fn 246 []),.one (.cb false),.z],[],Mq,.e⟩,
 ⟨7,[0,1,6],[],352,[.f 1,.z,.one (.cb false)],[],Mp,.e⟩],none,[]⟩
noncomputable def ACx:Kz:=sg ACw [ACv] Tryz.func209
def Qh (n:Nat) (a:BA) (b:LD):Option (Bool):=
 Av (I9 n a) fun c=>(if c=true then Av (lQ n b 40) fun d=>some d else some false)
noncomputable def ACy:AH:=⟨210,Tryz.f210,false,[.agg [.str,.f 1]],[],[⟨.one (.b),[],[]⟩],Bool,ii,Qh,.e,[],none,[]⟩
noncomputable def xY:Kz:=sg ACy [VC,ACx] Tryz.func210
def Qi (n:Nat) (a:BA) (b:LD):Option (Bool):=
 (if a=ByteArray.empty then AP b fun c=>(if c=0 then some true else some false)else some false)
noncomputable def ACz:AH:=⟨211,Tryz.f211,false,[.agg [.str,.f 1]],[],[⟨.one (.b),[],[]⟩],Bool,ii,Qi,.e,[],none,[]⟩
noncomputable def xZ:Kz:=sg ACz [] Tryz.func211
def lR (n:Nat) (h:Int) (k:Int) (l:BA) (m:BA) (b:BA) (a:LD) (i:LD) (o:Int) (j:Bool):Option (Bool):=
 (if j=true then Av (Qh n b a) fun c=>some c else (if h=19 then (if b=ByteArray.empty then AP a fun d=>AP i fun e=>(if d=e then Av (F6 n a 6) fun f=>some f else some false)else some false)else Av (Qi n b a) fun g=>some g))
noncomputable def ADa:AH:=⟨204,Tryz.f204,false,[.agg [.y,.z,.str,.str,.str,.f 1,.q 8,.z],.b],[],[⟨.one (.b),[],[]⟩],Bool,ii,lR,.e,[],none,[]⟩
noncomputable def ADb:Kz:=sg ADa [Zk,xY,xZ] Tryz.func204
mutual
def rZ:Nat->Int->Int->BA->BA->BA->LD->LD->Int->Int->Int->BA->BA->BA->LD->LD->Int->Int->Option (Bool×Int×Int×BA×BA×BA×LD×LD×Int×Int)
 | 0,_,_,_,_,_,_,_,_,_,_,_,_,_,_,_,_,_=>none
 | n+1,j,a,k,l,e,m,f,o,p,d,q,r,s,t,u,v,b=>
  (if p=18 then AW (IntKind.wrap .i64 (b - 1)) fun aa=>Av (Gw n j a k l e m f o aa) fun w=>some (w,p,d,q,r,s,t,u,v,b)else Av (Nw n j a k l e m f o) fun x=>Aw (!x) fun ab=>(if ab=true then AW (IntKind.wrap .i64 (b - 1)) fun g=>Av (Gw n j a k l e m f o g) fun ac=>some (ac,p,d,q,r,s,t,u,v,b)else some (false,p,d,q,r,s,t,u,v,b)))
def Jx:Nat->LD->Int->Int->Int->Int->BA->BA->BA->LD->LD->Int->Int->Option (Bool×Int×Int×BA×BA×BA×LD×LD×Int×Int)
 | 0,_,_,_,_,_,_,_,_,_,_,_,_=>none
 | n+1,h,a,c,y,z,A,B,C,E,F,G,i=>
  AP h fun g=>(if c<g then (if c<a then An h c fun ad=>CQ ad fun ae af ag ah ai aj ak al=>BO (rZ n ae af ag ah ai aj ak al y z A B C E F G i) fun am I J K L M N O P Q=>Aw (!am) fun an=>(if an=true then some (false,I,J,K,L,M,N,O,P,Q)else AW (IntKind.wrap .i64 (c+1)) fun ao=>Jx n h a ao I J K L M N O P Q)else Mr n h a y z A B C E F G i)else Mr n h a y z A B C E F G i)
def Mr:Nat->LD->Int->Int->Int->BA->BA->BA->LD->LD->Int->Int->Option (Bool×Int×Int×BA×BA×BA×LD×LD×Int×Int)
 | 0,_,_,_,_,_,_,_,_,_,_,_=>none
 | n+1,h,a,R,S,T,U,V,W,X,Y,Z=>
  AP h fun aq=>(if aq<=a then some (true,R,S,T,U,V,W,X,Y,Z)else some (false,R,S,T,U,V,W,X,Y,Z))
def sA:Nat->LD->Int->Int->Int->BA->BA->BA->LD->LD->Int->Int->Option (Bool×Int×Int×BA×BA×BA×LD×LD×Int×Int)
 | 0,_,_,_,_,_,_,_,_,_,_,_=>none
 | n+1,h,a,z3,z4,e,s6,s7,l8,l9,d,H=>
  Jx n h a 0 z3 z4 e s6 s7 l8 l9 d H
def Gw:Nat->Int->Int->BA->BA->BA->LD->LD->Int->Int->Option (Bool)
 | 0,_,_,_,_,_,_,_,_,_=>none
 | n+1,j,a,k,l,e,m,f,o,p=>
  oC (lN n j) fun ar H c au=>(if p<1 then some false else Aw (!au) fun av=>(if av=true then some false else Av (lO n j a k l e m f o) fun aw=>Aw (!aw) fun ax=>(if ax=true then some false else AP f fun b=>(if b<H then some false else Av (lR n j a k l e m f o ar) fun ay=>Aw (!ay) fun w=>(if w=true then some false else BO (sA n f c j a k l e m f o p) fun x i g aF aG aH aI aJ aK aL=>some x)))))
end
noncomputable def ADc:AH:=⟨206,Tryz.f206,false,[.agg [.y,.z,.str,.str,.str,.f 1,.q 8,.z],.p (.ext 0) 0,.p (.ext 1) 0],[.c [.y,.z,.str,.str,.str,.f 1,.q 8,.z],.c [.z]],[⟨.one (.b),[.c [.y,.z,.str,.str,.str,.f 1,.q 8,.z],.c [.z]],[]⟩],Bool×Int×Int×BA×BA×BA×LD×LD×Int×Int,ii,rZ,.e,[],none,[]⟩
noncomputable def ADd:AH:=⟨205,Tryz.f205,false,[.q 8,.z,.one (.fn 206 [.ext 0,.ext 1])],[.c [.y,.z,.str,.str,.str,.f 1,.q 8,.z],.c [.z]],[⟨.one (.b),[.c [.y,.z,.str,.str,.str,.f 1,.q 8,.z],.c [.z]],[]⟩],Bool×Int×Int×BA×BA×BA×LD×LD×Int×Int,ii,sA,.e,[⟨26,[0,1,2,6,7],[.ext 0,.ext 1],64,[.q 8,.z,.one (.fn 206 [.ext 0,.ext 1]),.one (.cb false),.z],[.c [.y,.z,.str,.str,.str,.f 1,.q 8,.z],.c [.z]],Jx,.e⟩,
 ⟨7,[0,1,6],[.ext 0,.ext 1],352,[.q 8,.z,.one (.cb false)],[.c [.y,.z,.str,.str,.str,.f 1,.q 8,.z],.c [.z]],Mr,.e⟩],none,[]⟩
noncomputable def yA:AH:=⟨144,Tryz.f144,false,[.agg [.y,.z,.str,.str,.str,.f 1,.q 8,.z],.z],[],[⟨.one (.b),[],[]⟩],Bool,ii,Gw,.e,[],none,[]⟩
theorem ADe:Be Tryz.prog inv (EB [ADc,ADd,yA]):=gr [VD,ACr,ACt,ADb] ⟨ge Tryz.func206,ge Tryz.func205,ge Tryz.func144,trivial⟩
noncomputable def Xa:Kz:=⟨yA.c,ADe.2.2.1⟩
def lS (n:Nat) (i:Int) (j:Int) (k:BA) (l:BA) (m:BA) (o:LD) (p:LD) (q:Int) (r:Int) (c:Int) (d:Bool) (e:Bool) (f:Bool) (g:Bool) (h:Bool) (b:Bool) (a:Int):Option (Bool×Int×Int×Bool×Bool×Bool×Bool×Bool×Bool×Int):=
 (if b=true then AW (IntKind.wrap .i64 (a - 1)) fun s=>Av (Gw n i j k l m o p q s) fun t=>some (t,r,c,d,e,f,g,h,b,a)else Av (Nw n i j k l m o p q) fun u=>Aw (!u) fun v=>(if v=true then AW (IntKind.wrap .i64 (a - 1)) fun w=>Av (Gw n i j k l m o p q w) fun x=>some (x,r,c,d,e,f,g,h,b,a)else some (false,r,c,d,e,f,g,h,b,a)))
noncomputable def ADf:AH:=⟨213,Tryz.f213,false,[.agg [.y,.z,.str,.str,.str,.f 1,.q 8,.z],.p (.ext 0) 0,.p (.ext 1) 0],[.c [.z,.z,.bool,.bool,.bool,.bool,.bool,.bool,.fn 245 [],.fn 245 []],.c [.z]],[⟨.one (.b),[.c [.z,.z,.bool,.bool,.bool,.bool,.bool,.bool,.fn 245 [],.fn 245 []],.c [.z]],[]⟩],Bool×Int×Int×Bool×Bool×Bool×Bool×Bool×Bool×Int,ii,lS,.e,[],none,[]⟩
noncomputable def ADg:Kz:=sg ADf [VD,Xa] Tryz.func213
def Gx:Nat->LD->Int->Int->Int->Bool->Bool->Bool->Bool->Bool->Bool->Int->Option (Bool×Int×Int×Bool×Bool×Bool×Bool×Bool×Bool×Int)
 | 0,_,_,_,_,_,_,_,_,_,_,_=>none
 | n+1,k,l,a,b,c,d,e,f,g,h,i=>
  AP k fun j=>(if j<=l then some (true,a,b,c,d,e,f,g,h,i)else some (false,a,b,c,d,e,f,g,h,i))
def Gy:Nat->LD->Int->Int->Int->Int->Bool->Bool->Bool->Bool->Bool->Bool->Int->Option (Bool×Int×Int×Bool×Bool×Bool×Bool×Bool×Bool×Int)
 | 0,_,_,_,_,_,_,_,_,_,_,_,_=>none
 | n+1,k,v,a,b,c,d,e,f,g,h,i,j=>
  AP k fun w=>(if a<w then (if a<v then An k a fun x=>CQ x fun y z A B C E F G=>BO (lS n y z A B C E F G b c d e f g h i j) fun H l m o p q r s t u=>Aw (!H) fun I=>(if I=true then some (false,l,m,o,p,q,r,s,t,u)else AW (IntKind.wrap .i64 (a+1)) fun J=>Gy n k v J l m o p q r s t u)else Gx n k v b c d e f g h i j)else Gx n k v b c d e f g h i j)
def Qj (n:Nat) (c:LD) (d:Int) (e:Int) (f:Int) (g:Bool) (h:Bool) (i:Bool) (j:Bool) (k:Bool) (a:Bool) (b:Int):Option (Bool×Int×Int×Bool×Bool×Bool×Bool×Bool×Bool×Int):=
 Gy n c d 0 e f g h i j k a b
noncomputable def sC:AH:=⟨205,Tryz.f205,false,[.q 8,.z,.one (.fn 213 [.ext 0,.ext 1])],[.c [.z,.z,.bool,.bool,.bool,.bool,.bool,.bool,.fn 245 [],.fn 245 []],.c [.z]],[⟨.one (.b),[.c [.z,.z,.bool,.bool,.bool,.bool,.bool,.bool,.fn 245 [],.fn 245 []],.c [.z]],[]⟩],Bool×Int×Int×Bool×Bool×Bool×Bool×Bool×Bool×Int,ii,Qj,.e,[⟨26,[0,1,2,6,7],[.ext 0,.ext 1],64,[.q 8,.z,.one (.fn 213 [.ext 0,.ext 1]),.one (.cb false),.z],[.c [.z,.z,.bool,.bool,.bool,.bool,.bool,.bool,.fn 245 [],.fn 245 []],.c [.z]],Gy,.e⟩,
 ⟨7,[0,1,6],[.ext 0,.ext 1],352,[.q 8,.z,.one (.cb false)],[.c [.z,.z,.bool,.bool,.bool,.bool,.bool,.bool,.fn 245 [],.fn 245 []],.c [.z]],Gx,.e⟩],none,[]⟩
noncomputable def sD:Kz:=sg sC [ADg] Tryz.func205
def Qk (n:Nat) (i:Int) (j:Int) (k:BA) (l:BA) (m:BA) (o:LD) (p:LD) (q:Int) (r:Int) (c:Int) (d:Bool) (e:Bool) (f:Bool) (g:Bool) (h:Bool) (b:Bool) (a:Int):Option (Bool×Int×Int×Bool×Bool×Bool×Bool×Bool×Bool×Int):=
 (if b=true then AW (IntKind.wrap .i64 (a - 1)) fun s=>Av (Gw n i j k l m o p q s) fun t=>some (t,r,c,d,e,f,g,h,b,a)else Av (Nw n i j k l m o p q) fun u=>Aw (!u) fun v=>(if v=true then AW (IntKind.wrap .i64 (a - 1)) fun w=>Av (Gw n i j k l m o p q w) fun x=>some (x,r,c,d,e,f,g,h,b,a)else some (false,r,c,d,e,f,g,h,b,a)))
noncomputable def sG:AH:=⟨213,Tryz.f213,false,[.agg [.y,.z,.str,.str,.str,.f 1,.q 8,.z],.p (.ext 0) 0,.p (.ext 1) 0],[.c [.z,.z,.bool,.bool,.bool,.bool,.bool,.bool,.fn 142 [],.fn 245 []],.c [.z]],[⟨.one (.b),[.c [.z,.z,.bool,.bool,.bool,.bool,.bool,.bool,.fn 142 [],.fn 245 []],.c [.z]],[]⟩],Bool×Int×Int×Bool×Bool×Bool×Bool×Bool×Bool×Int,ii,Qk,.e,[],none,[]⟩
noncomputable def sH:Kz:=sg sG [VD,Xa] Tryz.func213
def Gz:Nat->LD->Int->Int->Int->Bool->Bool->Bool->Bool->Bool->Bool->Int->Option (Bool×Int×Int×Bool×Bool×Bool×Bool×Bool×Bool×Int)
 | 0,_,_,_,_,_,_,_,_,_,_,_=>none
 | n+1,k,l,a,b,c,d,e,f,g,h,i=>
  AP k fun j=>(if j<=l then some (true,a,b,c,d,e,f,g,h,i)else some (false,a,b,c,d,e,f,g,h,i))
def G0:Nat->LD->Int->Int->Int->Int->Bool->Bool->Bool->Bool->Bool->Bool->Int->Option (Bool×Int×Int×Bool×Bool×Bool×Bool×Bool×Bool×Int)
 | 0,_,_,_,_,_,_,_,_,_,_,_,_=>none
 | n+1,k,v,a,b,c,d,e,f,g,h,i,j=>
  AP k fun w=>(if a<w then (if a<v then An k a fun x=>CQ x fun y z A B C E F G=>BO (Qk n y z A B C E F G b c d e f g h i j) fun H l m o p q r s t u=>Aw (!H) fun I=>(if I=true then some (false,l,m,o,p,q,r,s,t,u)else AW (IntKind.wrap .i64 (a+1)) fun J=>G0 n k v J l m o p q r s t u)else Gz n k v b c d e f g h i j)else Gz n k v b c d e f g h i j)
def Ql (n:Nat) (c:LD) (d:Int) (e:Int) (f:Int) (g:Bool) (h:Bool) (i:Bool) (j:Bool) (k:Bool) (a:Bool) (b:Int):Option (Bool×Int×Int×Bool×Bool×Bool×Bool×Bool×Bool×Int):=
 G0 n c d 0 e f g h i j k a b
noncomputable def sJ:AH:=⟨205,Tryz.f205,false,[.q 8,.z,.one (.fn 213 [.ext 0,.ext 1])],[.c [.z,.z,.bool,.bool,.bool,.bool,.bool,.bool,.fn 142 [],.fn 245 []],.c [.z]],[⟨.one (.b),[.c [.z,.z,.bool,.bool,.bool,.bool,.bool,.bool,.fn 142 [],.fn 245 []],.c [.z]],[]⟩],Bool×Int×Int×Bool×Bool×Bool×Bool×Bool×Bool×Int,ii,Ql,.e,[⟨26,[0,1,2,6,7],[.ext 0,.ext 1],64,[.q 8,.z,.one (.fn 213 [.ext 0,.ext 1]),.one (.cb false),.z],[.c [.z,.z,.bool,.bool,.bool,.bool,.bool,.bool,.fn 142 [],.fn 245 []],.c [.z]],G0,.e⟩,
 ⟨7,[0,1,6],[.ext 0,.ext 1],352,[.q 8,.z,.one (.cb false)],[.c [.z,.z,.bool,.bool,.bool,.bool,.bool,.bool,.fn 142 [],.fn 245 []],.c [.z]],Gz,.e⟩],none,[]⟩
noncomputable def sK:Kz:=sg sJ [sH] Tryz.func205
def Qm (n:Nat) (i:Int) (j:Int) (k:BA) (l:BA) (m:BA) (o:LD) (p:LD) (q:Int) (r:Int) (c:Int) (d:Bool) (e:Bool) (f:Bool) (g:Bool) (h:Bool) (b:Bool) (a:Int):Option (Bool×Int×Int×Bool×Bool×Bool×Bool×Bool×Bool×Int):=
 (if b=true then AW (IntKind.wrap .i64 (a - 1)) fun s=>Av (Gw n i j k l m o p q s) fun t=>some (t,r,c,d,e,f,g,h,b,a)else Av (Nw n i j k l m o p q) fun u=>Aw (!u) fun v=>(if v=true then AW (IntKind.wrap .i64 (a - 1)) fun w=>Av (Gw n i j k l m o p q w) fun x=>some (x,r,c,d,e,f,g,h,b,a)else some (false,r,c,d,e,f,g,h,b,a)))
noncomputable def sM:AH:=⟨213,Tryz.f213,false,[.agg [.y,.z,.str,.str,.str,.f 1,.q 8,.z],.p (.ext 0) 0,.p (.ext 1) 0],[.c [.z,.z,.bool,.bool,.bool,.bool,.bool,.bool,.fn 141 [],.fn 245 []],.c [.z]],[⟨.one (.b),[.c [.z,.z,.bool,.bool,.bool,.bool,.bool,.bool,.fn 141 [],.fn 245 []],.c [.z]],[]⟩],Bool×Int×Int×Bool×Bool×Bool×Bool×Bool×Bool×Int,ii,Qm,.e,[],none,[]⟩
noncomputable def sN:Kz:=sg sM [VD,Xa] Tryz.func213
def G1:Nat->LD->Int->Int->Int->Bool->Bool->Bool->Bool->Bool->Bool->Int->Option (Bool×Int×Int×Bool×Bool×Bool×Bool×Bool×Bool×Int)
 | 0,_,_,_,_,_,_,_,_,_,_,_=>none
 | n+1,k,l,a,b,c,d,e,f,g,h,i=>
  AP k fun j=>(if j<=l then some (true,a,b,c,d,e,f,g,h,i)else some (false,a,b,c,d,e,f,g,h,i))
def G2:Nat->LD->Int->Int->Int->Int->Bool->Bool->Bool->Bool->Bool->Bool->Int->Option (Bool×Int×Int×Bool×Bool×Bool×Bool×Bool×Bool×Int)
 | 0,_,_,_,_,_,_,_,_,_,_,_,_=>none
 | n+1,k,v,a,b,c,d,e,f,g,h,i,j=>
  AP k fun w=>(if a<w then (if a<v then An k a fun x=>CQ x fun y z A B C E F G=>BO (Qm n y z A B C E F G b c d e f g h i j) fun H l m o p q r s t u=>Aw (!H) fun I=>(if I=true then some (false,l,m,o,p,q,r,s,t,u)else AW (IntKind.wrap .i64 (a+1)) fun J=>G2 n k v J l m o p q r s t u)else G1 n k v b c d e f g h i j)else G1 n k v b c d e f g h i j)
def Qn (n:Nat) (c:LD) (d:Int) (e:Int) (f:Int) (g:Bool) (h:Bool) (i:Bool) (j:Bool) (k:Bool) (a:Bool) (b:Int):Option (Bool×Int×Int×Bool×Bool×Bool×Bool×Bool×Bool×Int):=
 G2 n c d 0 e f g h i j k a b
noncomputable def sO:AH:=⟨205,Tryz.f205,false,[.q 8,.z,.one (.fn 213 [.ext 0,.ext 1])],[.c [.z,.z,.bool,.bool,.bool,.bool,.bool,.bool,.fn 141 [],.fn 245 []],.c [.z]],[⟨.one (.b),[.c [.z,.z,.bool,.bool,.bool,.bool,.bool,.bool,.fn 141 [],.fn 245 []],.c [.z]],[]⟩],Bool×Int×Int×Bool×Bool×Bool×Bool×Bool×Bool×Int,ii,Qn,.e,[⟨26,[0,1,2,6,7],[.ext 0,.ext 1],64,[.q 8,.z,.one (.fn 213 [.ext 0,.ext 1]),.one (.cb false),.z],[.c [.z,.z,.bool,.bool,.bool,.bool,.bool,.bool,.fn 141 [],.fn 245 []],.c [.z]],G2,.e⟩,
 ⟨7,[0,1,6],[.ext 0,.ext 1],352,[.q 8,.z,.one (.cb false)],[.c [.z,.z,.bool,.bool,.bool,.bool,.bool,.bool,.fn 141 [],.fn 245 []],.c [.z]],G1,.e⟩],none,[]⟩
noncomputable def sP:Kz:=sg sO [sN] Tryz.func205
def Qo (n:Nat) (i:Int) (j:Int) (k:BA) (l:BA) (m:BA) (o:LD) (p:LD) (q:Int) (r:Int) (c:Int) (d:Bool) (e:Bool) (f:Bool) (g:Bool) (h:Bool) (b:Bool) (a:Int):Option (Bool×Int×Int×Bool×Bool×Bool×Bool×Bool×Bool×Int):=
 (if b=true then AW (IntKind.wrap .i64 (a - 1)) fun s=>Av (Gw n i j k l m o p q s) fun t=>some (t,r,c,d,e,f,g,h,b,a)else Av (Nw n i j k l m o p q) fun u=>Aw (!u) fun v=>(if v=true then AW (IntKind.wrap .i64 (a - 1)) fun w=>Av (Gw n i j k l m o p q w) fun x=>some (x,r,c,d,e,f,g,h,b,a)else some (false,r,c,d,e,f,g,h,b,a)))
noncomputable def sQ:AH:=⟨213,Tryz.f213,false,[.agg [.y,.z,.str,.str,.str,.f 1,.q 8,.z],.p (.ext 0) 0,.p (.ext 1) 0],[.c [.z,.z,.bool,.bool,.bool,.bool,.bool,.bool,.fn 142 [],.fn 141 []],.c [.z]],[⟨.one (.b),[.c [.z,.z,.bool,.bool,.bool,.bool,.bool,.bool,.fn 142 [],.fn 141 []],.c [.z]],[]⟩],Bool×Int×Int×Bool×Bool×Bool×Bool×Bool×Bool×Int,ii,Qo,.e,[],none,[]⟩
noncomputable def sR:Kz:=sg sQ [VD,Xa] Tryz.func213
def G3:Nat->LD->Int->Int->Int->Bool->Bool->Bool->Bool->Bool->Bool->Int->Option (Bool×Int×Int×Bool×Bool×Bool×Bool×Bool×Bool×Int)
 | 0,_,_,_,_,_,_,_,_,_,_,_=>none
 | n+1,k,l,a,b,c,d,e,f,g,h,i=>
  AP k fun j=>(if j<=l then some (true,a,b,c,d,e,f,g,h,i)else some (false,a,b,c,d,e,f,g,h,i))
def G4:Nat->LD->Int->Int->Int->Int->Bool->Bool->Bool->Bool->Bool->Bool->Int->Option (Bool×Int×Int×Bool×Bool×Bool×Bool×Bool×Bool×Int)
 | 0,_,_,_,_,_,_,_,_,_,_,_,_=>none
 | n+1,k,v,a,b,c,d,e,f,g,h,i,j=>
  AP k fun w=>(if a<w then (if a<v then An k a fun x=>CQ x fun y z A B C E F G=>BO (Qo n y z A B C E F G b c d e f g h i j) fun H l m o p q r s t u=>Aw (!H) fun I=>(if I=true then some (false,l,m,o,p,q,r,s,t,u)else AW (IntKind.wrap .i64 (a+1)) fun J=>G4 n k v J l m o p q r s t u)else G3 n k v b c d e f g h i j)else G3 n k v b c d e f g h i j)
def Qq (n:Nat) (c:LD) (d:Int) (e:Int) (f:Int) (g:Bool) (h:Bool) (i:Bool) (j:Bool) (k:Bool) (a:Bool) (b:Int):Option (Bool×Int×Int×Bool×Bool×Bool×Bool×Bool×Bool×Int):=
 G4 n c d 0 e f g h i j k a b
noncomputable def sV:AH:=⟨205,Tryz.f205,false,[.q 8,.z,.one (.fn 213 [.ext 0,.ext 1])],[.c [.z,.z,.bool,.bool,.bool,.bool,.bool,.bool,.fn 142 [],.fn 141 []],.c [.z]],[⟨.one (.b),[.c [.z,.z,.bool,.bool,.bool,.bool,.bool,.bool,.fn 142 [],.fn 141 []],.c [.z]],[]⟩],Bool×Int×Int×Bool×Bool×Bool×Bool×Bool×Bool×Int,ii,Qq,.e,[⟨26,[0,1,2,6,7],[.ext 0,.ext 1],64,[.q 8,.z,.one (.fn 213 [.ext 0,.ext 1]),.one (.cb false),.z],[.c [.z,.z,.bool,.bool,.bool,.bool,.bool,.bool,.fn 142 [],.fn 141 []],.c [.z]],G4,.e⟩,
 ⟨7,[0,1,6],[.ext 0,.ext 1],352,[.q 8,.z,.one (.cb false)],[.c [.z,.z,.bool,.bool,.bool,.bool,.bool,.bool,.fn 142 [],.fn 141 []],.c [.z]],G3,.e⟩],none,[]⟩
noncomputable def sW:Kz:=sg sV [sR] Tryz.func205
def Qr (n:Nat) (i:Int) (j:Int) (k:BA) (l:BA) (m:BA) (o:LD) (p:LD) (q:Int) (r:Int) (c:Int) (d:Bool) (e:Bool) (f:Bool) (g:Bool) (h:Bool) (b:Bool) (a:Int):Option (Bool×Int×Int×Bool×Bool×Bool×Bool×Bool×Bool×Int):=
 (if b=true then AW (IntKind.wrap .i64 (a - 1)) fun s=>Av (Gw n i j k l m o p q s) fun t=>some (t,r,c,d,e,f,g,h,b,a)else Av (Nw n i j k l m o p q) fun u=>Aw (!u) fun v=>(if v=true then AW (IntKind.wrap .i64 (a - 1)) fun w=>Av (Gw n i j k l m o p q w) fun x=>some (x,r,c,d,e,f,g,h,b,a)else some (false,r,c,d,e,f,g,h,b,a)))
noncomputable def sX:AH:=⟨213,Tryz.f213,false,[.agg [.y,.z,.str,.str,.str,.f 1,.q 8,.z],.p (.ext 0) 0,.p (.ext 1) 0],[.c [.z,.z,.bool,.bool,.bool,.bool,.bool,.bool,.fn 142 [],.fn 142 []],.c [.z]],[⟨.one (.b),[.c [.z,.z,.bool,.bool,.bool,.bool,.bool,.bool,.fn 142 [],.fn 142 []],.c [.z]],[]⟩],Bool×Int×Int×Bool×Bool×Bool×Bool×Bool×Bool×Int,ii,Qr,.e,[],none,[]⟩
noncomputable def sY:Kz:=sg sX [VD,Xa] Tryz.func213
def G5:Nat->LD->Int->Int->Int->Bool->Bool->Bool->Bool->Bool->Bool->Int->Option (Bool×Int×Int×Bool×Bool×Bool×Bool×Bool×Bool×Int)
 | 0,_,_,_,_,_,_,_,_,_,_,_=>none
 | n+1,k,l,a,b,c,d,e,f,g,h,i=>
  AP k fun j=>(if j<=l then some (true,a,b,c,d,e,f,g,h,i)else some (false,a,b,c,d,e,f,g,h,i))
def G6:Nat->LD->Int->Int->Int->Int->Bool->Bool->Bool->Bool->Bool->Bool->Int->Option (Bool×Int×Int×Bool×Bool×Bool×Bool×Bool×Bool×Int)
 | 0,_,_,_,_,_,_,_,_,_,_,_,_=>none
 | n+1,k,v,a,b,c,d,e,f,g,h,i,j=>
  AP k fun w=>(if a<w then (if a<v then An k a fun x=>CQ x fun y z A B C E F G=>BO (Qr n y z A B C E F G b c d e f g h i j) fun H l m o p q r s t u=>Aw (!H) fun I=>(if I=true then some (false,l,m,o,p,q,r,s,t,u)else AW (IntKind.wrap .i64 (a+1)) fun J=>G6 n k v J l m o p q r s t u)else G5 n k v b c d e f g h i j)else G5 n k v b c d e f g h i j)
def Qs (n:Nat) (c:LD) (d:Int) (e:Int) (f:Int) (g:Bool) (h:Bool) (i:Bool) (j:Bool) (k:Bool) (a:Bool) (b:Int):Option (Bool×Int×Int×Bool×Bool×Bool×Bool×Bool×Bool×Int):=
 G6 n c d 0 e f g h i j k a b
noncomputable def sZ:AH:=⟨205,Tryz.f205,false,[.q 8,.z,.one (.fn 213 [.ext 0,.ext 1])],[.c [.z,.z,.bool,.bool,.bool,.bool,.bool,.bool,.fn 142 [],.fn 142 []],.c [.z]],[⟨.one (.b),[.c [.z,.z,.bool,.bool,.bool,.bool,.bool,.bool,.fn 142 [],.fn 142 []],.c [.z]],[]⟩],Bool×Int×Int×Bool×Bool×Bool×Bool×Bool×Bool×Int,ii,Qs,.e,[⟨26,[0,1,2,6,7],[.ext 0,.ext 1],64,[.q 8,.z,.one (.fn 213 [.ext 0,.ext 1]),.one (.cb false),.z],[.c [.z,.z,.bool,.bool,.bool,.bool,.bool,.bool,.fn 142 [],.fn 142 []],.c [.z]],G6,.e⟩,
 ⟨7,[0,1,6],[.ext 0,.ext 1],352,[.q 8,.z,.one (.cb false)],[.c [.z,.z,.bool,.bool,.bool,.bool,.bool,.bool,.fn 142 [],.fn 142 []],.c [.z]],G5,.e⟩],none,[]⟩
noncomputable def tA:Kz:=sg sZ [sY] Tryz.func205
def lU (n:Nat) (a:Int) (j:BA) (k:BA) (c:LD) (l:Int) (m:BA) (o:LD) (p:Int) (q:BA) (d:LD) (e:LD) (f:LD) (g:LD) (h:LD) (i:Int):Option (((Int×Int×Bool×Bool×Bool×Bool×Bool) ⊕ ((Int×Bool×Bool×Bool) ⊕ ((Unit) ⊕ ((Unit) ⊕ (Unit)))))):=
 (if a=1 then some (.inr (.inl (1,false,false,true)))else (if a=2 then some (.inr (.inr (.inl ())))else (if a=3 then some (.inl (0,1,true,false,false,false,true))else (if a=4 then some (.inl (0,1,false,false,false,false,true))else (if a=5 then some (.inr (.inl (0,false,false,false)))else (if a=6 then some (.inl (0,1,false,true,true,false,true))else (if a=7 then some (.inl (0,1,false,true,false,false,true))else (if a=8 then some (.inr (.inr (.inr (.inl ()))))else (if a=9 then some (.inl (0,0,false,true,false,false,true))else (if a=13 then some (.inl (0,0,false,true,false,false,true))else (if a=10 then AP c fun b=>some (.inl (6,b,false,true,false,true,true))else (if a=11 then some (.inr (.inl (0,true,true,false)))else (if a=12 then some (.inr (.inr (.inr (.inr ()))))else some (.inl (0,0,false,false,false,false,false)))))))))))))))
noncomputable def ADh:AH:=⟨207,Tryz.f207,false,[.agg [.y,.str,.str,.f 1,.y,.str,.q 3,.z,.str,.f 1,.q 8,.q 15,.q 15,.q 3,.z]],[],[⟨.tup [.mix [.z,.z,.cb false,.bool,.bool,.bool,.cb false,.bool,.fn 245 [],.fn 245 []],.b],[],[]⟩,⟨.tup [.mix [.k 0,.z,.cb false,.bool,.bool,.cb false,.cb false,.bool,.fn 142 [],.fn 245 []],.one (.cb true)],[],[]⟩,⟨.tup [.mix [.k 6,.k 1,.cb false,.cb false,.cb false,.cb false,.cb false,.cb false,.fn 141 [],.fn 245 []],.one (.cb true)],[],[]⟩,⟨.tup [.mix [.k 0,.k 0,.cb false,.cb false,.cb false,.cb false,.cb true,.cb false,.fn 142 [],.fn 141 []],.one (.cb true)],[],[]⟩,⟨.tup [.mix [.k 0,.k 0,.cb true,.cb false,.cb false,.cb false,.cb false,.cb false,.fn 142 [],.fn 142 []],.one (.cb true)],[],[]⟩],((Int×Int×Bool×Bool×Bool×Bool×Bool) ⊕ ((Int×Bool×Bool×Bool) ⊕ ((Unit) ⊕ ((Unit) ⊕ (Unit))))),ii,lU,.e,[],none,[]⟩
noncomputable def ADi:Kz:=sg ADh [] Tryz.func207
def TA (n:Nat) (b:Int) (i:BA) (j:BA) (k:LD) (l:Int) (m:BA) (o:LD) (a:Int) (p:BA) (c:LD) (d:LD) (e:LD) (f:LD) (g:LD) (h:Int):Option (Bool):=
 (if b=12 then (if 1<=a then (if a<=8 then some true else some false)else some false)else (if a=0 then some true else some false))
noncomputable def ADj:AH:=⟨208,Tryz.f208,false,[.agg [.y,.str,.str,.f 1,.y,.str,.q 3,.z,.str,.f 1,.q 8,.q 15,.q 15,.q 3,.z]],[],[⟨.one (.b),[],[]⟩],Bool,ii,TA,.e,[],none,[]⟩
noncomputable def ADk:Kz:=sg ADj [] Tryz.func208
def VE (n:Nat) (a:BA):Option (Bool):=
 (if a=ByteArray.empty then some true else some false)
noncomputable def ADl:AH:=⟨245,Tryz.f245,false,[.s],[],[⟨.one (.b),[],[]⟩],Bool,ii,VE,.e,[],none,[]⟩
noncomputable def ADm:Kz:=sg ADl [] Tryz.func245
mutual
def tB:Nat->Int->BA->BA->LD->Int->BA->LD->Int->BA->LD->LD->LD->LD->LD->Int->Int->Option (Bool×Int)
 | 0,_,_,_,_,_,_,_,_,_,_,_,_,_,_,_,_=>none
 | n+1,F,x,A,B,h,t,u,E,o,f,d,b,a,c,g,e=>
  AW (IntKind.wrap .i64 (e - 1)) fun i=>Av (VF n F x A B h t u E o f d b a c g i) fun bH=>some (bH,e)
def G7:Nat->LD->Int->Int->Int->Option (Bool×Int)
 | 0,_,_,_,_=>none
 | n+1,r,v,z,h=>
  AP r fun I=>(if z<I then (if z<v then An r z fun x7=>Cp x7 fun E o bJ d C bK c g bL bM bN bO bP bQ bR=>Ir (tB n E o bJ d C bK c g bL bM bN bO bP bQ bR h) fun G j=>Aw (!G) fun k=>(if k=true then some (false,j)else AW (IntKind.wrap .i64 (z+1)) fun bT=>G7 n r v bT j)else G8 n r v h)else G8 n r v h)
def G8:Nat->LD->Int->Int->Option (Bool×Int)
 | 0,_,_,_=>none
 | n+1,r,v,J=>
  AP r fun bU=>(if bU<=v then some (true,J)else some (false,J))
def B5:Nat->LD->Int->Int->Option (Bool×Int)
 | 0,_,_,_=>none
 | n+1,r,v,z3=>
  G7 n r v 0 z3
def lV:Nat->BA->BA->LD->Int->Option (Bool×Int)
 | 0,_,_,_,_=>none
 | n+1,s1,x,l3,z=>
  Av (Kg n s1) fun b5=>(if b5=true then (if x=ByteArray.empty then AP l3 fun I=>Ir (B5 n l3 I z) fun b7 E=>some (b7,E)else Av (I9 n x) fun b9=>(if b9=true then AP l3 fun bW=>Ir (B5 n l3 bW z) fun H C=>some (H,C)else some (false,z)))else some (false,z))
def H8:Nat->LD->Int->Int->Int->Option (Bool×Int)
 | 0,_,_,_,_=>none
 | n+1,r,v,z,h=>
  AP r fun I=>(if z<I then (if z<v then An r z fun x7=>EA x7 fun s8 o f=>Ir (lV n s8 o f h) fun H C=>Aw (!H) fun bX=>(if bX=true then some (false,C)else AW (IntKind.wrap .i64 (z+1)) fun bY=>H8 n r v bY C)else H9 n r v h)else H9 n r v h)
def H9:Nat->LD->Int->Int->Option (Bool×Int)
 | 0,_,_,_=>none
 | n+1,r,v,g=>
  AP r fun e=>(if e<=v then some (true,g)else some (false,g))
def Kh:Nat->LD->Int->Int->Option (Bool×Int)
 | 0,_,_,_=>none
 | n+1,r,v,z3=>
  H8 n r v 0 z3
def Ms:Nat->LD->LD->LD->LD->Int->Int->Int->Bool->Bool->Bool->Bool->Option (Bool)
 | 0,_,_,_,_,_,_,_,_,_,_,_=>none
 | n+1,d,b,a,c,e,i,p,l,q,m,s=>
  Aw (!q) fun bZ=>(if bZ=true then AP b fun b0=>(if 0<b0 then some false else Aw (!m) fun b1=>(if b1=true then AP a fun b2=>(if 0<b2 then some false else AP c fun b3=>(if 0<b3 then some false else IA n d b a c e i p l q m s))else AP c fun b4=>(if 0<b4 then some false else IA n d b a c e i p l q m s)))else Aw (!m) fun b6=>(if b6=true then AP a fun b8=>(if 0<b8 then some false else AP c fun ca=>(if 0<ca then some false else IA n d b a c e i p l q m s))else AP c fun cb=>(if 0<cb then some false else IA n d b a c e i p l q m s)))
def IA:Nat->LD->LD->LD->LD->Int->Int->Int->Bool->Bool->Bool->Bool->Option (Bool)
 | 0,_,_,_,_,_,_,_,_,_,_,_=>none
 | n+1,d,b,a,c,e,i,p,l,q,m,s=>
  BO (Qj n d 6 i p false l q m false s e) fun cc d1 d2 d3 d4 d5 d6 d7 d8 ce=>(if cc=true then AP b fun cf=>Ir (B5 n b cf ce) fun cg ch=>(if cg=true then AP a fun ci=>Ir (B5 n a ci ch) fun cj ck=>(if cj=true then Ir (Kh n c 6 ck) fun cl d9=>some cl else some false)else some false)else some false)
def Mt:Nat->LD->LD->LD->LD->Int->Int->Bool->Bool->Bool->Option (Bool)
 | 0,_,_,_,_,_,_,_,_,_=>none
 | n+1,d,b,a,c,e,j,k,w,y=>
  Aw (!w) fun K=>(if K=true then AP b fun L=>(if 0<L then some false else AP a fun M=>(if 0<M then some false else AP c fun N=>(if 0<N then some false else Mu n d b a c e j k w y)))else AP a fun O=>(if 0<O then some false else AP c fun P=>(if 0<P then some false else Mu n d b a c e j k w y)))
def Mu:Nat->LD->LD->LD->LD->Int->Int->Bool->Bool->Bool->Option (Bool)
 | 0,_,_,_,_,_,_,_,_,_=>none
 | n+1,d,b,a,c,e,j,k,w,y=>
  BO (Ql n d 6 0 j false k w false false y e) fun Q dg dh di dj dk dl dm dn R=>(if Q=true then AP b fun S=>Ir (B5 n b S R) fun T U=>(if T=true then AP a fun V=>Ir (B5 n a V U) fun W X=>(if W=true then Ir (Kh n c 6 X) fun Y dp=>some Y else some false)else some false)else some false)
def VF:Nat->Int->BA->BA->LD->Int->BA->LD->Int->BA->LD->LD->LD->LD->LD->Int->Int->Option (Bool)
 | 0,_,_,_,_,_,_,_,_,_,_,_,_,_,_,_,_=>none
 | n+1,F,x,A,B,h,t,u,E,o,f,d,b,a,c,g,e=>
  bS (lU n F x A B h t u E o f d b a c g) (fun cm=>qL (some cm) fun i p l q m s G=>(if e<1 then some false else Aw (!G) fun cn=>(if cn=true then some false else Av (TA n F x A B h t u E o f d b a c g) fun co=>Aw (!co) fun cp=>(if cp=true then some false else Av (VE n x) fun cq=>Aw (!cq) fun cr=>(if cr=true then some false else Av (VE n A) fun cs=>Aw (!cs) fun ct=>(if ct=true then some false else AP d fun cu=>(if cu=p then Av (F6 n B i) fun cv=>Aw (!cv) fun cw=>(if cw=true then some false else AW (IntKind.wrap .i64 (e - 1)) fun cx=>Av (H7 n h t u cx) fun cy=>Aw (!(false==cy)) fun cz=>(if cz=true then some false else Av (Nv n h t u) fun cA=>Aw (!cA) fun cB=>(if cB=true then some false else Av (Qh n o f) fun cC=>Aw (!(l==cC)) fun cD=>(if cD=true then some false else Aw (!l) fun cE=>(if cE=true then Av (Qi n o f) fun cF=>Aw (!cF) fun cG=>(if cG=true then some false else Ms n d b a c e i p l q m s)else Ms n d b a c e i p l q m s)))))else some false))))))) (fun cH=>bS (some cH) (fun cI=>oC (some cI) fun j k w y=>(if e<1 then some false else Av (TA n F x A B h t u E o f d b a c g) fun cJ=>Aw (!cJ) fun cK=>(if cK=true then some false else Av (I9 n x) fun cM=>Aw (!cM) fun cN=>(if cN=true then some false else Av (VE n A) fun cO=>Aw (!cO) fun cQ=>(if cQ=true then some false else AP d fun cS=>(if cS=j then Av (F6 n B 0) fun cT=>Aw (!cT) fun cU=>(if cU=true then some false else AW (IntKind.wrap .i64 (e - 1)) fun cV=>Av (H7 n h t u cV) fun cW=>Aw (!(false==cW)) fun cX=>(if cX=true then some false else Av (Nv n h t u) fun cY=>Aw (!cY) fun cZ=>(if cZ=true then some false else Av (Qh n o f) fun da=>Aw (!(k==da)) fun db=>(if db=true then some false else Aw (!k) fun Z=>(if Z=true then Av (Qi n o f) fun aa=>Aw (!aa) fun ab=>(if ab=true then some false else Mt n d b a c e j k w y)else Mt n d b a c e j k w y)))))else some false)))))) (fun dd=>bS (some dd) (fun _=>(if e<1 then some false else Av (TA n F x A B h t u E o f d b a c g) fun ac=>Aw (!ac) fun ad=>(if ad=true then some false else Av (Kg n x) fun ae=>Aw (!ae) fun af=>(if af=true then some false else Av (VE n A) fun ag=>Aw (!ag) fun ah=>(if ah=true then some false else AP d fun ai=>(if ai=1 then Av (F6 n B 6) fun aj=>Aw (!aj) fun ak=>(if ak=true then some false else AW (IntKind.wrap .i64 (e - 1)) fun al=>Av (H7 n h t u al) fun am=>Aw (!(false==am)) fun an=>(if an=true then some false else Av (Nv n h t u) fun ao=>Aw (!ao) fun aq=>(if aq=true then some false else Av (Qh n o f) fun ar=>Aw (!(false==ar)) fun au=>(if au=true then some false else Av (Qi n o f) fun av=>Aw (!av) fun aw=>(if aw=true then some false else AP b fun ax=>(if 0<ax then some false else AP a fun ay=>(if 0<ay then some false else AP c fun az=>(if 0<az then some false else BO (Qn n d 6 6 1 false false false false false false e) fun aA dq dr ds dt du dv dw dx aB=>(if aA=true then AP b fun aC=>Ir (B5 n b aC aB) fun aD aE=>(if aD=true then AP a fun aF=>Ir (B5 n a aF aE) fun aG aH=>(if aG=true then Ir (Kh n c 6 aH) fun aI dy=>some aI else some false)else some false)else some false)))))))))else some false)))))) (fun de=>bS (some de) (fun _=>(if e<1 then some false else Av (TA n F x A B h t u E o f d b a c g) fun aJ=>Aw (!aJ) fun aK=>(if aK=true then some false else Av (I9 n x) fun aL=>Aw (!aL) fun aM=>(if aM=true then some false else Av (Kg n A) fun aN=>Aw (!aN) fun aO=>(if aO=true then some false else AP d fun aP=>(if aP=0 then Av (F6 n B 0) fun aQ=>Aw (!aQ) fun aR=>(if aR=true then some false else AW (IntKind.wrap .i64 (e - 1)) fun aS=>Av (H7 n h t u aS) fun aT=>Aw (!(false==aT)) fun aU=>(if aU=true then some false else Av (Nv n h t u) fun aV=>Aw (!aV) fun aW=>(if aW=true then some false else Av (Qh n o f) fun aX=>Aw (!(false==aX)) fun aY=>(if aY=true then some false else Av (Qi n o f) fun aZ=>Aw (!aZ) fun a0=>(if a0=true then some false else AP b fun a1=>(if 0<a1 then some false else AP a fun a2=>(if 0<a2 then some false else BO (Qq n d 6 0 0 false false false false true false e) fun a3 dz dA dC dD dE dF dG dH a4=>(if a3=true then AP b fun a5=>Ir (B5 n b a5 a4) fun a6 a7=>(if a6=true then AP a fun a8=>Ir (B5 n a a8 a7) fun a9 ba=>(if a9=true then Ir (Kh n c 6 ba) fun bb dI=>some bb else some false)else some false)else some false))))))))else some false)))))) (fun _=>(if e<1 then some false else Av (TA n F x A B h t u E o f d b a c g) fun bc=>Aw (!bc) fun bd=>(if bd=true then some false else Av (I9 n x) fun be=>Aw (!be) fun bf=>(if bf=true then some false else Av (I9 n A) fun bg=>Aw (!bg) fun bh=>(if bh=true then some false else AP d fun bi=>(if bi=0 then Av (F6 n B 0) fun bj=>Aw (!bj) fun bl=>(if bl=true then some false else AW (IntKind.wrap .i64 (e - 1)) fun bm=>Av (H7 n h t u bm) fun bn=>Aw (!(true==bn)) fun bo=>(if bo=true then some false else Av (Qh n o f) fun bp=>Aw (!(false==bp)) fun bq=>(if bq=true then some false else Av (Qi n o f) fun br=>Aw (!br) fun bs=>(if bs=true then some false else AP b fun bt=>(if 0<bt then some false else AP a fun bu=>(if 0<bu then some false else AP c fun bv=>(if 0<bv then some false else BO (Qs n d 6 0 0 true false false false false false e) fun bw dJ dK dL dM dN dO dP dR bx=>(if bw=true then AP b fun bz=>Ir (B5 n b bz bx) fun bA bB=>(if bA=true then AP a fun bC=>Ir (B5 n a bC bB) fun bD bE=>(if bD=true then Ir (Kh n c 6 bE) fun bF dT=>some bF else some false)else some false)else some false))))))))else some false)))))))))
end
noncomputable def ADn:AH:=⟨212,Tryz.f212,false,[.agg [.y,.str,.str,.f 1,.y,.str,.q 3,.z,.str,.f 1,.q 8,.q 15,.q 15,.q 3,.z],.p (.ext 0) 0],[.c [.z]],[⟨.one (.b),[.c [.z]],[]⟩],Bool×Int,ii,tB,.e,[],none,[]⟩
noncomputable def tC:AH:=⟨145,Tryz.f145,false,[.q 15,.z,.one (.fn 212 [.ext 0])],[.c [.z]],[⟨.one (.b),[.c [.z]],[]⟩],Bool×Int,ii,B5,.e,[⟨26,[0,1,2,6,7],[.ext 0],64,[.q 15,.z,.one (.fn 212 [.ext 0]),.one (.cb false),.z],[.c [.z]],G7,.e⟩,
 ⟨7,[0,1,6],[.ext 0],352,[.q 15,.z,.one (.cb false)],[.c [.z]],G8,.e⟩],none,[]⟩
noncomputable def ADo:AH:=⟨215,Tryz.f215,false,[.agg [.str,.str,.q 15],.p (.ext 0) 0],[.c [.fn 212 [.ext 1]],.c [.z]],[⟨.one (.b),[.c [.fn 212 [.ext 1]],.c [.z]],[]⟩],Bool×Int,ii,lV,.e,[],none,[]⟩
noncomputable def ADp:AH:=⟨214,Tryz.f214,false,[.q 3,.z,.one (.fn 215 [.ext 0])],[.c [.fn 212 [.ext 1]],.c [.z]],[⟨.one (.b),[.c [.fn 212 [.ext 1]],.c [.z]],[]⟩],Bool×Int,ii,Kh,.e,[⟨26,[0,1,2,6,7],[.ext 0,.ext 1],64,[.q 3,.z,.one (.fn 215 [.ext 0]),.one (.cb false),.z],[.c [.fn 212 [.ext 1]],.c [.z]],H8,.e⟩,
 ⟨7,[0,1,6],[.ext 0,.ext 1],352,[.q 3,.z,.one (.cb false)],[.c [.fn 212 [.ext 1]],.c [.z]],H9,.e⟩],none,[]⟩
noncomputable def yB:AH:=⟨147,Tryz.f147,false,[.agg [.y,.str,.str,.f 1,.y,.str,.q 3,.z,.str,.f 1,.q 8,.q 15,.q 15,.q 3,.z],.z],[],[⟨.one (.b),[],[]⟩],Bool,ii,VF,.n 0 (.b .e (.b .e (.b (.b .e (.n 0 (.b (.b .e (.b .e (.b .e (.n 0 (.b (.b .e (.b .e (.b .e (.n 0 (.b (.b .e (.b .e (.b .e (.b .e (.b .e (.b .e (.b .e (.b .e (.b (.n 0 (.b (.b .e (.b .e (.b .e (.n 0 (.b (.b .e (.n 0 (.b (.b (.b .e (.b (.b .e (.b .e (.n 0 (.b (.b .e (.b .e (.b .e (.n 0 (.b (.b (.b .e (.b (.b .e (.b .e (.w (.b (.b (.b (.b (.b .e (.b (.b .e (.b .e (.b .e (.b .e (.b (.b (.b (.b (.b .e (.b .e (.b (.b .e (.b .e (.b .e (.b .e (.b .e (.b (.b (.b (.b (.b .e (.w .e)) .e) .e) .e) .e)))))) .e))) .e) .e) .e) .e))))) .e)) .e) .e) .e) .e)))) .e)) .e) .e))))) .e)))) .e)) .e) .e))) .e))))) .e)) .e))))))))) .e))))) .e))))) .e))) (.b (.b .e (.n 0 (.b (.b .e (.b .e (.b .e (.n 0 (.b (.b .e (.b .e (.b .e (.n 0 (.b (.b .e (.b .e (.b .e (.b .e (.b .e (.b .e (.b .e (.b .e (.b (.n 0 (.b (.b .e (.b .e (.b .e (.n 0 (.b (.b .e (.n 0 (.b (.b (.b .e (.b (.b .e (.b .e (.n 0 (.b (.b .e (.b .e (.b .e (.n 0 (.b (.b (.b .e (.b (.b .e (.b .e (.w (.b (.b (.b (.b (.b .e (.b (.b .e (.b .e (.b .e (.b .e (.b (.b (.b (.b (.b .e (.w .e)) .e) .e) .e) .e))))) .e)) .e) .e) .e) .e)))) .e)) .e) .e))))) .e)))) .e)) .e) .e))) .e))))) .e)) .e))))))))) .e))))) .e))))) .e))) (.b (.b .e (.n 0 (.b (.b .e (.b .e (.b .e (.n 0 (.b (.b .e (.b .e (.b .e (.n 0 (.b (.b .e (.b .e (.b .e (.b .e (.b .e (.b .e (.b .e (.b .e (.b (.n 0 (.b (.b .e (.b .e (.b .e (.n 0 (.b (.b .e (.n 0 (.b (.b .e (.b .e (.b .e (.n 0 (.b (.b (.b .e (.b (.b .e (.b .e (.w (.b (.b (.b (.b (.b .e (.b (.b .e (.b .e (.b .e (.b .e (.b (.b (.b (.b (.b .e (.b .e (.b (.b .e (.b .e (.b .e (.b .e (.b .e (.b (.b (.b (.b (.b .e (.w .e)) .e) .e) .e) .e)))))) .e))) .e) .e) .e) .e))))) .e)) .e) .e) .e) .e)))) .e)) .e) .e))))) .e))) .e))))) .e)) .e))))))))) .e))))) .e))))) .e))) .e))))),[⟨31,[2,3,4,5],[.loc 0,.loc 32,.loc 256],2944,[.p (.loc 0) 0,.p (.loc 32) 0,.one (.cb false),.p (.loc 256) 0],[.c [.y,.str,.str,.f 1,.y,.str,.q 3,.z,.str,.f 1,.q 8,.q 15,.q 15,.q 3,.z],.c [.z],.c [.z,.z,.cb false,.bool,.bool,.bool,.cb false,.bool,.fn 245 [],.fn 245 []]],fun n _ _ _ _ _ _ _ _ _ _ a d g h _ i j l m o r s=>Ms n a d g h i j l m o r s,.e⟩,
 ⟨63,[2,3,4,5],[.loc 0,.loc 32,.loc 256],3936,[.p (.loc 0) 0,.p (.loc 32) 0,.one (.cb false),.p (.loc 256) 0],[.c [.y,.str,.str,.f 1,.y,.str,.q 3,.z,.str,.f 1,.q 8,.q 15,.q 15,.q 3,.z],.c [.z],.c [.z,.z,.cb false,.bool,.bool,.bool,.cb false,.bool,.fn 245 [],.fn 245 []]],fun n _ _ _ _ _ _ _ _ _ _ a d g h _ i j l m o r s=>IA n a d g h i j l m o r s,.e⟩,
 ⟨31,[2,3,4,5],[.loc 0,.loc 32,.loc 256],2944,[.p (.loc 0) 0,.p (.loc 32) 0,.one (.cb false),.p (.loc 256) 0],[.c [.y,.str,.str,.f 1,.y,.str,.q 3,.z,.str,.f 1,.q 8,.q 15,.q 15,.q 3,.z],.c [.z],.c [.k 0,.z,.cb false,.bool,.bool,.cb false,.cb false,.bool,.fn 142 [],.fn 245 []]],fun n _ _ _ _ _ _ _ _ _ _ a d g h _ i t u v x=>Mt n a d g h i t u v x,.e⟩,
 ⟨63,[2,3,4,5],[.loc 0,.loc 32,.loc 256],3936,[.p (.loc 0) 0,.p (.loc 32) 0,.one (.cb false),.p (.loc 256) 0],[.c [.y,.str,.str,.f 1,.y,.str,.q 3,.z,.str,.f 1,.q 8,.q 15,.q 15,.q 3,.z],.c [.z],.c [.k 0,.z,.cb false,.bool,.bool,.cb false,.cb false,.bool,.fn 142 [],.fn 245 []]],fun n _ _ _ _ _ _ _ _ _ _ a d g h _ i t u v x=>Mu n a d g h i t u v x,.e⟩],none,[]⟩
theorem ADq:Be Tryz.prog inv (EB [ADn,tC,ADo,ADp,yB]):=gr [lD,lK,Zi,VC,sD,sK,sP,sW,tA,ADi,ADk,Zk,xY,xZ,ADm] ⟨ge Tryz.func212,ge Tryz.func145,ge Tryz.func215,ge Tryz.func214,ge Tryz.func147,trivial⟩
noncomputable def ADr:Kz:=⟨yB.c,ADq.2.2.2.2.1⟩
def tD (n:Nat) (j:Int) (k:BA) (l:BA) (m:LD) (o:Int) (p:BA) (q:LD) (r:Int) (s:BA) (b:LD) (c:LD) (d:LD) (e:LD) (f:LD) (g:Int) (a:Int):Option (Bool×Int):=
 AW (IntKind.wrap .i64 (a - 1)) fun h=>Av (VF n j k l m o p q r s b c d e f g h) fun i=>some (i,a)
noncomputable def ADs:AH:=⟨146,Tryz.f146,false,[.agg [.y,.str,.str,.f 1,.y,.str,.q 3,.z,.str,.f 1,.q 8,.q 15,.q 15,.q 3,.z],.p (.ext 0) 0],[.c [.z]],[⟨.one (.b),[.c [.z]],[]⟩],Bool×Int,ii,tD,.e,[],none,[]⟩
noncomputable def ADt:Kz:=sg ADs [ADr] Tryz.func146
def Mv:Nat->LD->Int->Int->Option (Bool×Int)
 | 0,_,_,_=>none
 | n+1,c,d,a=>
  AP c fun b=>(if b<=d then some (true,a)else some (false,a))
def Mw:Nat->LD->Int->Int->Int->Option (Bool×Int)
 | 0,_,_,_,_=>none
 | n+1,a,c,d,e=>
  AP a fun w=>(if d<w then (if d<c then An a d fun x=>Cp x fun y z f g h i j k l m o p q r s=>Ir (tD n y z f g h i j k l m o p q r s e) fun t b=>Aw (!t) fun u=>(if u=true then some (false,b)else AW (IntKind.wrap .i64 (d+1)) fun v=>Mw n a c v b)else Mv n a c e)else Mv n a c e)
def lW (n:Nat) (a:LD) (b:Int) (c:Int):Option (Bool×Int):=
 Mw n a b 0 c
noncomputable def ADu:AH:=⟨145,Tryz.f145,false,[.q 15,.z,.one (.fn 146 [.ext 0])],[.c [.z]],[⟨.one (.b),[.c [.z]],[]⟩],Bool×Int,ii,lW,.e,[⟨26,[0,1,2,6,7],[.ext 0],64,[.q 15,.z,.one (.fn 146 [.ext 0]),.one (.cb false),.z],[.c [.z]],Mw,.e⟩,
 ⟨7,[0,1,6],[.ext 0],352,[.q 15,.z,.one (.cb false)],[.c [.z]],Mv,.e⟩],none,[]⟩
noncomputable def ADv:Kz:=sg ADu [ADt] Tryz.func145
def Mx:Nat->LD->LD->Int->Int->Option (Bool)
 | 0,_,_,_,_=>none
 | n+1,d,e,f,a=>
  (if a<f then An d a fun g=>CG g fun h=>An e a fun i=>CG i fun b=>(if h=b then AW (IntKind.wrap .i64 (a+1)) fun c=>Mx n d e f c else some false)else some true)
def lX (n:Nat) (a:LD) (b:LD):Option (Bool):=
 AP a fun c=>AP b fun d=>(if c=d then AP a fun e=>Mx n a b e 0 else some false)
noncomputable def ADw:AH:=⟨241,Tryz.f241,false,[.f 1,.f 1],[],[⟨.one (.b),[],[]⟩],Bool,ii,lX,.e,[⟨58,[0,1,4,12,13],[],288,[.f 1,.f 1,.one (.cb false),.z,.z],[],Mx,.e⟩],none,[]⟩
noncomputable def ADx:Kz:=sg ADw [] Tryz.func241
def lY (n:Nat) (a:BA) (b:LD) (c:BA) (d:LD):Option (Bool):=
 (if a=c then Av (lX n b d) fun e=>some e else some false)
noncomputable def ADy:AH:=⟨197,Tryz.f197,false,[.agg [.str,.f 1],.agg [.str,.f 1]],[],[⟨.one (.b),[],[]⟩],Bool,ii,lY,.e,[],none,[]⟩
noncomputable def ADz:Kz:=sg ADy [ADx] Tryz.func197
mutual
def My:Nat->LD->LD->Int->Int->Option (Bool)
 | 0,_,_,_,_=>none
 | n+1,d,e,f,g=>
  (if g<f then An d g fun F=>CQ F fun E h i a b j c k=>An e g fun l=>CQ l fun m o p q r s t u=>Av (Zn n E h i a b j c k m o p q r s t u) fun v=>Aw (!v) fun w=>(if w=true then some false else AW (IntKind.wrap .i64 (g+1)) fun x=>My n d e f x)else some true)
def Zl:Nat->LD->LD->Option (Bool)
 | 0,_,_=>none
 | n+1,d,e=>
  AP d fun G=>AP e fun H=>(if G=H then AP d fun f=>My n d e f 0 else some false)
def Zn:Nat->Int->Int->BA->BA->BA->LD->LD->Int->Int->Int->BA->BA->BA->LD->LD->Int->Option (Bool)
 | 0,_,_,_,_,_,_,_,_,_,_,_,_,_,_,_,_=>none
 | n+1,I,J,K,L,M,N,O,E,h,y,a,b,z,c,A,P=>
  (if I=h then (if J=y then (if K=a then (if L=b then Av (lY n M N z c) fun B=>(if B=true then Av (Zl n O A) fun C=>some C else some false)else some false)else some false)else some false)else some false)
end
noncomputable def AEa:AH:=⟨198,Tryz.f198,false,[.q 8,.q 8,.one (.fn 140 [])],[],[⟨.one (.b),[],[]⟩],Bool,ii,Zl,.e,[⟨58,[1,2,6,15,16,17],[],288,[.q 8,.one (.fn 140 []),.one (.cb false),.q 8,.z,.z],[],fun n a c d f=>My n c a d f,.e⟩],none,[]⟩
noncomputable def yC:AH:=⟨140,Tryz.f140,false,[.agg [.y,.z,.str,.str,.str,.f 1,.q 8,.z],.agg [.y,.z,.str,.str,.str,.f 1,.q 8,.z]],[],[⟨.one (.b),[],[]⟩],Bool,ii,Zn,.e,[],none,[]⟩
theorem AEb:Be Tryz.prog inv (EB [AEa,yC]):=gr [ADz] ⟨ge Tryz.func198,ge Tryz.func140,trivial⟩
noncomputable def AEc:Kz:=⟨yC.c,AEb.2.1⟩
def IB:Nat->Int->BA->LD->Int->BA->LD->LD->Int->Int->BA->BA->BA->LD->LD->Int->Int->Int->Bool->Option (Bool)
 | 0,_,_,_,_,_,_,_,_,_,_,_,_,_,_,_,_,_,_=>none
 | n+1,j,v,w,x,y,z,A,B,C,a,b,c,d,e,f,g,h,k=>
  (if j=1 then (if k=true then UL (Zj n false j v w x y z A B C a b c d e f g h) fun E T U V W X Y Z aa ab ac ad ae af ag ah ai aj=>some E else some false)else (if j=2 then (if k=true then UL (Qg n true j v w x y z A B C a b c d e f g h) fun F ak al am an ao aq ar au av aw ax ay az aA aB aC aD=>some F else some false)else (if j=3 then Av (I9 n v) fun G=>(if G=true then UL (Zj n false j v w x y z A B C a b c d e f g h) fun H aE aF aG I J K l m o p q r s t u aH i=>(if H=true then AW (IntKind.wrap .i64 (i - 1)) fun L=>Av (H7 n I J K L) fun M=>(if M=true then Av (Nw n m o p q r s t u) fun N=>Aw (!N) fun O=>(if O=true then AW (IntKind.wrap .i64 (i - 1)) fun P=>Av (Gw n m o p q r s t u P) fun Q=>(if Q=true then AP l fun R=>Ir (lW n l R i) fun S aI=>some S else some false)else some false)else some false)else some false)else some false)else some false)))
def lZ (n:Nat) (q:Int) (i:BA) (r:LD) (j:Int) (k:BA) (l:LD) (m:LD) (o:Int) (p:Int) (a:BA) (b:BA) (c:BA) (d:LD) (e:LD) (f:Int) (g:Int) (h:Int):Option (Bool):=
 Av (Nv n j k l) fun s=>(if s=true then AP m fun t=>(if t=0 then Av (Zn n o p a b c d e f 0 0 ByteArray.empty ByteArray.empty ByteArray.empty ([]:LD) ([]:LD) 0) fun u=>(if u=true then Av (Kg n i) fun v=>IB n q i r j k l m o p a b c d e f g h v else IB n q i r j k l m o p a b c d e f g h false)else IB n q i r j k l m o p a b c d e f g h false)else IB n q i r j k l m o p a b c d e f g h false)
noncomputable def AEd:AH:=⟨106,Tryz.f106,false,[.agg [.y,.str,.q 4,.y,.str,.q 3,.q 15,.y,.z,.str,.str,.str,.f 1,.q 8,.z,.z],.z],[],[⟨.one (.b),[],[]⟩],Bool,ii,lZ,.e,[⟨15,[2,3,4,5,6],[.loc 0,.loc 32],832,[.p (.loc 0) 0,.p (.loc 32) 0,.one (.cb false),.one (.fn 135 [.loc 0,.loc 32]),.b],[.c [.y,.str,.q 4,.y,.str,.q 3,.q 15,.y,.z,.str,.str,.str,.f 1,.q 8,.z,.z],.c [.z]],fun n a o r s t u v w x A d g h i j k l m=>IB n o r s t u v w x A d g h i j k l m a,.e⟩],none,[]⟩
noncomputable def AEe:Kz:=sg AEd [ACo,rX,lD,lK,AEc,Zi,VC,VD,Xa,ADv] Tryz.func106
def tE (n:Nat) (i:Int) (j:BA) (k:LD) (l:Int) (m:BA) (o:LD) (p:LD) (q:Int) (r:Int) (a:BA) (b:BA) (c:BA) (d:LD) (e:LD) (f:Int) (g:Int):Option (Bool):=
 Av (lZ n i j k l m o p q r a b c d e f g 39) fun h=>some h
noncomputable def AEf:AH:=⟨105,Tryz.f105,false,[.agg [.y,.str,.q 4,.y,.str,.q 3,.q 15,.y,.z,.str,.str,.str,.f 1,.q 8,.z,.z]],[],[⟨.one (.b),[],[]⟩],Bool,ii,tE,.e,[],none,[]⟩
noncomputable def AEg:Kz:=sg AEf [AEe] Tryz.func105
def M0:Nat->LD->Int->Option (Bool)
 | 0,_,_=>none
 | n+1,b,c=>
  AP b fun a=>(if a<=c then some true else some false)
def M1:Nat->LD->Int->Int->Option (Bool)
 | 0,_,_,_=>none
 | n+1,a,b,c=>
  AP a fun t=>(if c<t then (if c<b then An a c fun u=>Bo u fun v w x y d e f g h i j k l m o p=>Av (tE n v w x y d e f g h i j k l m o p) fun q=>Aw (!q) fun r=>(if r=true then some false else AW (IntKind.wrap .i64 (c+1)) fun s=>M1 n a b s)else M0 n a b)else M0 n a b)
def tF (n:Nat) (a:LD) (b:Int):Option (Bool):=
 M1 n a b 0
noncomputable def AEh:AH:=⟨104,Tryz.f104,false,[.q 16,.z,.one (.fn 105 [])],[],[⟨.one (.b),[],[]⟩],Bool,ii,tF,.e,[⟨26,[0,1,2,6,7],[],64,[.q 16,.z,.one (.fn 105 []),.one (.cb false),.z],[],M1,.e⟩,
 ⟨7,[0,1,6],[],352,[.q 16,.z,.one (.cb false)],[],M0,.e⟩],none,[]⟩
noncomputable def AEi:Kz:=sg AEh [AEg] Tryz.func104
def F54 (n:Nat) (a:LD):Option (Bool):=
 Av (tF n a 30) fun b=>some b
noncomputable def X54:AH:=⟨54,Tryz.f54,false,[.agg [.q 16]],[],[⟨.one (.b),[],[]⟩],Bool,ii,F54,.e,[],none,[]⟩
noncomputable def k54:Kz:=sg X54 [AEi] Tryz.func54
end Go.Proofs.YtjfmnfncmfepnaaGreatDoor
end
set_option linter.unusedVariables false
noncomputable section
namespace Go.Proofs.YtjfmnfncmfepnaaGreatDoor
open Go Go.AM
theorem t201 (z:Int):Tl fun n=>Ze n z:=by unfold Ze;repeat' first | exact wS trivial | with_reducible refine wI (fun _=>?_) fun _=>?_ | with_reducible refine wL ?_ | with_reducible refine wB ?_ | with_reducible refine wT ?_ | with_reducible refine wZ ?_
theorem t200 (z:Int):Tl fun n=>Zf n z:=by unfold Zf;repeat' first | exact wS trivial | with_reducible refine wI (fun _=>?_) fun _=>?_ | with_reducible refine wL ?_ | with_reducible refine wB ?_ | with_reducible refine wT ?_ | with_reducible refine wZ ?_
theorem t252 (z:Int):Tl fun n=>lF n z:=by unfold lF;repeat' first | exact wS trivial | with_reducible refine wI (fun _=>?_) fun _=>?_ | with_reducible refine wL ?_ | with_reducible refine wB ?_ | with_reducible refine wT ?_ | with_reducible refine wZ ?_
theorem t243 (z:Int):Tl fun n=>lG n z:=by unfold lG;repeat' first | exact wS trivial | with_reducible refine wI (fun _=>?_) fun _=>?_ | with_reducible refine wL ?_ | with_reducible refine wB ?_ | with_reducible refine wT ?_ | with_reducible refine wZ ?_ | with_reducible refine u1 (t201 _) fun _=>?_ | with_reducible refine u1 (t200 _) fun _=>?_ | with_reducible refine u1 (t252 _) fun _=>?_
theorem t242 {s:ByteArray}(hs:(s.size:Int)≤16):Tl fun n=>Zg n s:=by
 unfold Zg
 have e:∀z,Tl fun n=>Mh n z:=fun z=>wU (by simp only[Mh];exact wS trivial)
 have a:∀i,i≤s.size→Tl fun n=>Mi n s (i:Int):=Al _ fun i hi ih=>wU (by
  simp only[Mi]
  exact wZ (wI (fun h=>wa (by omega) fun y=>c1 (t243 y) fun b _=>wI (fun _=>wi (by omega) (ih (by omega))) fun _=>e _) fun _=>e _))
 exact a 0 (Nat.zero_le _)
theorem t253:Wp (fun n=>lH n) (Ap fun vs=>∃z,vs=[.int .i64 z]):=by
 unfold lH
 have h0:Wp (fun n=>XB n Cq) fun l=>(∀x∈l,∃s,x= .str s)∧l.length≤maxLen:=by
  unfold XB
  exact⟨_,.of fun n=>if_pos ⟨of_decide_eq_true (by kernel_rfl),by kernel_rfl,by trivial⟩,fun x hx=>by unfold fieldsD at hx;grind,by trivial⟩
 refine c1 h0 fun l ⟨hl,hm⟩=>?_
 have hm:l.length≤9223372036854775807:=hm
 have a:∀i,i≤l.length→∀m,Ap (fun vs=>∃z,vs=[.int .i64 z]) m→Wp (fun n=>Mj n l l.length i m) (Ap fun vs=>∃z,vs=[.int .i64 z]):=Al _ fun i hi ih m hm'=>wU (by
  simp only[Mj]
  exact wI (fun h=>gi (by omega) fun x hx=>by
   obtain⟨s,rfl⟩:=hl x (List.mem_of_getElem? hx)
   exact dS (wi (by omega) (wP hm' ⟨_,rfl⟩ fun r hr _=>wi (by omega) (ih (by omega) r hr)))) fun _=>wS hm')
 exact wL (a 0 (Nat.zero_le _) [] .nil)
theorem t244 (s:ByteArray):Tl fun n=>Zh n s:=by
 unfold Zh
 exact c1 t253 fun l hl=>wF hl (fun vs ⟨z,e⟩=>by subst e;exact dZ (wI (fun _=>wS trivial) fun _=>wS trivial)) (wS trivial)
theorem V5 {s:ByteArray}(h:¬s=ByteArray.empty):0<s.size:=by
 by_cases h0:s.size=0
 ·simp_all
 ·omega
theorem t199 (s:ByteArray):Tl fun n=>lI n s:=by
 unfold lI
 exact wI (fun _=>wS trivial) fun h=>wZ (wI (fun h2=>wa (by have:=V5 h;omega) fun y=>c1 (t200 y) fun b _=>wI (fun _=>c1 (t242 h2) fun z _=>wZ (wI (fun _=>c1 (t244 s) fun _ _=>wB (wS trivial)) fun _=>wS trivial)) fun _=>wS trivial) fun _=>wS trivial)
theorem tG (s:ByteArray):Tl fun n=>Qc n s:=by
 unfold Qc
 exact wI (fun _=>wS trivial) fun h=>wZ (wI (fun h2=>wa (by have:=V5 h;omega) fun y=>c1 (t201 y) fun b _=>wI (fun _=>c1 (t242 h2) fun z _=>wZ (wI (fun _=>c1 (t244 s) fun _ _=>wB (wS trivial)) fun _=>wS trivial)) fun _=>wS trivial) fun _=>wS trivial)
theorem t142 (s:ByteArray):Tl fun n=>I9 n s:=by unfold I9;exact c1 (tG s) fun _ _=>wS trivial
theorem t141 (s:ByteArray):Tl fun n=>Kg n s:=by unfold Kg;exact c1 (t199 s) fun _ _=>wS trivial
theorem t138 (z:Int) (s:ByteArray) (l:List D):Tl fun n=>Nv n z s l:=by unfold Nv;repeat' first | exact wS trivial | with_reducible refine wI (fun _=>?_) fun _=>?_ | with_reducible refine wL ?_ | with_reducible refine wB ?_ | with_reducible refine wT ?_ | with_reducible refine wZ ?_
section
variable {l:List D}
theorem pA (h:∀i,i≤l.length→∀z w,Tl fun n=>Jw n l z i w) (k:Int) (s:ByteArray) (z:Int):Tl fun n=>H7 n k s l z:=by
 have f:∀z w,Tl fun n=>lJ n l z w:=fun z w=>wU (by simp only[lJ];exact h 0 (Nat.zero_le _) z w)
 have h2:∀z y b,Tl fun n=>F4 n k l z y b:=fun z y b=>wU (by
  simp only[F4]
  repeat' first | exact wS trivial | with_reducible refine wI (fun _=>?_) fun _=>?_ | with_reducible refine wL ?_ | with_reducible refine wB ?_ | with_reducible refine wT ?_ | with_reducible refine wZ ?_ | with_reducible refine u2 (f _ _) fun _ _=>?_)
 have h1:∀z b,Tl fun n=>Ml n k s l z b:=fun z b=>wU (by
  simp only[Ml]
  repeat' first | exact wS trivial | with_reducible refine wI (fun _=>?_) fun _=>?_ | with_reducible refine wL ?_ | with_reducible refine wB ?_ | with_reducible refine wT ?_ | with_reducible refine wZ ?_ | with_reducible refine h2 _ _ _ | with_reducible refine u1 (t141 _) fun _=>?_)
 exact wU (by simp only[H7];repeat' first | exact wS trivial | with_reducible refine wI (fun _=>?_) fun _=>?_ | simp_all | simp_all | simp_all | simp_all | simp_all)
theorem t195 (l:List D):AB Ac 48 l→∀i,i≤l.length→∀z w,Tl fun n=>Jw n l z i w:=by
 induction l using Hw with | H l IH
 intro hl
 have e:∀z w,Tl fun n=>Mk n l z w:=fun z w=>wU (by simp only[Mk];repeat' first | exact wS trivial | with_reducible refine wI (fun _=>?_) fun _=>?_ | with_reducible refine wL ?_ | with_reducible refine wB ?_ | with_reducible refine wT ?_ | with_reducible refine wZ ?_)
 refine Al _ fun i hi ih z w=>wU ?_
 have hd:=BN l i
 have:=hl.le
 simp only[Jw]
 exact wL (wI (fun h=>wI (fun _=>xI hl (by omega) fun k s m hx hw _ _ hm=>c2 (Q:=fun _ _=>True) (wU (by
  simp only[rQ]
  exact wT (c1 (pA (IH m (by omega) hm) _ _ _) fun _ _=>wS trivial))) fun b y _=>wB (wI (fun _=>wS trivial) fun _=>wi (by omega) (ih (by omega) _ _))) fun _=>e _ _) fun _=>e _ _)
theorem t139 (hl:AB Ac 48 l) (k:Int) (s:ByteArray) (z:Int):Tl fun n=>H7 n k s l z:=pA (t195 l hl) k s z
theorem t137 (hl:AB Ac 48 l) (s:ByteArray) (k:Int) (s2:ByteArray) (b:Bool) (z:Int):W3 (fun n=>lL n s k s2 l b z) fun _ _ w=>w=z:=by
 unfold lL
 exact u1 (t142 _) fun _=>wI (fun _=>wI (fun _=>u1 (t138 _ _ _) fun _=>wI (fun _=>wS rfl) fun _=>wT (u1 (t139 hl _ _ _) fun _=>wS rfl)) fun _=>wT (u1 (t139 hl _ _ _) fun _=>wS rfl)) fun _=>wS rfl
theorem t136 (hl:AB Ac 58 l) (z:Int) (b:Bool) (w:Int):W3 (fun n=>lM n l z b w) fun _ _ u=>u=w:=by
 unfold lM
 have e:∀b,W3 (fun n=>Mm n l z b w) fun _ _ u=>u=w:=fun b=>wU (by simp only[Mm];exact wL (wI (fun _=>wS rfl) fun _=>wS rfl))
 have a:∀i,i≤l.length→∀b,W3 (fun n=>Mo n l z i b w) fun _ _ u=>u=w:=Al _ fun i hi ih b=>wU (by
  simp only[Mo]
  have:=hl.le
  exact wL (wI (fun h=>wI (fun _=>XF hl (by omega) fun _ _ _ _ _ _ _ _ _ hm=>c3 (t137 hm _ _ _ _ _) fun _ _ u hu=>by subst hu;exact wB (wI (fun _=>wS rfl) fun _=>wi (by omega) (ih (by omega) _))) fun _=>e _) fun _=>e _))
 exact a 0 (Nat.zero_le _) _
theorem tH (hl:AB Ac 48 l) (s:ByteArray) (k:Int) (s2:ByteArray) (b:Bool) (z:Int):W3 (fun n=>Qe n s k s2 l b z) fun _ _ w=>w=z:=by
 unfold Qe
 exact u1 (t141 _) fun _=>wI (fun _=>wI (fun _=>u1 (t138 _ _ _) fun _=>wI (fun _=>wS rfl) fun _=>wT (u1 (t139 hl _ _ _) fun _=>wS rfl)) fun _=>wT (u1 (t139 hl _ _ _) fun _=>wS rfl)) fun _=>wS rfl
theorem tI (hl:AB Ac 58 l) (z:Int) (b:Bool) (w:Int):W3 (fun n=>Qf n l z b w) fun _ _ u=>u=w:=by
 unfold Qf
 have e:∀b,W3 (fun n=>Gs n l z b w) fun _ _ u=>u=w:=fun b=>wU (by simp only[Gs];exact wL (wI (fun _=>wS rfl) fun _=>wS rfl))
 have a:∀i,i≤l.length→∀b,W3 (fun n=>Gt n l z i b w) fun _ _ u=>u=w:=Al _ fun i hi ih b=>wU (by
  simp only[Gt]
  have:=hl.le
  exact wL (wI (fun h=>wI (fun _=>XF hl (by omega) fun _ _ _ _ _ _ _ _ _ hm=>c3 (tH hm _ _ _ _ _) fun _ _ u hu=>by subst hu;exact wB (wI (fun _=>wS rfl) fun _=>wi (by omega) (ih (by omega) _))) fun _=>e _) fun _=>e _))
 exact a 0 (Nat.zero_le _) _
theorem Jy (hl:AB Ac 9 l) (z:Int):Tl fun n=>F6 n l z:=by
 unfold F6
 have e:Tl fun n=>Gu n l z:=wU (by simp only[Gu];repeat' first | exact wS trivial | with_reducible refine wI (fun _=>?_) fun _=>?_ | with_reducible refine wL ?_ | with_reducible refine wB ?_ | with_reducible refine wT ?_ | with_reducible refine wZ ?_)
 have a:∀i,i≤l.length→Tl fun n=>Gv n l z i:=Al _ fun i hi ih=>wU (by
  simp only[Gv]
  have:=hl.le
  exact wL (wI (fun h=>wI (fun _=>gs hl (by omega) fun s _ _ _=>c1 (t142 s) fun _ _=>wB (wI (fun _=>wS trivial) fun _=>wi (by omega) (ih (by omega)))) fun _=>e) fun _=>e))
 exact a 0 (Nat.zero_le _)
theorem t246 (s:ByteArray):Tl fun n=>lP n s:=by unfold lP;repeat' first | exact wS trivial | with_reducible refine wI (fun _=>?_) fun _=>?_ | with_reducible refine wL ?_ | with_reducible refine wB ?_ | with_reducible refine wT ?_ | with_reducible refine wZ ?_ | with_reducible refine u1 (t142 _) fun _=>?_
theorem t209 (hl:AB Ac 9 l) (z:Int):Tl fun n=>lQ n l z:=by
 unfold lQ
 have e:Tl fun n=>Mp n l z:=wU (by simp only[Mp];repeat' first | exact wS trivial | with_reducible refine wI (fun _=>?_) fun _=>?_ | with_reducible refine wL ?_ | with_reducible refine wB ?_ | with_reducible refine wT ?_ | with_reducible refine wZ ?_)
 have a:∀i,i≤l.length→Tl fun n=>Mq n l z i:=Al _ fun i hi ih=>wU (by
  simp only[Mq]
  have:=hl.le
  exact wL (wI (fun h=>wI (fun _=>gs hl (by omega) fun s _ _ _=>c1 (t246 s) fun _ _=>wB (wI (fun _=>wS trivial) fun _=>wi (by omega) (ih (by omega)))) fun _=>e) fun _=>e))
 exact a 0 (Nat.zero_le _)
theorem t210 (hl:AB Ac 9 l) (s:ByteArray):Tl fun n=>Qh n s l:=by unfold Qh;repeat' first | exact wS trivial | with_reducible refine wI (fun _=>?_) fun _=>?_ | with_reducible refine wL ?_ | with_reducible refine wB ?_ | with_reducible refine wT ?_ | with_reducible refine wZ ?_ | with_reducible refine u1 (t142 _) fun _=>?_ | with_reducible refine u1 (t209 hl _) fun _=>?_
theorem t211 (s:ByteArray) (l:List D):Tl fun n=>Qi n s l:=by unfold Qi;repeat' first | exact wS trivial | with_reducible refine wI (fun _=>?_) fun _=>?_ | with_reducible refine wL ?_ | with_reducible refine wB ?_ | with_reducible refine wT ?_ | with_reducible refine wZ ?_
theorem t143 (z1 z2:Int) (s3 s4 s5:ByteArray) (l6 l7:List D) (z8:Int):Tl fun n=>Nw n z1 z2 s3 s4 s5 l6 l7 z8:=by unfold Nw;repeat' first | exact wS trivial | with_reducible refine wI (fun _=>?_) fun _=>?_ | with_reducible refine wL ?_ | with_reducible refine wB ?_ | with_reducible refine wT ?_ | with_reducible refine wZ ?_
theorem t203 (z1 z2:Int) (s3 s4 s5:ByteArray) (l6 l7:List D) (z8:Int):Tl fun n=>lO n z1 z2 s3 s4 s5 l6 l7 z8:=by
 have h2:∀a b c,Tl fun n=>EE n a b c:=fun a b c=>wU (by simp only[EE];repeat' first | exact wS trivial | with_reducible refine wI (fun _=>?_) fun _=>?_ | with_reducible refine wL ?_ | with_reducible refine wB ?_ | with_reducible refine wT ?_ | with_reducible refine wZ ?_)
 have h1:∀a b c,Tl fun n=>Ei n z1 z2 s3 s4 a b c:=fun a b c=>wU (by simp only[Ei];repeat' first | exact wS trivial | with_reducible refine wI (fun _=>?_) fun _=>?_ | with_reducible refine wL ?_ | with_reducible refine wB ?_ | with_reducible refine wT ?_ | with_reducible refine wZ ?_ | with_reducible refine h2 _ _ _ | with_reducible refine u1 (t142 _) fun _=>?_ | with_reducible refine u1 (t141 _) fun _=>?_)
 unfold lO;repeat' first | exact wS trivial | with_reducible refine wI (fun _=>?_) fun _=>?_ | simp_all | simp_all | simp_all | simp_all | simp_all
theorem t204 (z1 z2:Int) (s3 s4 s5:ByteArray) {l6:List D}(h6:AB Ac 9 l6) (l7:List D) (z8:Int) (b:Bool):Wp (fun n=>lR n z1 z2 s3 s4 s5 l6 l7 z8 b) fun r=>r=true→b=false→z1=19→l7.length≤l6.length:=by
 unfold lR
 exact wI (fun h=>c1 (t210 h6 s5) fun _ _=>wS (by simp[h])) fun h=>wI (fun h1=>wI (fun _=>wL (wL (wI (fun h2=>c1 (Jy h6 6) fun _ _=>wS fun _ _ _=>by omega) fun _=>wS (by simp)))) fun _=>wS (by simp)) fun h1=>c1 (t211 _ _) fun _ _=>wS (by simp[h1])
end
end Go.Proofs.YtjfmnfncmfepnaaGreatDoor
end
set_option linter.unusedVariables false
noncomputable section
namespace Go.Proofs.YtjfmnfncmfepnaaGreatDoor
open Go Go.AM
theorem drop_at {l:List D}{i:Nat}{x:D}(h:l[i]?=some x):l.drop i=x::l.drop (i+1):=by
 obtain⟨hi,rfl⟩:=List.getElem?_eq_some_iff.1 h
 simp_all
inductive DP:List D→Prop
 | nil:DP []
 | cons {op z:Int} {a b c:ByteArray} {p q:List D} {z2:Int} {l:List D} (h:op=19→q.length≤p.length) (hq:DP q) (hl:DP l):DP (.agg [.int .u8 op,.int .i64 z,.str a,.str b,.str c,.list false 1 p,.list true 8 q,.int .i64 z2]::l)
theorem yD (z:Int):W4 (fun n=>lN n z) fun b _ _ _=>z=19→b=false:=by
 unfold lN
 repeat' first | exact wS (fun e=>by first | rfl | omega) | refine wI (fun _=>?_) fun _=>?_
theorem pB {l7:List D}(h:∀i,i≤l7.length→∀z2 a b c d e f g k m,DJ (fun n=>Jx n l7 z2 i a b c d e f g k m) fun r _ _ _ _ _ _ _ _ _=>r=true→DP (l7.drop i)) (z1 z2:Int) (s3 s4 s5:ByteArray) {l6:List D}(h6:AB Ac 9 l6) (z8 z9:Int):
  Wp (fun n=>Gw n z1 z2 s3 s4 s5 l6 l7 z8 z9) fun r=>r=true→(z1=19→l7.length≤l6.length)∧DP l7:=wU (by
 simp only[Gw]
 refine c4 (yD z1) fun b z11 z12 b13 hb=>wI (fun _=>wS (by simp)) fun _=>wB (wI (fun _=>wS (by simp)) fun _=>u1 (t203 _ _ _ _ _ _ _ _) fun b15=>wB (wI (fun _=>wS (by simp)) fun _=>wL (wI (fun _=>wS (by simp)) fun _=>c1 (t204 z1 z2 s3 s4 s5 h6 l7 z8 b) fun b18 h18=>wB (wI (fun _=>wS (by simp)) fun hb18=>Y6 (Q:=fun r _ _ _ _ _ _ _ _ _=>r=true→DP l7) (wU (by simp only[sA];exact h 0 (Nat.zero_le _) _ _ _ _ _ _ _ _ _ _)) fun r _ _ _ _ _ _ _ _ _ hr=>wS fun e=>⟨fun h1=>h18 (by simpa using hb18) (hb h1) h1,hr e⟩))))
 )
theorem t205 (l:List D):AB Ac 54 l→∀i,i≤l.length→∀z2 a b c d e f g k m,DJ (fun n=>Jx n l z2 i a b c d e f g k m) fun r _ _ _ _ _ _ _ _ _=>r=true→DP (l.drop i):=by
 induction l using Hw with | H l IH
 intro hl
 refine Al _ fun i hi ih z2 a b c d e f g k m=>wU ?_
 have hd:=BN l i
 have:=hl.le
 have he:(i<l.length→¬(i:Int)<z2)→DJ (fun n=>Mr n l z2 a b c d e f g k m) fun r _ _ _ _ _ _ _ _ _=>r=true→DP (l.drop i):=fun hi=>wU (by
  simp only[Mr]
  exact wL (wI (fun h=>wS fun _=>by rw[List.drop_eq_nil_of_le (by omega)];exact .nil) fun _=>wS (by simp)))
 simp only[Jx]
 exact wL (wI (fun h=>wI (fun _=>Uh hl (by omega) fun z1 z3 s1 s2 s3 p q z4 hx hw _ _ _ _ _ hp hq _=>
  Y6 (Q:=fun r _ _ _ _ _ _ _ _ _=>r=true→(z1=19→q.length≤p.length)∧DP q) (wU (by
   have t:=fun z9=>pB (IH q (by omega) hq) z1 z3 s1 s2 s3 hp z4 z9
   simp only[rZ]
   exact wI (fun _=>wT (c1 (t _) fun _ hr=>wS hr)) fun _=>u1 (t143 _ _ _ _ _ _ _ _) fun _=>wB (wI (fun _=>wT (c1 (t _) fun _ hr=>wS hr)) fun _=>wS (by simp)))) fun r _ _ _ _ _ _ _ _ _ hr=>wB (wI (fun _=>wS (by simp)) fun hb=>wi (by omega) (wM (ih (by omega) _ _ _ _ _ _ _ _ _ _) fun r2 h2 e=>by
    have hr:=hr (by simpa using hb)
    rw[drop_at hx]
    exact .cons hr.1 hr.2 (h2 e)))) fun h=>he fun _=>h) fun h=>he fun h2=>(h (by omega)).elim)
theorem t144 {l6 l7:List D}(h6:AB Ac 9 l6) (h7:AB Ac 54 l7) (z1 z2:Int) (s3 s4 s5:ByteArray) (z8 z9:Int):Wp (fun n=>Gw n z1 z2 s3 s4 s5 l6 l7 z8 z9) fun r=>r=true→(z1=19→l7.length≤l6.length)∧DP l7:=pB (t205 l7 h7) z1 z2 s3 s4 s5 h6 z8 z9
end Go.Proofs.YtjfmnfncmfepnaaGreatDoor
end
set_option linter.unusedVariables false
noncomputable section
namespace Go.Proofs.YtjfmnfncmfepnaaGreatDoor
open Go Go.AM
section
variable {p q:List D}
theorem t213 (hp:AB Ac 9 p) (hq:AB Ac 54 q) (z1 z3:Int) (s1 s2 s3:ByteArray) (z4 z9 z10:Int) (b11 b12 b13 b14 b15 b16:Bool) (m:Int):DJ (fun n=>lS n z1 z3 s1 s2 s3 p q z4 z9 z10 b11 b12 b13 b14 b15 b16 m) fun r _ _ _ _ _ _ _ _ w=>w=m∧(r=true→(z1=19→q.length≤p.length)∧DP q):=by
 have t:=fun y=>t144 hp hq z1 z3 s1 s2 s3 z4 y
 unfold lS
 exact wI (fun _=>wT (c1 (t _) fun _ hr=>wS ⟨rfl,hr⟩)) fun _=>u1 (t143 _ _ _ _ _ _ _ _) fun _=>wB (wI (fun _=>wT (c1 (t _) fun _ hr=>wS ⟨rfl,hr⟩)) fun _=>wS (by simp))
variable {l:List D}
theorem tJ (hl:AB Ac 54 l) (z2 a b:Int) (c d e f g k:Bool) (m:Int):DJ (fun n=>Qj n l z2 a b c d e f g k m) fun r _ _ _ _ _ _ _ _ w=>w=m∧(r=true→DP l):=by
 have he:∀i,(i<l.length→¬(i:Int)<z2)→∀a b c d e f g k m,DJ (fun n=>Gx n l z2 a b c d e f g k m) fun r _ _ _ _ _ _ _ _ w=>w=m∧(r=true→DP (l.drop i)):=fun i hi a b c d e f g k m=>wU (by
  simp only[Gx]
  exact wL (wI (fun h=>wS ⟨rfl,fun _=>by rw[List.drop_eq_nil_of_le (by omega)];exact .nil⟩) fun _=>wS (by simp)))
 have main:∀i,i≤l.length→∀a b c d e f g k m,DJ (fun n=>Gy n l z2 i a b c d e f g k m) fun r _ _ _ _ _ _ _ _ w=>w=m∧(r=true→DP (l.drop i)):=Al _ fun i hi ih a b c d e f g k m=>wU (by
  have:=hl.le
  simp only[Gy]
  exact wL (wI (fun h=>wI (fun _=>Uh hl (by omega) fun z1 z3 s1 s2 s3 p q z4 hx hw _ _ _ _ _ hp hq _=>
   Y6 (t213 hp hq z1 z3 s1 s2 s3 z4 a b c d e f g k m) fun r _ _ _ _ _ _ _ _ w hr=>wB (wI (fun _=>wS ⟨hr.1,by simp⟩) fun hb=>wi (by omega) (wM (ih (by omega) _ _ _ _ _ _ _ _ _) fun r2 h2=>⟨h2.1.trans hr.1,fun e=>by
     have hr:=hr.2 (by simpa using hb)
     rw[drop_at hx]
     exact .cons hr.1 hr.2 (h2.2 e)⟩))) fun h=>he i (fun _=>h) _ _ _ _ _ _ _ _ _) fun h=>he i (fun h2=>(h (by omega)).elim) _ _ _ _ _ _ _ _ _))
 unfold Qj
 exact main 0 (Nat.zero_le _) _ _ _ _ _ _ _ _ _
theorem tK (hp:AB Ac 9 p) (hq:AB Ac 54 q) (z1 z3:Int) (s1 s2 s3:ByteArray) (z4 z9 z10:Int) (b11 b12 b13 b14 b15 b16:Bool) (m:Int):DJ (fun n=>Qk n z1 z3 s1 s2 s3 p q z4 z9 z10 b11 b12 b13 b14 b15 b16 m) fun r _ _ _ _ _ _ _ _ w=>w=m∧(r=true→(z1=19→q.length≤p.length)∧DP q):=by
 have t:=fun y=>t144 hp hq z1 z3 s1 s2 s3 z4 y
 unfold Qk
 exact wI (fun _=>wT (c1 (t _) fun _ hr=>wS ⟨rfl,hr⟩)) fun _=>u1 (t143 _ _ _ _ _ _ _ _) fun _=>wB (wI (fun _=>wT (c1 (t _) fun _ hr=>wS ⟨rfl,hr⟩)) fun _=>wS (by simp))
theorem tL (hl:AB Ac 54 l) (z2 a b:Int) (c d e f g k:Bool) (m:Int):DJ (fun n=>Ql n l z2 a b c d e f g k m) fun r _ _ _ _ _ _ _ _ w=>w=m∧(r=true→DP l):=by
 have he:∀i,(i<l.length→¬(i:Int)<z2)→∀a b c d e f g k m,DJ (fun n=>Gz n l z2 a b c d e f g k m) fun r _ _ _ _ _ _ _ _ w=>w=m∧(r=true→DP (l.drop i)):=fun i hi a b c d e f g k m=>wU (by
  simp only[Gz]
  exact wL (wI (fun h=>wS ⟨rfl,fun _=>by rw[List.drop_eq_nil_of_le (by omega)];exact .nil⟩) fun _=>wS (by simp)))
 have main:∀i,i≤l.length→∀a b c d e f g k m,DJ (fun n=>G0 n l z2 i a b c d e f g k m) fun r _ _ _ _ _ _ _ _ w=>w=m∧(r=true→DP (l.drop i)):=Al _ fun i hi ih a b c d e f g k m=>wU (by
  have:=hl.le
  simp only[G0]
  exact wL (wI (fun h=>wI (fun _=>Uh hl (by omega) fun z1 z3 s1 s2 s3 p q z4 hx hw _ _ _ _ _ hp hq _=>
   Y6 (tK hp hq z1 z3 s1 s2 s3 z4 a b c d e f g k m) fun r _ _ _ _ _ _ _ _ w hr=>wB (wI (fun _=>wS ⟨hr.1,by simp⟩) fun hb=>wi (by omega) (wM (ih (by omega) _ _ _ _ _ _ _ _ _) fun r2 h2=>⟨h2.1.trans hr.1,fun e=>by
     have hr:=hr.2 (by simpa using hb)
     rw[drop_at hx]
     exact .cons hr.1 hr.2 (h2.2 e)⟩))) fun h=>he i (fun _=>h) _ _ _ _ _ _ _ _ _) fun h=>he i (fun h2=>(h (by omega)).elim) _ _ _ _ _ _ _ _ _))
 unfold Ql
 exact main 0 (Nat.zero_le _) _ _ _ _ _ _ _ _ _
theorem tM (hp:AB Ac 9 p) (hq:AB Ac 54 q) (z1 z3:Int) (s1 s2 s3:ByteArray) (z4 z9 z10:Int) (b11 b12 b13 b14 b15 b16:Bool) (m:Int):DJ (fun n=>Qm n z1 z3 s1 s2 s3 p q z4 z9 z10 b11 b12 b13 b14 b15 b16 m) fun r _ _ _ _ _ _ _ _ w=>w=m∧(r=true→(z1=19→q.length≤p.length)∧DP q):=by
 have t:=fun y=>t144 hp hq z1 z3 s1 s2 s3 z4 y
 unfold Qm
 exact wI (fun _=>wT (c1 (t _) fun _ hr=>wS ⟨rfl,hr⟩)) fun _=>u1 (t143 _ _ _ _ _ _ _ _) fun _=>wB (wI (fun _=>wT (c1 (t _) fun _ hr=>wS ⟨rfl,hr⟩)) fun _=>wS (by simp))
theorem tN (hl:AB Ac 54 l) (z2 a b:Int) (c d e f g k:Bool) (m:Int):DJ (fun n=>Qn n l z2 a b c d e f g k m) fun r _ _ _ _ _ _ _ _ w=>w=m∧(r=true→DP l):=by
 have he:∀i,(i<l.length→¬(i:Int)<z2)→∀a b c d e f g k m,DJ (fun n=>G1 n l z2 a b c d e f g k m) fun r _ _ _ _ _ _ _ _ w=>w=m∧(r=true→DP (l.drop i)):=fun i hi a b c d e f g k m=>wU (by
  simp only[G1]
  exact wL (wI (fun h=>wS ⟨rfl,fun _=>by rw[List.drop_eq_nil_of_le (by omega)];exact .nil⟩) fun _=>wS (by simp)))
 have main:∀i,i≤l.length→∀a b c d e f g k m,DJ (fun n=>G2 n l z2 i a b c d e f g k m) fun r _ _ _ _ _ _ _ _ w=>w=m∧(r=true→DP (l.drop i)):=Al _ fun i hi ih a b c d e f g k m=>wU (by
  have:=hl.le
  simp only[G2]
  exact wL (wI (fun h=>wI (fun _=>Uh hl (by omega) fun z1 z3 s1 s2 s3 p q z4 hx hw _ _ _ _ _ hp hq _=>
   Y6 (tM hp hq z1 z3 s1 s2 s3 z4 a b c d e f g k m) fun r _ _ _ _ _ _ _ _ w hr=>wB (wI (fun _=>wS ⟨hr.1,by simp⟩) fun hb=>wi (by omega) (wM (ih (by omega) _ _ _ _ _ _ _ _ _) fun r2 h2=>⟨h2.1.trans hr.1,fun e=>by
     have hr:=hr.2 (by simpa using hb)
     rw[drop_at hx]
     exact .cons hr.1 hr.2 (h2.2 e)⟩))) fun h=>he i (fun _=>h) _ _ _ _ _ _ _ _ _) fun h=>he i (fun h2=>(h (by omega)).elim) _ _ _ _ _ _ _ _ _))
 unfold Qn
 exact main 0 (Nat.zero_le _) _ _ _ _ _ _ _ _ _
theorem tO (hp:AB Ac 9 p) (hq:AB Ac 54 q) (z1 z3:Int) (s1 s2 s3:ByteArray) (z4 z9 z10:Int) (b11 b12 b13 b14 b15 b16:Bool) (m:Int):DJ (fun n=>Qo n z1 z3 s1 s2 s3 p q z4 z9 z10 b11 b12 b13 b14 b15 b16 m) fun r _ _ _ _ _ _ _ _ w=>w=m∧(r=true→(z1=19→q.length≤p.length)∧DP q):=by
 have t:=fun y=>t144 hp hq z1 z3 s1 s2 s3 z4 y
 unfold Qo
 exact wI (fun _=>wT (c1 (t _) fun _ hr=>wS ⟨rfl,hr⟩)) fun _=>u1 (t143 _ _ _ _ _ _ _ _) fun _=>wB (wI (fun _=>wT (c1 (t _) fun _ hr=>wS ⟨rfl,hr⟩)) fun _=>wS (by simp))
theorem tP (hl:AB Ac 54 l) (z2 a b:Int) (c d e f g k:Bool) (m:Int):DJ (fun n=>Qq n l z2 a b c d e f g k m) fun r _ _ _ _ _ _ _ _ w=>w=m∧(r=true→DP l):=by
 have he:∀i,(i<l.length→¬(i:Int)<z2)→∀a b c d e f g k m,DJ (fun n=>G3 n l z2 a b c d e f g k m) fun r _ _ _ _ _ _ _ _ w=>w=m∧(r=true→DP (l.drop i)):=fun i hi a b c d e f g k m=>wU (by
  simp only[G3]
  exact wL (wI (fun h=>wS ⟨rfl,fun _=>by rw[List.drop_eq_nil_of_le (by omega)];exact .nil⟩) fun _=>wS (by simp)))
 have main:∀i,i≤l.length→∀a b c d e f g k m,DJ (fun n=>G4 n l z2 i a b c d e f g k m) fun r _ _ _ _ _ _ _ _ w=>w=m∧(r=true→DP (l.drop i)):=Al _ fun i hi ih a b c d e f g k m=>wU (by
  have:=hl.le
  simp only[G4]
  exact wL (wI (fun h=>wI (fun _=>Uh hl (by omega) fun z1 z3 s1 s2 s3 p q z4 hx hw _ _ _ _ _ hp hq _=>
   Y6 (tO hp hq z1 z3 s1 s2 s3 z4 a b c d e f g k m) fun r _ _ _ _ _ _ _ _ w hr=>wB (wI (fun _=>wS ⟨hr.1,by simp⟩) fun hb=>wi (by omega) (wM (ih (by omega) _ _ _ _ _ _ _ _ _) fun r2 h2=>⟨h2.1.trans hr.1,fun e=>by
     have hr:=hr.2 (by simpa using hb)
     rw[drop_at hx]
     exact .cons hr.1 hr.2 (h2.2 e)⟩))) fun h=>he i (fun _=>h) _ _ _ _ _ _ _ _ _) fun h=>he i (fun h2=>(h (by omega)).elim) _ _ _ _ _ _ _ _ _))
 unfold Qq
 exact main 0 (Nat.zero_le _) _ _ _ _ _ _ _ _ _
theorem tQ (hp:AB Ac 9 p) (hq:AB Ac 54 q) (z1 z3:Int) (s1 s2 s3:ByteArray) (z4 z9 z10:Int) (b11 b12 b13 b14 b15 b16:Bool) (m:Int):DJ (fun n=>Qr n z1 z3 s1 s2 s3 p q z4 z9 z10 b11 b12 b13 b14 b15 b16 m) fun r _ _ _ _ _ _ _ _ w=>w=m∧(r=true→(z1=19→q.length≤p.length)∧DP q):=by
 have t:=fun y=>t144 hp hq z1 z3 s1 s2 s3 z4 y
 unfold Qr
 exact wI (fun _=>wT (c1 (t _) fun _ hr=>wS ⟨rfl,hr⟩)) fun _=>u1 (t143 _ _ _ _ _ _ _ _) fun _=>wB (wI (fun _=>wT (c1 (t _) fun _ hr=>wS ⟨rfl,hr⟩)) fun _=>wS (by simp))
theorem tR (hl:AB Ac 54 l) (z2 a b:Int) (c d e f g k:Bool) (m:Int):DJ (fun n=>Qs n l z2 a b c d e f g k m) fun r _ _ _ _ _ _ _ _ w=>w=m∧(r=true→DP l):=by
 have he:∀i,(i<l.length→¬(i:Int)<z2)→∀a b c d e f g k m,DJ (fun n=>G5 n l z2 a b c d e f g k m) fun r _ _ _ _ _ _ _ _ w=>w=m∧(r=true→DP (l.drop i)):=fun i hi a b c d e f g k m=>wU (by
  simp only[G5]
  exact wL (wI (fun h=>wS ⟨rfl,fun _=>by rw[List.drop_eq_nil_of_le (by omega)];exact .nil⟩) fun _=>wS (by simp)))
 have main:∀i,i≤l.length→∀a b c d e f g k m,DJ (fun n=>G6 n l z2 i a b c d e f g k m) fun r _ _ _ _ _ _ _ _ w=>w=m∧(r=true→DP (l.drop i)):=Al _ fun i hi ih a b c d e f g k m=>wU (by
  have:=hl.le
  simp only[G6]
  exact wL (wI (fun h=>wI (fun _=>Uh hl (by omega) fun z1 z3 s1 s2 s3 p q z4 hx hw _ _ _ _ _ hp hq _=>
   Y6 (tQ hp hq z1 z3 s1 s2 s3 z4 a b c d e f g k m) fun r _ _ _ _ _ _ _ _ w hr=>wB (wI (fun _=>wS ⟨hr.1,by simp⟩) fun hb=>wi (by omega) (wM (ih (by omega) _ _ _ _ _ _ _ _ _) fun r2 h2=>⟨h2.1.trans hr.1,fun e=>by
     have hr:=hr.2 (by simpa using hb)
     rw[drop_at hx]
     exact .cons hr.1 hr.2 (h2.2 e)⟩))) fun h=>he i (fun _=>h) _ _ _ _ _ _ _ _ _) fun h=>he i (fun h2=>(h (by omega)).elim) _ _ _ _ _ _ _ _ _))
 unfold Qs
 exact main 0 (Nat.zero_le _) _ _ _ _ _ _ _ _ _
mutual
/-- Whole statements, as far as it matters: blocks stand where they may, at most so deep. -/
inductive DN:Nat→List D→Prop
 | nil {d:Nat}:DN d []
 | cons {d:Nat} {op k z z2:Int} {s1 s2 s3 s4:ByteArray} {ns ty path ex body els arms l:List D} (h1:op=7→1≤ex.length) (h2:op≠6→op≠7→op≠9→op≠10→op≠11→op≠13→body=[]) (h3:op≠6→els=[]) (h4:op≠8→arms=[])
   (he:DP ex) (hb:DN d body) (hs:DN d els) (ha:JI d arms) (hl:DN (d+1) l):DN (d+1) (.agg [.int .u8 op,.str s1,.str s2,.list false 1 ns,.int .u8 k,.str s3,.list true 3 ty,.int .i64 z,.str s4,.list false 1 path,.list true 8 ex,.list true 15 body,.list true 15 els,.list true 3 arms,.int .i64 z2]::l)
inductive JI:Nat→List D→Prop
 | nil {d:Nat}:JI d []
 | cons {d:Nat} {s1 s2:ByteArray} {b l:List D} (hb:DN d b) (hl:JI d l):JI d (.agg [.str s1,.str s2,.list true 15 b]::l)
end
def Xb (op:Int):((Int×Int×Bool×Bool×Bool×Bool×Bool) ⊕ ((Int×Bool×Bool×Bool) ⊕ ((Unit) ⊕ ((Unit) ⊕ (Unit)))))→Prop
 | .inl (_,z,_,b,o,_,k)=>k=true→op≠8∧(op=7→z=1)∧(b=true→op=6∨op=7∨op=9∨op=10∨op=13)∧(o=true→op=6)
 | .inr (.inl (_,_,b,_))=>op≠6∧op≠7∧op≠8∧(b=true→op=11)
 | .inr (.inr (.inl _))=>op=2
 | .inr (.inr (.inr (.inl _)))=>op=8
 | .inr (.inr (.inr (.inr _)))=>op=12
theorem t207 (z1:Int) (s2 s3:ByteArray) (l4:List D) (z5:Int) (s6:ByteArray) (l7:List D) (z8:Int) (s9:ByteArray) (l10 l11 l12 l13 l14:List D) (z15:Int):Wp (fun n=>lU n z1 s2 s3 l4 z5 s6 l7 z8 s9 l10 l11 l12 l13 l14 z15) (Xb z1):=by
 unfold lU
 repeat' first | refine wI (fun _=>?_) fun _=>?_ | refine wL ?_ | exact wS (by unfold Xb;simp;omega) | exact wS (by unfold Xb;simp)
theorem t208 (z1:Int) (s2 s3:ByteArray) (l4:List D) (z5:Int) (s6:ByteArray) (l7:List D) (z8:Int) (s9:ByteArray) (l10 l11 l12 l13 l14:List D) (z15:Int):Tl fun n=>TA n z1 s2 s3 l4 z5 s6 l7 z8 s9 l10 l11 l12 l13 l14 z15:=by unfold TA;repeat' first | exact wS trivial | with_reducible refine wI (fun _=>?_) fun _=>?_ | with_reducible refine wL ?_ | with_reducible refine wB ?_ | with_reducible refine wT ?_ | with_reducible refine wZ ?_
theorem t245 (s:ByteArray):Tl fun n=>VE n s:=by unfold VE;repeat' first | exact wS trivial | with_reducible refine wI (fun _=>?_) fun _=>?_ | with_reducible refine wL ?_ | with_reducible refine wB ?_ | with_reducible refine wT ?_ | with_reducible refine wZ ?_
end
end Go.Proofs.YtjfmnfncmfepnaaGreatDoor
end
set_option linter.unusedVariables false
noncomputable section
namespace Go.Proofs.YtjfmnfncmfepnaaGreatDoor
open Go Go.AM
def iP (y:Int) (op:Int) (ex body els arms:List D):Prop:=1≤y∧(op=7→1≤ex.length)∧(op≠6→op≠7→op≠9→op≠10→op≠11→op≠13→body=[])∧(op≠6→els=[])∧(op≠8→arms=[])∧DP ex∧DN y.toNat body∧DN y.toNat els∧JI y.toNat arms
section
variable {body els arms ex:List D}{y:Int}
def Bl (body els arms:List D) (y:Int):Prop:=(∀z,W2 (fun n=>B5 n body z y) fun r w=>w=y∧(r=true→DN y.toNat body))∧(∀z,W2 (fun n=>B5 n els z y) fun r w=>w=y∧(r=true→DN y.toNat els))∧∀z,W2 (fun n=>Kh n arms z y) fun r w=>w=y∧(r=true→JI y.toNat arms)
theorem JA (h:Bl body els arms y) {A:Nat→Option (Bool×Int×Int×Bool×Bool×Bool×Bool×Bool×Bool×Int)}(hA:DJ A fun r _ _ _ _ _ _ _ _ w=>w=y∧(r=true→DP ex)):
  Wp (fun n=>BO (A n) fun b _ _ _ _ _ _ _ _ z=>(if b=true then AP body fun z1=>Ir (B5 n body z1 z) fun b1 z2=>(if b1=true then AP els fun z3=>Ir (B5 n els z3 z2) fun b2 z4=>(if b2=true then Ir (Kh n arms 6 z4) fun b3 z5=>some b3 else some false)else some false)else some false)) fun r=>r=true→DP ex∧DN y.toNat body∧DN y.toNat els∧JI y.toNat arms:=by
 refine Y6 hA fun b _ _ _ _ _ _ _ _ z ⟨hz,hb⟩=>?_
 subst hz
 refine wI (fun e=>wL (c2 (h.1 _) fun b1 z2 ⟨hz2,h2⟩=>wI (fun e1=>wL ?_) fun _=>wS (by simp))) fun _=>wS (by simp)
 subst hz2
 refine c2 (h.2.1 _) fun b2 z4 ⟨hz4,h4⟩=>wI (fun e2=>?_) fun _=>wS (by simp)
 subst hz4
 exact c2 (h.2.2 _) fun b3 z5 ⟨_,h5⟩=>wS fun e3=>⟨hb e,h2 e1,h4 e2,h5 e3⟩
theorem FA {l:List D}(h:¬(0:Int)<l.length):l=[]:=List.eq_nil_of_length_eq_zero (by omega)
theorem t147 (h:Bl body els arms y) (h16:y≤40) (op:Int) (s2 s3:ByteArray) {ns:List D}(h4:AB Ac 9 ns) (k:Int) (s6:ByteArray) {ty:List D}(h7:AB Ac 48 ty) (z8:Int) (s9:ByteArray) {pa:List D}(h10:AB Ac 9 pa) (hex:AB Ac 54 ex) (z15:Int):
  Wp (fun n=>VF n op s2 s3 ns k s6 ty z8 s9 pa ex body els arms z15 y) fun r=>r=true→iP y op ex body els arms:=wU (by
 simp only[VF]
 have h2:∀z17 z18 b19 b20 b21 b22,Wp (fun n=>IA n ex body els arms y z17 z18 b19 b20 b21 b22) fun r=>r=true→DP ex∧DN y.toNat body∧DN y.toNat els∧JI y.toNat arms:=fun _ _ _ _ _ _=>wU (by
  simp only[IA]
  exact JA h (tJ hex _ _ _ _ _ _ _ _ _ _))
 have h1:∀z17 z18 b19 b20 b21 b22,Wp (fun n=>Ms n ex body els arms y z17 z18 b19 b20 b21 b22) fun r=>r=true→(b20=false→body=[])∧(b21=false→els=[])∧arms=[]∧DP ex∧DN y.toNat body∧DN y.toNat els∧JI y.toNat arms:=fun _ _ _ b20 b21 _=>wU (by
  simp only[Ms]
  refine wB (wI (fun h20=>wL (wI (fun _=>wS (by simp)) fun e1=>wB (wI (fun h21=>wL (wI (fun _=>wS (by simp)) fun e2=>wL (wI (fun _=>wS (by simp)) fun e3=>?_))) fun h21=>wL (wI (fun _=>wS (by simp)) fun e3=>?_)))) fun h20=>wB (wI (fun h21=>wL (wI (fun _=>wS (by simp)) fun e2=>wL (wI (fun _=>wS (by simp)) fun e3=>?_))) fun h21=>wL (wI (fun _=>wS (by simp)) fun e3=>?_)))
  ·exact wM (h2 _ _ _ _ _ _) fun r hr e=>⟨fun _=>FA e1,fun _=>FA e2,FA e3,hr e⟩
  ·exact wM (h2 _ _ _ _ _ _) fun r hr e=>⟨fun _=>FA e1,fun q=>by simp[q]at h21,FA e3,hr e⟩
  ·exact wM (h2 _ _ _ _ _ _) fun r hr e=>⟨fun q=>by simp[q]at h20,fun _=>FA e2,FA e3,hr e⟩
  ·exact wM (h2 _ _ _ _ _ _) fun r hr e=>⟨fun q=>by simp[q]at h20,fun q=>by simp[q]at h21,FA e3,hr e⟩)
 have h4':∀z24 b25 b26 b27,Wp (fun n=>Mu n ex body els arms y z24 b25 b26 b27) fun r=>r=true→DP ex∧DN y.toNat body∧DN y.toNat els∧JI y.toNat arms:=fun _ _ _ _=>wU (by
  simp only[Mu]
  exact JA h (tL hex _ _ _ _ _ _ _ _ _ _))
 have h3:∀z24 b25 b26 b27,Wp (fun n=>Mt n ex body els arms y z24 b25 b26 b27) fun r=>r=true→(b26=false→body=[])∧els=[]∧arms=[]∧DP ex∧DN y.toNat body∧DN y.toNat els∧JI y.toNat arms:=fun _ _ b26 _=>wU (by
  simp only[Mt]
  refine wB (wI (fun h20=>wL (wI (fun _=>wS (by simp)) fun e1=>wL (wI (fun _=>wS (by simp)) fun e2=>wL (wI (fun _=>wS (by simp)) fun e3=>?_)))) fun h20=>wL (wI (fun _=>wS (by simp)) fun e2=>wL (wI (fun _=>wS (by simp)) fun e3=>?_)))
  ·exact wM (h4' _ _ _ _) fun r hr e=>⟨fun _=>FA e1,FA e2,FA e3,hr e⟩
  ·exact wM (h4' _ _ _ _) fun r hr e=>⟨fun q=>by simp[q]at h20,FA e2,FA e3,hr e⟩)
 have o1:∀{Q:Prop} {b:Bool},¬(!b)=true→(b=true→Q)→Q:=fun h q=>q (by simpa using h)
 refine kL (t207 ..) (fun p hQ=>?_) fun q hQ=>kL (Q:=fun x=>Xb op (.inr x)) ⟨q,.ret,hQ⟩ (fun p hQ=>?_) fun q hQ=>kL (Q:=fun x=>Xb op (.inr (.inr x))) ⟨q,.ret,hQ⟩ (fun p hQ=>?_) fun q hQ=>kL (Q:=fun x=>Xb op (.inr (.inr (.inr x)))) ⟨q,.ret,hQ⟩ (fun p hQ=>?_) fun p hQ=>?_
 ·obtain⟨z17,z18,b19,b20,b21,b22,b23⟩:=p
  show Wp (fun n=>if y<1 then some false else _) _
  refine wI (fun _=>wS (by simp)) fun hy=>wB (wI (fun _=>wS (by simp)) fun h23=>u1 (t208 ..) fun _=>wB (wI (fun _=>wS (by simp)) fun _=>u1 (t245 _) fun _=>wB (wI (fun _=>wS (by simp)) fun _=>u1 (t245 _) fun _=>wB (wI (fun _=>wS (by simp)) fun _=>wL (wI (fun hlen=>?_) fun _=>wS (by simp))))))
  obtain⟨q1,q2,q3,q4⟩:=hQ (by simpa using h23)
  dsimp only at hlen
  have fin:∀r,(r=true→(b20=false→body=[])∧(b21=false→els=[])∧arms=[]∧DP ex∧DN y.toNat body∧DN y.toNat els∧JI y.toNat arms)→r=true→iP y op ex body els arms:=fun r hr e=>by
   obtain⟨r1,r2,r3,r4,r5,r6,r7⟩:=hr e
   refine⟨by omega,fun h7=>by have:=q2 h7;omega,fun a1 a2 a3 a4 a5 a6=>?_,fun a1=>?_,fun _=>r3,r4,r5,r6,r7⟩
   ·grind
   grind
  repeat' first | exact wS trivial | with_reducible refine wI (fun _=>?_) fun _=>?_ | with_reducible refine wL ?_ | with_reducible refine wB ?_ | with_reducible refine wT ?_ | with_reducible refine wZ ?_ | with_reducible refine u1 (Jy h4 _) fun _=>?_ | with_reducible refine u1 (t139 h7 _ _ _) fun _=>?_ | with_reducible refine u1 (t138 _ _ _) fun _=>?_ | with_reducible refine u1 (t210 h10 _) fun _=>?_ | with_reducible refine u1 (t211 _ _) fun _=>?_ | with_reducible refine wM (h1 _ _ _ _ _ _) fin | with_reducible refine wS (by simp)
 ·obtain⟨z24,b25,b26,b27⟩:=p
  obtain⟨q1,q2,q3,q4⟩:=hQ
  show Wp (fun n=>if y<1 then some false else _) _
  refine wI (fun _=>wS (by simp)) fun hy=>?_
  have fin:∀r,(r=true→(b26=false→body=[])∧els=[]∧arms=[]∧DP ex∧DN y.toNat body∧DN y.toNat els∧JI y.toNat arms)→r=true→iP y op ex body els arms:=fun r hr e=>by
   obtain⟨r1,r2,r3,r4,r5,r6,r7⟩:=hr e
   refine⟨by omega,fun h7=>absurd h7 q2,fun a1 a2 a3 a4 a5 a6=>?_,fun _=>r2,fun _=>r3,r4,r5,r6,r7⟩
   grind
  repeat' first | exact wS trivial | with_reducible refine wI (fun _=>?_) fun _=>?_ | with_reducible refine wL ?_ | with_reducible refine wB ?_ | with_reducible refine wT ?_ | with_reducible refine wZ ?_ | with_reducible refine u1 (t208 ..) fun _=>?_ | with_reducible refine u1 (t142 _) fun _=>?_ | with_reducible refine u1 (t245 _) fun _=>?_ | with_reducible refine u1 (Jy h4 _) fun _=>?_ | with_reducible refine u1 (t139 h7 _ _ _) fun _=>?_ | with_reducible refine u1 (t138 _ _ _) fun _=>?_ | with_reducible refine u1 (t210 h10 _) fun _=>?_ | with_reducible refine u1 (t211 _ _) fun _=>?_ | with_reducible refine wM (h3 _ _ _ _) fin | with_reducible refine wS (by simp)
 ·have hQ:op=2:=hQ
  refine wI (fun _=>wS (by simp)) fun hy=>?_
  have fin:∀{r:Bool},¬(0:Int)<body.length→¬(0:Int)<els.length→¬(0:Int)<arms.length→(r=true→DP ex∧DN y.toNat body∧DN y.toNat els∧JI y.toNat arms)→r=true→iP y op ex body els arms:=fun e1 e2 e3 hr e=>⟨by omega,fun h7=>by omega,fun _ _ _ _ _ _=>FA e1,fun _=>FA e2,fun _=>FA e3,hr e⟩
  repeat' first | exact wS trivial | with_reducible refine wI (fun _=>?_) fun _=>?_ | with_reducible refine wL ?_ | with_reducible refine wB ?_ | with_reducible refine wT ?_ | with_reducible refine wZ ?_ | with_reducible refine u1 (t208 ..) fun _=>?_ | with_reducible refine u1 (t141 _) fun _=>?_ | with_reducible refine u1 (t245 _) fun _=>?_ | with_reducible refine u1 (Jy h4 _) fun _=>?_ | with_reducible refine u1 (t139 h7 _ _ _) fun _=>?_ | with_reducible refine u1 (t138 _ _ _) fun _=>?_ | with_reducible refine u1 (t210 h10 _) fun _=>?_ | with_reducible refine u1 (t211 _ _) fun _=>?_ | with_reducible refine wM (JA h (tN hex _ _ _ _ _ _ _ _ _ _)) fun r hr=>fin ‹_› ‹_› ‹_› hr | with_reducible refine wS (by simp)
 ·have hQ:op=8:=hQ
  refine wI (fun _=>wS (by simp)) fun hy=>?_
  have fin:∀{r:Bool},¬(0:Int)<body.length→¬(0:Int)<els.length→(r=true→DP ex∧DN y.toNat body∧DN y.toNat els∧JI y.toNat arms)→r=true→iP y op ex body els arms:=fun e1 e2 hr e=>⟨by omega,fun h7=>by omega,fun _ _ _ _ _ _=>FA e1,fun _=>FA e2,fun h=>absurd hQ h,hr e⟩
  repeat' first | exact wS trivial | with_reducible refine wI (fun _=>?_) fun _=>?_ | with_reducible refine wL ?_ | with_reducible refine wB ?_ | with_reducible refine wT ?_ | with_reducible refine wZ ?_ | with_reducible refine u1 (t208 ..) fun _=>?_ | with_reducible refine u1 (t142 _) fun _=>?_ | with_reducible refine u1 (t141 _) fun _=>?_ | with_reducible refine u1 (Jy h4 _) fun _=>?_ | with_reducible refine u1 (t139 h7 _ _ _) fun _=>?_ | with_reducible refine u1 (t138 _ _ _) fun _=>?_ | with_reducible refine u1 (t210 h10 _) fun _=>?_ | with_reducible refine u1 (t211 _ _) fun _=>?_ | with_reducible refine wM (JA h (tP hex _ _ _ _ _ _ _ _ _ _)) fun r hr=>fin ‹_› ‹_› hr | with_reducible refine wS (by simp)
 ·have hQ:op=12:=hQ
  refine wI (fun _=>wS (by simp)) fun hy=>?_
  have fin:∀{r:Bool},¬(0:Int)<body.length→¬(0:Int)<els.length→¬(0:Int)<arms.length→(r=true→DP ex∧DN y.toNat body∧DN y.toNat els∧JI y.toNat arms)→r=true→iP y op ex body els arms:=fun e1 e2 e3 hr e=>⟨by omega,fun h7=>by omega,fun _ _ _ _ _ _=>FA e1,fun _=>FA e2,fun _=>FA e3,hr e⟩
  repeat' first | exact wS trivial | with_reducible refine wI (fun _=>?_) fun _=>?_ | with_reducible refine wL ?_ | with_reducible refine wB ?_ | with_reducible refine wT ?_ | with_reducible refine wZ ?_ | with_reducible refine u1 (t208 ..) fun _=>?_ | with_reducible refine u1 (t142 _) fun _=>?_ | with_reducible refine u1 (Jy h4 _) fun _=>?_ | with_reducible refine u1 (t139 h7 _ _ _) fun _=>?_ | with_reducible refine u1 (t138 _ _ _) fun _=>?_ | with_reducible refine u1 (t210 h10 _) fun _=>?_ | with_reducible refine u1 (t211 _ _) fun _=>?_ | with_reducible refine wM (JA h (tR hex _ _ _ _ _ _ _ _ _ _)) fun r hr=>fin ‹_› ‹_› ‹_› hr | with_reducible refine wS (by simp))
end
end Go.Proofs.YtjfmnfncmfepnaaGreatDoor
end
set_option linter.unusedVariables false
noncomputable section
namespace Go.Proofs.YtjfmnfncmfepnaaGreatDoor
open Go Go.AM
section
variable {y:Int}{l:List D}
theorem TB {op k z z2:Int}{s1 s2 s3 s4:ByteArray}{ns ty path ex body els arms:List D}(h:iP (y - 1) op ex body els arms) (hl:DN y.toNat l):DN y.toNat (.agg [.int .u8 op,.str s1,.str s2,.list false 1 ns,.int .u8 k,.str s3,.list true 3 ty,.int .i64 z,.str s4,.list false 1 path,.list true 8 ex,.list true 15 body,.list true 15 els,.list true 3 arms,.int .i64 z2]::l):=by
 obtain⟨h0,h1,h2,h3,h4,h5,h6,h7,h8⟩:=h
 have e:y.toNat=(y - 1).toNat+1:=by omega
 rw[e]at hl ⊢
 exact .cons h1 h2 h3 h4 h5 h6 h7 h8 hl
theorem yE (hy:y<1) (op:Int) (s2 s3:ByteArray) (ns:List D) (k:Int) (s6:ByteArray) (ty:List D) (z8:Int) (s9:ByteArray) (pa ex body els arms:List D) (z15:Int):
  Wp (fun n=>VF n op s2 s3 ns k s6 ty z8 s9 pa ex body els arms z15 y) fun r=>r=true→iP y op ex body els arms:=wU (by
 simp only[VF]
 refine kL (t207 ..) (fun p hQ=>?_) fun q hQ=>kL (Q:=fun _=>True) ⟨q,.ret,trivial⟩ (fun p hQ=>?_) fun q hQ=>kL (Q:=fun _=>True) ⟨q,.ret,trivial⟩ (fun p hQ=>?_) fun q hQ=>kL (Q:=fun _=>True) ⟨q,.ret,trivial⟩ (fun p hQ=>?_) fun p hQ=>?_
 ·obtain⟨z17,z18,b19,b20,b21,b22,b23⟩:=p
  show Wp (fun n=>if y<1 then some false else _) _
  exact wI (fun _=>wS (by simp)) fun h=>absurd hy h
 ·obtain⟨z24,b25,b26,b27⟩:=p
  show Wp (fun n=>if y<1 then some false else _) _
  exact wI (fun _=>wS (by simp)) fun h=>absurd hy h
 all_goals exact wI (fun _=>wS (by simp)) fun h=>absurd hy h)
theorem yF (l:List D):AB Ac 90 l→∀y:Int,0≤y→y≤40→∀i,i≤l.length→∀z2,W2 (fun n=>G7 n l z2 i y) fun r w=>w=y∧(r=true→DN y.toNat (l.drop i)):=by
 induction l using Hw with | H l IH
 intro hl y hy0 hy
 have f145:∀m,AB Ac 90 m→AU m<AU l→∀y:Int,0≤y→y≤40→∀z,W2 (fun n=>B5 n m z y) fun r w=>w=y∧(r=true→DN y.toNat m):=fun m hm h y h0 h1 z=>wU (by
  simp only[B5]
  exact IH m h hm y h0 h1 0 (Nat.zero_le _) z)
 have f214:∀m,AB Ac 96 m→AU m<AU l→∀y:Int,0≤y→y≤40→∀z,W2 (fun n=>Kh n m z y) fun r w=>w=y∧(r=true→JI y.toNat m):=fun m hm h y h0 h1 z=>wU (by
  have he:∀k,(k<m.length→¬(k:Int)<z)→W2 (fun n=>H9 n m z y) fun r w=>w=y∧(r=true→JI y.toNat (m.drop k)):=fun k hk=>wU (by
   simp only[H9]
   exact wL (wI (fun h=>wS ⟨rfl,fun _=>by rw[List.drop_eq_nil_of_le (by omega)];exact .nil⟩) fun _=>wS (by simp)))
  have a:∀k,k≤m.length→W2 (fun n=>H8 n m z k y) fun r w=>w=y∧(r=true→JI y.toNat (m.drop k)):=Al _ fun k hk ih=>wU (by
   simp only[H8]
   have:=hm.le
   have hd:=BN m k
   refine wL (wI (fun h=>wI (fun _=>kM hm (by omega) fun s1 s2 b hx hw _ _ hb=>c2 (Q:=fun r w=>w=y∧(r=true→DN y.toNat b)) (wU ?_) fun r w ⟨hw1,hr⟩=>wB (wI (fun _=>wS ⟨hw1,by simp⟩) fun e=>wi (by omega) ?_)) fun h=>he k fun _=>h) fun h=>he k fun h2=>(h (by omega)).elim)
   ·simp only[lV]
    have q:=f145 b hb (by omega) y h0 h1
    exact u1 (t141 _) fun _=>wI (fun _=>wI (fun _=>wL (c2 (q _) fun r w hr=>wS hr)) fun _=>u1 (t142 _) fun _=>wI (fun _=>wL (c2 (q _) fun r w hr=>wS hr)) fun _=>wS (by simp)) fun _=>wS (by simp)
   ·subst hw1
    exact wM (ih (by omega)) fun r2 h2=>⟨h2.1,fun e2=>by rw[drop_at hx];exact .cons (hr (by simpa using e)) (h2.2 e2)⟩)
  simp only[Kh]
  exact a 0 (Nat.zero_le _))
 have he:∀z2 i,(i<l.length→¬(i:Int)<z2)→W2 (fun n=>G8 n l z2 y) fun r w=>w=y∧(r=true→DN y.toNat (l.drop i)):=fun z2 i hi=>wU (by
  simp only[G8]
  exact wL (wI (fun h=>wS ⟨rfl,fun _=>by rw[List.drop_eq_nil_of_le (by omega)];exact .nil⟩) fun _=>wS (by simp)))
 refine Al _ fun i hi ih z2=>wU ?_
 have hd:=BN l i
 have:=hl.le
 simp only[G7]
 refine wL (wI (fun h=>wI (fun _=>rB hl (by omega) fun op s1 s2 ns k s3 ty z s4 pa ex bo el ar z3 hx hw _ _ _ hns _ _ hty _ _ hpa hex hbo hel har _=>c2 (Q:=fun r w=>w=y∧(r=true→iP (y - 1) op ex bo el ar)) (wU ?_) fun r w ⟨hw1,hr⟩=>wB (wI (fun _=>wS ⟨hw1,by simp⟩) fun e=>wi (by omega) ?_)) fun h=>he z2 i fun _=>h) fun h=>he z2 i fun h2=>(h (by omega)).elim)
 ·simp only[tB]
  refine wW rfl (by omega) (c1 ?_ fun r hr=>wS ⟨rfl,hr⟩)
  by_cases h1:y=0
  ·subst h1
   exact yE (by omega) op s1 s2 ns k s3 ty z s4 pa ex bo el ar z3
  ·exact t147 ⟨f145 bo hbo (by omega) _ (by omega) (by omega),f145 el hel (by omega) _ (by omega) (by omega),f214 ar har (by omega) _ (by omega) (by omega)⟩ (by omega) op s1 s2 hns k s3 hty z s4 hpa hex z3
 ·subst hw1
  exact wM (ih (by omega) z2) fun r2 h2=>⟨h2.1,fun e2=>by rw[drop_at hx];exact TB (hr (by simpa using e)) (h2.2 e2)⟩
theorem VG (hl:AB Ac 90 l) (h0:0≤y) (h1:y≤40) (z:Int):W2 (fun n=>B5 n l z y) fun r w=>w=y∧(r=true→DN y.toNat l):=wU (by
 simp only[B5]
 exact yF l hl y h0 h1 0 (Nat.zero_le _) z)
theorem t214 {m:List D}(hm:AB Ac 96 m) (h0:0≤y) (h1:y≤40) (z:Int):W2 (fun n=>Kh n m z y) fun r w=>w=y∧(r=true→JI y.toNat m):=wU (by
 have he:∀k,(k<m.length→¬(k:Int)<z)→W2 (fun n=>H9 n m z y) fun r w=>w=y∧(r=true→JI y.toNat (m.drop k)):=fun k hk=>wU (by
  simp only[H9]
  exact wL (wI (fun h=>wS ⟨rfl,fun _=>by rw[List.drop_eq_nil_of_le (by omega)];exact .nil⟩) fun _=>wS (by simp)))
 have a:∀k,k≤m.length→W2 (fun n=>H8 n m z k y) fun r w=>w=y∧(r=true→JI y.toNat (m.drop k)):=Al _ fun k hk ih=>wU (by
  simp only[H8]
  have:=hm.le
  refine wL (wI (fun h=>wI (fun _=>kM hm (by omega) fun s1 s2 b hx hw _ _ hb=>c2 (Q:=fun r w=>w=y∧(r=true→DN y.toNat b)) (wU ?_) fun r w ⟨hw1,hr⟩=>wB (wI (fun _=>wS ⟨hw1,by simp⟩) fun e=>wi (by omega) ?_)) fun h=>he k fun _=>h) fun h=>he k fun h2=>(h (by omega)).elim)
  ·simp only[lV]
   have q:=VG hb h0 h1
   exact u1 (t141 _) fun _=>wI (fun _=>wI (fun _=>wL (c2 (q _) fun r w hr=>wS hr)) fun _=>u1 (t142 _) fun _=>wI (fun _=>wL (c2 (q _) fun r w hr=>wS hr)) fun _=>wS (by simp)) fun _=>wS (by simp)
  ·subst hw1
   exact wM (ih (by omega)) fun r2 h2=>⟨h2.1,fun e2=>by rw[drop_at hx];exact .cons (hr (by simpa using e)) (h2.2 e2)⟩)
 simp only[Kh]
 exact a 0 (Nat.zero_le _))
theorem t145 (hl:AB Ac 90 l) (z2:Int) (h0:2≤y) (h1:y≤40):W2 (fun n=>lW n l z2 y) fun r w=>w=y∧(r=true→DN y.toNat l):=by
 have he:∀i,(i<l.length→¬(i:Int)<z2)→W2 (fun n=>Mv n l z2 y) fun r w=>w=y∧(r=true→DN y.toNat (l.drop i)):=fun i hi=>wU (by
  simp only[Mv]
  exact wL (wI (fun h=>wS ⟨rfl,fun _=>by rw[List.drop_eq_nil_of_le (by omega)];exact .nil⟩) fun _=>wS (by simp)))
 have a:∀i,i≤l.length→W2 (fun n=>Mw n l z2 i y) fun r w=>w=y∧(r=true→DN y.toNat (l.drop i)):=Al _ fun i hi ih=>wU (by
  have:=hl.le
  simp only[Mw]
  refine wL (wI (fun h=>wI (fun _=>rB hl (by omega) fun op s1 s2 ns k s3 ty z s4 pa ex bo el ar z3 hx hw _ _ _ hns _ _ hty _ _ hpa hex hbo hel har _=>c2 (Q:=fun r w=>w=y∧(r=true→iP (y - 1) op ex bo el ar)) ?_ fun r w ⟨hw1,hr⟩=>wB (wI (fun _=>wS ⟨hw1,by simp⟩) fun e=>wi (by omega) ?_)) fun h=>he i fun _=>h) fun h=>he i fun h2=>(h (by omega)).elim)
  ·simp only[tD]
   exact wW rfl (by omega) (c1 (t147 ⟨VG hbo (by omega) (by omega),VG hel (by omega) (by omega),t214 har (by omega) (by omega)⟩ (by omega) op s1 s2 hns k s3 hty z s4 hpa hex z3) fun r hr=>wS ⟨rfl,hr⟩)
  ·subst hw1
   exact wM (ih (by omega)) fun r2 h2=>⟨h2.1,fun e2=>by rw[drop_at hx];exact TB (hr (by simpa using e)) (h2.2 e2)⟩)
 unfold lW
 exact a 0 (Nat.zero_le _)
end
end Go.Proofs.YtjfmnfncmfepnaaGreatDoor
end
set_option linter.unusedVariables false
noncomputable section
namespace Go.Proofs.YtjfmnfncmfepnaaGreatDoor
open Go Go.AM
theorem t241 {l m:List D}(hl:AB Ac 9 l) (hm:AB Ac 9 m):Tl fun n=>lX n l m:=by
 unfold lX
 refine wL (wL (wI (fun h=>wL ?_) fun _=>wS trivial))
 have h:l.length=m.length:=by omega
 have a:∀i,i≤l.length→Tl fun n=>Mx n l m l.length i:=Al _ fun i hi ih=>wU (by
  simp only[Mx]
  have:=hl.le
  exact wI (fun h=>gs hl (by omega) fun _ _ _ _=>gs hm (by omega) fun _ _ _ _=>wI (fun _=>wi (by omega) (ih (by omega))) fun _=>wS trivial) fun _=>wS trivial)
 exact a 0 (Nat.zero_le _)
theorem t197 {l m:List D}(hl:AB Ac 9 l) (hm:AB Ac 9 m) (s t:ByteArray):Tl fun n=>lY n s l t m:=by unfold lY;repeat' first | exact wS trivial | with_reducible refine wI (fun _=>?_) fun _=>?_ | with_reducible refine wL ?_ | with_reducible refine wB ?_ | with_reducible refine wT ?_ | with_reducible refine wZ ?_ | with_reducible refine u1 (t241 hl hm) fun _=>?_
theorem pC {q q':List D}(h:Tl fun n=>Zl n q q') {p p':List D}(hp:AB Ac 9 p) (hp':AB Ac 9 p') (z1 z2:Int) (s3 s4 s5:ByteArray) (z8 z9 z10:Int) (s11 s12 s13:ByteArray) (z16:Int):Tl fun n=>Zn n z1 z2 s3 s4 s5 p q z8 z9 z10 s11 s12 s13 p' q' z16:=wU (by
 simp only[Zn]
 repeat' first | exact wS trivial | with_reducible refine wI (fun _=>?_) fun _=>?_ | with_reducible refine wL ?_ | with_reducible refine wB ?_ | with_reducible refine wT ?_ | with_reducible refine wZ ?_ | with_reducible refine u1 (t197 hp hp' _ _) fun _=>?_ | with_reducible refine u1 h fun _=>?_)
theorem t198 (l:List D):AB Ac 54 l→∀m,AB Ac 54 m→Tl fun n=>Zl n l m:=by
 induction l using Hw with | H l IH
 intro hl m hm
 refine wU ?_
 simp only[Zl]
 refine wL (wL (wI (fun h=>wL ?_) fun _=>wS trivial))
 have a:∀i,i≤l.length→Tl fun n=>My n l m l.length i:=Al _ fun i hi ih=>wU (by
  simp only[My]
  have:=hl.le
  have hd:=BN l i
  exact wI (fun h=>Uh hl (by omega) fun _ _ _ _ _ p q _ _ hw _ _ _ _ _ hp hq _=>Uh hm (by omega) fun _ _ _ _ _ p' q' _ _ _ _ _ _ _ _ hp' hq' _=>u1 (pC (IH q (by omega) hq q' hq') hp hp' _ _ _ _ _ _ _ _ _ _ _ _) fun _=>wB (wI (fun _=>wS trivial) fun _=>wi (by omega) (ih (by omega)))) fun _=>wS trivial)
 exact a 0 (Nat.zero_le _)
def AEj (l7 l8:List D) (z9:Int) (l14 l15:List D) (z18:Int):Bool→Int→ByteArray→List D→Int→ByteArray→List D→List D→Int→Int→ByteArray→ByteArray→ByteArray→List D→List D→Int→Int→Int→Prop:=fun _ _ _ _ _ _ a7 a8 a9 _ _ _ _ a14 a15 _ _ a18=>a7=l7∧a8=l8∧a9=z9∧a14=l14∧a15=l15∧a18=z18
theorem t135 (b1:Bool) (z2:Int) (s3:ByteArray) {l4:List D}(h4:AB Ac 58 l4) (z5:Int) (s6:ByteArray) (l7 l8:List D) (z9 z10:Int) (s11 s12 s13:ByteArray) (l14 l15:List D) (z16 z17 z18:Int):W18 (fun n=>Zj n b1 z2 s3 l4 z5 s6 l7 l8 z9 z10 s11 s12 s13 l14 l15 z16 z17 z18) (AEj l7 l8 z9 l14 l15 z18):=by
 unfold Zj
 exact c3 (t136 h4 _ _ _) fun _ _ u hu=>wS ⟨rfl,rfl,rfl,rfl,rfl,hu⟩
theorem tS (b1:Bool) (z2:Int) (s3:ByteArray) {l4:List D}(h4:AB Ac 58 l4) (z5:Int) (s6:ByteArray) (l7 l8:List D) (z9 z10:Int) (s11 s12 s13:ByteArray) (l14 l15:List D) (z16 z17 z18:Int):Tl fun n=>Qg n b1 z2 s3 l4 z5 s6 l7 l8 z9 z10 s11 s12 s13 l14 l15 z16 z17 z18:=by
 unfold Qg
 exact c3 (tI h4 _ _ _) fun _ _ u hu=>wS trivial
def iQ:D→Prop
 | .agg [.int .u8 k,_,_,_,_,_,.list _ _ body,.int .u8 op,_,_,_,_,.list _ _ path,.list _ _ args,_,_]=>k=3→(op=19→args.length≤path.length)∧DP args∧DN 39 body
 | _=>True
theorem t106 (z1:Int) (s2:ByteArray) {l3:List D}(h3:AB Ac 58 l3) (z4:Int) (s5:ByteArray) {l6:List D}(h6:AB Ac 48 l6) {l7:List D}(h7:AB Ac 90 l7) (z8 z9:Int) (s10 s11 s12:ByteArray) {l13 l14:List D}(h13:AB Ac 9 l13) (h14:AB Ac 54 l14) (z15 z16:Int):
  Wp (fun n=>lZ n z1 s2 l3 z4 s5 l6 l7 z8 z9 s10 s11 s12 l13 l14 z15 z16 39) fun r=>r=true→z1=3→(z8=19→l14.length≤l13.length)∧DP l14∧DN 39 l7:=by
 have h1:∀b,Wp (fun n=>IB n z1 s2 l3 z4 s5 l6 l7 z8 z9 s10 s11 s12 l13 l14 z15 z16 39 b) fun r=>r=true→z1=3→(z8=19→l14.length≤l13.length)∧DP l14∧DN 39 l7:=fun b=>wU (by
  simp only[IB]
  refine wI (fun e=>wI (fun _=>zZ (t135 false z1 s2 h3 z4 s5 l6 l7 z8 z9 s10 s11 s12 l13 l14 z15 z16 39) fun _ _ _ _ _ _ _ _ _ _ _ _ _ _ _ _ _ _ _=>wS fun _ h=>by omega) fun _=>wS (by simp)) fun _=>wI (fun e=>wI (fun _=>u18 (tS true z1 s2 h3 z4 s5 l6 l7 z8 z9 s10 s11 s12 l13 l14 z15 z16 39) fun _ _ _ _ _ _ _ _ _ _ _ _ _ _ _ _ _ _=>wS fun _ h=>by omega) fun _=>wS (by simp)) fun _=>wI (fun e=>u1 (t142 _) fun _=>wI (fun _=>zZ (t135 false z1 s2 h3 z4 s5 l6 l7 z8 z9 s10 s11 s12 l13 l14 z15 z16 39) fun _ _ _ _ _ _ a7 a8 a9 _ _ _ _ a14 a15 _ _ a18 ⟨e7,e8,e9,e14,e15,e18⟩=>?_) fun _=>wS (by simp)) fun _=>wS (by simp)
  subst e7;subst e8;subst e9;subst e14;subst e15;subst e18
  exact wI (fun _=>wT (u1 (t139 h6 _ _ _) fun _=>wI (fun _=>u1 (t143 _ _ _ _ _ _ _ _) fun _=>wB (wI (fun _=>wT (c1 (t144 h13 h14 _ _ _ _ _ _ _) fun _ hr=>wI (fun e1=>wL (c2 (t145 h7 _ (y:=39) (by omega) (by omega)) fun _ _ hs=>wS fun e2 _=>⟨(hr e1).1,(hr e1).2,hs.2 e2⟩)) fun _=>wS (by simp))) fun _=>wS (by simp))) fun _=>wS (by simp))) fun _=>wS (by simp))
 unfold lZ
 exact u1 (t138 _ _ _) fun _=>wI (fun _=>wL (wI (fun _=>u1 (pC (t198 _ h14 [] .nil) h13 .nil _ _ _ _ _ _ _ _ _ _ _ _) fun _=>wI (fun _=>u1 (t141 _) fun _=>h1 _) fun _=>h1 _) fun _=>h1 _)) fun _=>h1 _
theorem t54 {l:List D}(hl:AB Ac 56 l):Wp (fun n=>F54 n l) fun r=>r=true→∀x∈l,iQ x:=by
 have e:∀i,(i<l.length→¬(i:Int)<30)→Wp (fun n=>M0 n l 30) fun r=>r=true→∀x∈l.drop i,iQ x:=fun i hi=>wU (by
  simp only[M0]
  exact wL (wI (fun h=>wS fun _ x hx=>by rw[List.drop_eq_nil_of_le (by omega)]at hx;cases hx) fun _=>wS (by simp)))
 have a:∀i,i≤l.length→Wp (fun n=>M1 n l 30 i) fun r=>r=true→∀x∈l.drop i,iQ x:=Al _ fun i hi ih=>wU (by
  simp only[M1]
  have:=hl.le
  refine wL (wI (fun h=>wI (fun _=>oM hl (by omega) fun k s1 l3 z4 s5 l6 l7 z8 z9 s10 s11 s12 l13 l14 z15 z16 hx _ _ _ h3 _ _ h6 h7 _ _ _ _ _ h13 h14 _ _=>?_) fun h=>e i fun _=>h) fun h=>e i fun h2=>(h (by omega)).elim)
  refine c1 (Q:=fun r=>r=true→k=3→(z8=19→l14.length≤l13.length)∧DP l14∧DN 39 l7) ?_ fun r hr=>wB (wI (fun _=>wS (by simp)) fun e1=>wi (by omega) (wM (ih (by omega)) fun r2 h2 e2 x hx2=>?_))
  ·simp only[tE]
   exact c1 (t106 k s1 h3 z4 s5 h6 h7 z8 z9 s10 s11 s12 h13 h14 z15 z16) fun r hr=>wS hr
  ·rw[drop_at hx]at hx2
   rcases List.mem_cons.1 hx2 with rfl | h3
   ·exact hr (by simpa using e1)
   ·exact h2 e2 x h3)
 unfold F54 tF
 exact c1 (Q:=fun r=>r=true→∀x∈l,iQ x) (a 0 (Nat.zero_le _)) fun r hr=>wS hr
end Go.Proofs.YtjfmnfncmfepnaaGreatDoor
end
set_option linter.unusedVariables false
noncomputable section
namespace Go.Proofs.YtjfmnfncmfepnaaGreatDoor
open Go Go.AM
mutual
def O8:Nat->LD->Int->Int->LD->LD->LD->Option (LD×LD×LD)
 | 0,_,_,_,_,_,_=>none
 | n+1,s,t,r,v,w,u=>
  (if r<t then An s r fun O=>Bo O fun b a c d e f g h i j k l m o p q=>(if b=3 then (findF true (.str a) w (fun z=>Bo z fun P Q R S T U V W X Y Z aa ab ac ad ae=>TC n s t r v w u b a c d e f g h i j k l m o p q true) (TC n s t r v w u b a c d e f g h i j k l m o p q false))else (findF true (.str a) v (fun A=>Bo A fun af ag ah ai aj ak al am an ao aq ar au av aw ax=>TE n s t r v w u b a c d e f g h i j k l m o p q true) (TE n s t r v w u b a c d e f g h i j k l m o p q false)))else some (v,w,u))
def TC:Nat->LD->Int->Int->LD->LD->LD->Int->BA->LD->Int->BA->LD->LD->Int->Int->BA->BA->BA->LD->LD->Int->Int->Bool->Option (LD×LD×LD)
 | 0,_,_,_,_,_,_,_,_,_,_,_,_,_,_,_,_,_,_,_,_,_,_,_=>none
 | n+1,s,t,r,v,w,u,b,a,c,d,e,f,g,h,i,j,k,l,m,o,p,q,x=>
  Aw (!x) fun B=>(if B=true then CO (.str a) [.int .u8 b,.str a,.list true 4 c,.int .u8 d,.str e,.list true 3 f,.list true 15 g,.int .u8 h,.int .i64 i,.str j,.str k,.str l,.list false 1 m,.list true 8 o,.int .i64 p,.int .i64 q] w fun C=>TD n s t r v u x C else TD n s t r v u x w)
def TD:Nat->LD->Int->Int->LD->LD->Bool->LD->Option (LD×LD×LD)
 | 0,_,_,_,_,_,_,_=>none
 | n+1,s,t,r,v,u,x,E=>
  Hs [.bool x] fun F=>DH 1 u F fun G=>AW (IntKind.wrap .i64 (r+1)) fun H=>O8 n s t H v E G
def TE:Nat->LD->Int->Int->LD->LD->LD->Int->BA->LD->Int->BA->LD->LD->Int->Int->BA->BA->BA->LD->LD->Int->Int->Bool->Option (LD×LD×LD)
 | 0,_,_,_,_,_,_,_,_,_,_,_,_,_,_,_,_,_,_,_,_,_,_,_=>none
 | n+1,s,t,r,v,w,u,b,a,c,d,e,f,g,h,i,j,k,l,m,o,p,q,y=>
  Aw (!y) fun I=>(if I=true then CO (.str a) [.int .u8 b,.str a,.list true 4 c,.int .u8 d,.str e,.list true 3 f,.list true 15 g,.int .u8 h,.int .i64 i,.str j,.str k,.str l,.list false 1 m,.list true 8 o,.int .i64 p,.int .i64 q] v fun J=>TF n s t r w u y J else TF n s t r w u y v)
def TF:Nat->LD->Int->Int->LD->LD->Bool->LD->Option (LD×LD×LD)
 | 0,_,_,_,_,_,_,_=>none
 | n+1,s,t,r,w,u,y,K=>
  Hs [.bool y] fun L=>DH 1 u L fun M=>AW (IntKind.wrap .i64 (r+1)) fun N=>O8 n s t N K w M
end
def F55 (n:Nat) (a:LD) (b:LD) (c:LD):Option (LD×LD×LD):=
 AP a fun d=>O8 n a d 0 b c ([]:LD)
noncomputable def X55:AH:=⟨55,Tryz.f55,true,[.p (.ext 0) 0,.agg [.q 16]],[.c [.ow (.ext 1),.ow (.ext 2),.nils true 2],.t (.fmap true) true 17,.t (.fmap true) true 17],[⟨.one (.w (.loc 0)),[.c [.ow (.ext 1),.ow (.ext 2),.nils true 2],.t (.fmap true) true 17,.t (.fmap true) true 17],[.l false 1]⟩],LD×LD×LD,ii,F55,.g [.treeS 5 false 1] [] .e,[⟨58,[0,4,5,12,13,14],[.ext 0,.ext 1,.ext 2,.loc 224],256,[.p (.ext 0) 0,.one (.nils false 1),.w (.loc 224),.q 16,.z,.z],[.c [.ow (.ext 1),.ow (.ext 2),.nils true 2],.t (.fmap true) true 17,.t (.fmap true) true 17,.l false 1],O8,.e⟩,
 ⟨29903,[0,4,5,7,8,10,12,13,14],[.ext 0,.ext 1,.ext 2,.loc 224,.loc 352],1152,[.p (.ext 0) 0,.one (.nils false 1),.w (.loc 224),.p (.loc 352) 0,.w (.ext 2),.b,.q 16,.z,.z],[.c [.ow (.ext 1),.ow (.ext 2),.nils true 2],.t (.fmap true) true 17,.t (.fmap true) true 17,.l false 1,.c [.y,.str,.q 4,.y,.str,.q 3,.q 15,.y,.z,.str,.str,.str,.f 1,.q 8,.z,.z]],fun n a d h i K L j k m o r s u v x A B C E F G H I=>TC n d h i K L j k m o r s u v x A B C E F G H I a,.e⟩,
 ⟨59807,[0,4,5,8,10,12,13,14],[.ext 0,.ext 1,.ext 2,.loc 224],1376,[.p (.ext 0) 0,.one (.nils false 1),.w (.loc 224),.w (.ext 2),.b,.q 16,.z,.z],[.c [.ow (.ext 1),.ow (.ext 2),.nils true 2],.t (.fmap true) true 17,.t (.fmap true) true 17,.l false 1],fun n a d h i K M j=>TD n d h i K j a M,.n 0 (.g [] [(1472,224)] .e)⟩,
 ⟨29903,[0,4,5,7,8,10,12,13,14],[.ext 0,.ext 1,.ext 2,.loc 224,.loc 352],992,[.p (.ext 0) 0,.one (.nils false 1),.w (.loc 224),.p (.loc 352) 0,.w (.ext 1),.b,.q 16,.z,.z],[.c [.ow (.ext 1),.ow (.ext 2),.nils true 2],.t (.fmap true) true 17,.t (.fmap true) true 17,.l false 1,.c [.y,.str,.q 4,.y,.str,.q 3,.q 15,.y,.z,.str,.str,.str,.f 1,.q 8,.z,.z]],fun n J d h i K L j k m o r s u v x A B C E F G H I=>TE n d h i K L j k m o r s u v x A B C E F G H I J,.e⟩,
 ⟨59807,[0,4,5,8,10,12,13,14],[.ext 0,.ext 1,.ext 2,.loc 224],1216,[.p (.ext 0) 0,.one (.nils false 1),.w (.loc 224),.w (.ext 1),.b,.q 16,.z,.z],[.c [.ow (.ext 1),.ow (.ext 2),.nils true 2],.t (.fmap true) true 17,.t (.fmap true) true 17,.l false 1],fun n J d h i N L j=>TF n d h i L j J N,.n 0 (.g [] [(1312,224)] .e)⟩],none,[]⟩
noncomputable def k55:Kz:=sg X55 [] Tryz.func55
def Bm (n:Nat) (d:Bool) (e:Int) (f:Int) (a:LD) (b:LD) (c:LD):Option (LD×LD×LD):=
 Aw (!d) fun g=>(if g=true then Hs [.agg [.int .i64 e,.int .i64 f]] fun h=>DH 16 c h fun i=>some (a,b,i)else some (a,b,c))
noncomputable def yG:AH:=⟨56,Tryz.f56,true,[.p (.ext 0) 0,.b,.z,.z],[.c [.ow (.ext 1),.ow (.ext 2),.ow (.ext 3)],.t (.fmap true) true 17,.t (.fmap true) true 17,.l true 2],[⟨.tup [],[.c [.ow (.ext 1),.ow (.ext 2),.ow (.loc 0)],.t (.fmap true) true 17,.t (.fmap true) true 17,.gone],[.l true 2]⟩],LD×LD×LD,ii,Bm,.b .e (.g [.move (.ext 3)] [] .e),[],none,[]⟩
noncomputable def KV:Kz:=sg yG [] Tryz.func56
mutual
def TG:Nat->LD->Int->LD->LD->LD->Bool->Option (LD×LD×LD)
 | 0,_,_,_,_,_,_=>none
 | n+1,a,b,g,h,i,q=>
  EK (Bm n q 60 b g h i) fun r s t=>AP a fun c=>O9 n a b c 0 r s t
def O9:Nat->LD->Int->Int->Int->LD->LD->LD->Option (LD×LD×LD)
 | 0,_,_,_,_,_,_,_=>none
 | n+1,a,b,c,e,j,k,l=>
  (if e<c then An a e fun u=>Fx u fun v w x=>EK (iR n v w x b j k l) fun y z A=>AW (IntKind.wrap .i64 (e+1)) fun B=>O9 n a b c B y z A else some (j,k,l))
def PA:Nat->LD->Int->Int->Int->LD->LD->LD->Option (LD×LD×LD)
 | 0,_,_,_,_,_,_,_=>none
 | n+1,a,b,d,f,m,o,p=>
  (if f<d then An a f fun C=>Fx C fun E F G=>EK (iR n E F G b m o p) fun H I J=>AW (IntKind.wrap .i64 (f+1)) fun K=>PA n a b d K H I J else some (m,o,p))
def iR:Nat->Int->BA->LD->Int->LD->LD->LD->Option (LD×LD×LD)
 | 0,_,_,_,_,_,_,_=>none
 | n+1,L,M,a,b,g,h,i=>
  (if L=4 then (findF true (.str M) g (fun N=>Bo N fun z9 O P Q R S T U V W X Y Z aa ab ac=>TG n a b g h i true) (TG n a b g h i false))else AP a fun d=>PA n a b d 0 g h i)
end
noncomputable def X58:AH:=⟨58,Tryz.f58,true,[.p (.ext 0) 0,.agg [.y,.str,.q 3],.z],[.c [.ow (.ext 1),.ow (.ext 2),.ow (.ext 3)],.t (.fmap true) true 17,.t (.fmap true) true 17,.l true 2],[⟨.tup [],[.c [.ow (.ext 1),.ow (.ext 2),.ow (.loc 0)],.t (.fmap true) true 17,.t (.fmap true) true 17,.gone],[.l true 2]⟩],LD×LD×LD,ii,iR,.b .e (.g [.move (.ext 3)] [] .e),[⟨53,[0,2,4,7],[.ext 0,.ext 1,.ext 2,.ext 3,.loc 0],544,[.p (.ext 0) 0,.z,.p (.loc 0) 0,.b],[.c [.ow (.ext 1),.ow (.ext 2),.ow (.ext 3)],.t (.fmap true) true 17,.t (.fmap true) true 17,.l true 2,.c [.y,.str,.q 3]],fun n a f w x A _ _ d=>TG n d a w x A f,.e⟩,
 ⟨30,[0,2,28,29,30],[.ext 0,.ext 1,.ext 2,.ext 3,.loc 640],800,[.p (.ext 0) 0,.z,.q 3,.z,.z],[.c [.ow (.ext 1),.ow (.ext 2),.ow (.loc 640)],.t (.fmap true) true 17,.t (.fmap true) true 17,.gone,.l true 2],fun n a d h i j k m=>O9 n d a h i j k m,.b (.n 0 (.g [] [(1056,640)] .e)) .e⟩,
 ⟨30,[0,2,28,29,30],[.ext 0,.ext 1,.ext 2,.ext 3,.loc 256],288,[.p (.ext 0) 0,.z,.q 3,.z,.z],[.c [.ow (.ext 1),.ow (.ext 2),.ow (.loc 256)],.t (.fmap true) true 17,.t (.fmap true) true 17,.gone,.l true 2],fun n a d o r s u v=>PA n d a o r s u v,.b (.n 0 (.g [] [(544,256)] .e)) .e⟩],none,[]⟩
theorem K58:Be Tryz.prog inv (EB [X58]):=gr [KV] ⟨ge Tryz.func58,trivial⟩
noncomputable def k58:Kz:=⟨X58.c,K58.1⟩
mutual
def TH:Nat->LD->Int->Int->Int->LD->LD->LD->LD->LD->Option (LD×LD×LD)
 | 0,_,_,_,_,_,_,_,_,_=>none
 | n+1,m,a,c,b,h,i,d,o,j=>
  (if b<c then An m b fun p=>Co p fun k e f g=>(findF false (.str k) o (fun q=>CH q fun r=>AW (IntKind.wrap .i64 (r+1)) fun s=>CO (.str k) [.int .i64 s] o fun t=>TJ n m a c b h i d j k e f g t) (CO (.str k) [.int .i64 1] o fun u=>TJ n m a c b h i d j k e f g u))else some (h,i,j))
def TJ:Nat->LD->Int->Int->Int->LD->LD->LD->LD->BA->Int->BA->LD->LD->Option (LD×LD×LD)
 | 0,_,_,_,_,_,_,_,_,_,_,_,_,_=>none
 | n+1,m,a,c,b,h,i,d,j,k,e,f,g,l=>
  (findF false (.str k) l (fun v=>CH v fun w=>(if w=1 then EK (Bm n true 60 a h i j) fun x y z=>PB n m a c b d e f g l x y z else EK (Bm n false 60 a h i j) fun A B C=>PB n m a c b d e f g l A B C)) (EK (Bm n false 60 a h i j) fun E F G=>PB n m a c b d e f g l E F G))
def PB:Nat->LD->Int->Int->Int->LD->Int->BA->LD->LD->LD->LD->LD->Option (LD×LD×LD)
 | 0,_,_,_,_,_,_,_,_,_,_,_,_=>none
 | n+1,m,a,c,b,d,e,f,g,l,H,I,J=>
  EK (iR n e f g a H I J) fun K L M=>AW (IntKind.wrap .i64 (b+1)) fun N=>TH n m a c N K L d l M
end
def F57 (n:Nat) (m:Int) (o:BA) (a:LD) (p:Int) (q:BA) (r:LD) (s:LD) (t:Int) (u:Int) (g:BA) (h:BA) (i:BA) (j:LD) (k:LD) (l:Int) (b:Int) (c:LD) (d:LD) (e:LD):Option (LD×LD×LD):=
 AP a fun f=>TH n a b f 0 c d a ([]:LD) e
noncomputable def X57:AH:=⟨57,Tryz.f57,true,[.p (.ext 0) 0,.agg [.y,.str,.q 4,.y,.str,.q 3,.q 15,.y,.z,.str,.str,.str,.f 1,.q 8,.z,.z]],[.c [.ow (.ext 1),.ow (.ext 2),.ow (.ext 3)],.t (.fmap true) true 17,.t (.fmap true) true 17,.l true 2],[⟨.tup [],[.c [.ow (.ext 1),.ow (.ext 2),.ow (.loc 0)],.t (.fmap true) true 17,.t (.fmap true) true 17,.gone],[.l true 2]⟩],LD×LD×LD,ii,F57,.g [.move (.ext 3)] [] .e,[⟨30,[0,3,4,9,10,11],[.ext 0,.ext 1,.ext 2,.ext 3,.loc 0,.loc 32,.loc 224],256,[.p (.ext 0) 0,.p (.loc 0) 0,.w (.loc 32),.q 4,.z,.z],[.c [.ow (.ext 1),.ow (.ext 2),.ow (.loc 224)],.t (.fmap true) true 17,.t (.fmap true) true 17,.gone,.c [.y,.str,.q 4,.y,.str,.q 3,.q 15,.y,.z,.str,.str,.str,.f 1,.q 8,.z,.z],.t (.fmap false) true 2,.l true 2],fun n u a b i j _ _ d _ _ _ _ _ _ _ _ _ _ _ _ h v k=>TH n u h a b i j d v k,.e⟩,
 ⟨3891,[0,3,4,6,9,10,11],[.ext 0,.ext 1,.ext 2,.ext 3,.loc 0,.loc 32,.loc 352,.loc 224],608,[.p (.ext 0) 0,.p (.loc 0) 0,.w (.loc 32),.p (.loc 352) 0,.q 4,.z,.z],[.c [.ow (.ext 1),.ow (.ext 2),.ow (.loc 224)],.t (.fmap true) true 17,.t (.fmap true) true 17,.gone,.c [.y,.str,.q 4,.y,.str,.q 3,.q 15,.y,.z,.str,.str,.str,.f 1,.q 8,.z,.z],.t (.fmap false) true 2,.c [.str,.y,.str,.q 3],.l true 2],fun n u a b i j _ _ d _ _ _ _ _ _ _ _ _ _ _ _ h m x o r s k=>TJ n u h a b i j d k x o r s m,.e⟩,
 ⟨7783,[0,3,4,6,9,10,11],[.ext 0,.ext 1,.ext 2,.ext 3,.loc 0,.loc 32,.loc 352,.loc 864],896,[.p (.ext 0) 0,.p (.loc 0) 0,.w (.loc 32),.p (.loc 352) 0,.q 4,.z,.z],[.c [.ow (.ext 1),.ow (.ext 2),.ow (.loc 864)],.t (.fmap true) true 17,.t (.fmap true) true 17,.gone,.c [.y,.str,.q 4,.y,.str,.q 3,.q 15,.y,.z,.str,.str,.str,.f 1,.q 8,.z,.z],.t (.fmap false) true 2,.c [.str,.y,.str,.q 3],.l true 2],fun n u a b A B _ _ d _ _ _ _ _ _ _ _ _ _ _ _ h m _ o r s C=>PB n u h a b d o r s m A B C,.n 0 (.g [] [(1056,224)] .e)⟩],none,[]⟩
noncomputable def k57:Kz:=sg X57 [KV,k58] Tryz.func57
def yH (n:Nat) (a:LD) (b:LD) (c:LD):Option (LD×LD×LD):=
 some (a,b,c)
noncomputable def X59:AH:=⟨59,Tryz.f59,false,[.p (.ext 0) 0],[.c [.ow (.ext 1),.ow (.ext 2),.ow (.ext 3)],.t (.fmap true) true 17,.t (.fmap true) true 17,.l true 2],[⟨.one (.p (.loc 0) 0),[.c [.ow (.ext 1),.ow (.ext 2),.ow (.ext 3)],.t (.fmap true) true 17,.t (.fmap true) true 17,.l true 2],[.c [.ptr (.ext 0) 0,.ow (.loc 1),.k 0,.k 0],.te (.fmap true) true 2]⟩],LD×LD×LD,ii,yH,.e,[],none,[]⟩
noncomputable def k59:Kz:=sg X59 [] Tryz.func59
def VH (n:Nat) (a:Bool) (b:BA) (c:Int) (d:Int) (e:LD) (f:LD) (g:LD) (h:LD):Option (Int×Int×LD×LD×LD×LD):=
 CO (.str b) [.bool a] h fun i=>some (c,d,e,f,g,i)
noncomputable def VI:AH:=⟨216,Tryz.f216,false,[.rp [.bool],.one (.fb (.ext 0)),.rp [.str]],[.c [.ptr (.ext 1) 0,.ow (.ext 5),.z,.z],.c [.ow (.ext 2),.ow (.ext 3),.ow (.ext 4)],.t (.fmap true) true 17,.t (.fmap true) true 17,.l true 2,.t (.fmap true) true 2],[⟨.tup [],[.c [.ptr (.ext 1) 0,.ow (.ext 5),.z,.z],.c [.ow (.ext 2),.ow (.ext 3),.ow (.ext 4)],.t (.fmap true) true 17,.t (.fmap true) true 17,.l true 2,.t (.fmap true) true 2],[]⟩],Int×Int×LD×LD×LD×LD,ii,VH,.e,[],none,[]⟩
theorem d216 (n:Nat):VI.c.Nd (U9 Tryz.prog inv) n:=sgD VI [] Tryz.func216 (by kernel_rfl) (by kernel_rfl) (by kernel_rfl) n
noncomputable def yI:Kz:=sg VI [] Tryz.func216
def M3:Nat->BA->Int->Int->Int->LD->LD->LD->LD->Bool->Bool->Option (Bool×BA×Int×Int×LD×LD×LD×LD)
 | 0,_,_,_,_,_,_,_,_,_,_=>none
 | n+1,i,j,k,l,m,o,p,q,a,b=>
  Aw (!a) fun c=>EK (Bm n c 60 j m o p) fun d e f=>CO (.str i) [.bool true] q fun g=>AW (IntKind.wrap .i64 (k+1)) fun h=>some (b,i,h,l,d,e,g,f)
def Qt (n:Nat) (a:BA) (d:Int) (e:Int) (f:Int) (g:LD) (h:LD) (i:LD) (b:LD):Option (Bool×BA×Int×Int×LD×LD×LD×LD):=
 (findF true (.str a) b (fun j=>Eu j fun c=>M3 n a d e f g h i b true c) (M3 n a d e f g h i b false false))
noncomputable def AEl:AH:=⟨148,Tryz.f148,false,[.p (.ext 0) 0,.s,.z],[.c [.ptr (.ext 1) 0,.ow (.ext 5),.z,.z],.c [.ow (.ext 2),.ow (.ext 3),.ow (.ext 4)],.t (.fmap true) true 17,.t (.fmap true) true 17,.l true 2,.t (.fmap true) true 2],[⟨.one (.fz 216 [.d (.bool),.p (.ext 0),.d (.str)]),[.c [.ptr (.ext 1) 0,.ow (.ext 5),.z,.z],.c [.ow (.ext 2),.ow (.ext 3),.ow (.loc 0)],.t (.fmap true) true 17,.t (.fmap true) true 17,.gone,.t (.fmap true) true 2],[.l true 2]⟩],Bool×BA×Int×Int×LD×LD×LD×LD,ii,Qt,.e,[⟨7,[2,3,4,6,7,8],[.ext 0,.ext 1,.ext 2,.ext 3,.ext 4,.ext 5,.loc 0,.loc 32,.loc 384],480,[.z,.p (.loc 0) 0,.p (.loc 32) 0,.one (.nilf),.p (.loc 384) 0,.b],[.c [.ptr (.ext 1) 0,.ow (.ext 5),.z,.z],.c [.ow (.ext 2),.ow (.ext 3),.ow (.ext 4)],.t (.fmap true) true 17,.t (.fmap true) true 17,.l true 2,.t (.fmap true) true 2,.c [.ptr (.ext 0) 0],.c [.str],.c [.bool]],fun n h a i j k m o q r f=>M3 n r h i j k m o q a f,.n 0 (.g [.cloz 6] [] .e)⟩],none,[]⟩
noncomputable def AEm:Kz:=sg AEl [KV] Tryz.func148
def VJ (n:Nat) (u:Int) (v:BA) (o:LD) (p:LD) (q:LD):Option (Int×BA×LD×Int×BA×LD×LD×Int×Int×BA×BA×BA×LD×LD×Int×Int×Bool×LD×LD×LD):=
 (findF true (.str v) o (fun w=>Bo w fun r s t a b c d e f g h i j k l m=>(if r=u then some (r,s,t,a,b,c,d,e,f,g,h,i,j,k,l,m,true,o,p,q)else some (r,s,t,a,b,c,d,e,f,g,h,i,j,k,l,m,false,o,p,q))) (some (0,ByteArray.empty,([]:LD),0,ByteArray.empty,([]:LD),([]:LD),0,0,ByteArray.empty,ByteArray.empty,ByteArray.empty,([]:LD),([]:LD),0,0,false,o,p,q)))
noncomputable def AEn:AH:=⟨149,Tryz.f149,false,[.p (.ext 0) 0,.y,.s],[.c [.ow (.ext 1),.ow (.ext 2),.ow (.ext 3)],.t (.fmap true) true 17,.t (.fmap true) true 17,.l true 2],[⟨.tup [.agg [.y,.str,.q 4,.y,.str,.q 3,.q 15,.y,.z,.str,.str,.str,.f 1,.q 8,.z,.z],.b],[.c [.ow (.ext 1),.ow (.ext 2),.ow (.loc 0)],.t (.fmap true) true 17,.t (.fmap true) true 17,.gone],[.l true 2]⟩],Int×BA×LD×Int×BA×LD×LD×Int×Int×BA×BA×BA×LD×LD×Int×Int×Bool×LD×LD×LD,ii,VJ,.g [.move (.ext 3)] [] .e,[],none,[]⟩
noncomputable def yJ:Kz:=sg AEn [] Tryz.func149
def Xd (n:Nat) (p:BA) (i:Int) (j:Int) (k:Int) (l:LD) (m:LD) (o:LD) (a:LD):Option (Int×Int×LD×LD×LD×LD):=
 (findF true (.str p) a (fun q=>Eu q fun b=>EK (Bm n b 60 i l m o) fun c d e=>some (j,k,c,d,a,e)) (EK (Bm n false 60 i l m o) fun f g h=>some (j,k,f,g,a,h)))
noncomputable def AEo:AH:=⟨150,Tryz.f150,false,[.p (.ext 0) 0,.s,.z],[.c [.ptr (.ext 1) 0,.ow (.ext 5),.z,.z],.c [.ow (.ext 2),.ow (.ext 3),.ow (.ext 4)],.t (.fmap true) true 17,.t (.fmap true) true 17,.l true 2,.t (.fmap true) true 2],[⟨.tup [],[.c [.ptr (.ext 1) 0,.ow (.ext 5),.z,.z],.c [.ow (.ext 2),.ow (.ext 3),.ow (.loc 0)],.t (.fmap true) true 17,.t (.fmap true) true 17,.gone,.t (.fmap true) true 2],[.l true 2]⟩],Int×Int×LD×LD×LD×LD,ii,Xd,.e,[],none,[]⟩
noncomputable def AEp:Kz:=sg AEo [KV] Tryz.func150
def M4:Nat->LD->BA->Int->Int->Option (BA×Int×BA×LD×Bool)
 | 0,_,_,_,_=>none
 | n+1,j,b,c,a=>
  (if a<c then An j a fun e=>Co e fun d f g h=>(if d=b then some (d,f,g,h,true)else AW (IntKind.wrap .i64 (a+1)) fun i=>M4 n j b c i)else some (ByteArray.empty,0,ByteArray.empty,([]:LD),false))
def Zo (n:Nat) (k:Int) (l:BA) (c:LD) (m:Int) (o:BA) (p:LD) (q:LD) (r:Int) (s:Int) (d:BA) (e:BA) (f:BA) (g:LD) (h:LD) (i:Int) (j:Int) (a:BA):Option (BA×Int×BA×LD×Bool):=
 AP c fun b=>M4 n c a b 0
noncomputable def AEq:AH:=⟨154,Tryz.f154,false,[.agg [.y,.str,.q 4,.y,.str,.q 3,.q 15,.y,.z,.str,.str,.str,.f 1,.q 8,.z,.z],.s],[],[⟨.tup [.agg [.str,.y,.str,.q 3],.b],[],[]⟩],BA×Int×BA×LD×Bool,ii,Zo,.e,[⟨26,[1,4,5,9,10,11],[.loc 32],224,[.s,.p (.loc 32) 0,.one (.cb false),.q 4,.z,.z],[.c [.cs ByteArray.empty,.ci .u8 0,.cs ByteArray.empty,.nils true 3]],fun n a h d g=>M4 n h a d g,.e⟩],none,[]⟩
noncomputable def yK:Kz:=sg AEq [] Tryz.func154
def M5:Nat->LD->LD->Int->Int->Option (Bool)
 | 0,_,_,_,_=>none
 | n+1,i,b,c,a=>
  (if a<c then An i a fun d=>Co d fun e j k l=>(findF false (.str e) b (fun f=>CH f fun g=>(if g=0 then some false else AW (IntKind.wrap .i64 (a+1)) fun h=>M5 n i b c h)) (some false))else some true)
mutual
def FB:Nat->Int->BA->LD->Int->BA->LD->LD->Int->Int->BA->BA->BA->LD->LD->Int->Int->LD->Int->Int->LD->Option (Bool)
 | 0,_,_,_,_,_,_,_,_,_,_,_,_,_,_,_,_,_,_,_,_=>none
 | n+1,s,t,o,u,v,w,x,y,z,c,d,e,f,g,h,i,j,k,a,p=>
  (if a<k then An j a fun A=>EA A fun b q R=>jZ (Zo n s t o u v w x y z c d e f g h i b) fun S m T U r=>(findF false (.str b) p (fun B=>CH B fun C=>AW (IntKind.wrap .i64 (C+1)) fun E=>CO (.str b) [.int .i64 E] p fun F=>M6 n s t o u v w x y z c d e f g h i j k a b q m r F) (CO (.str b) [.int .i64 1] p fun G=>M6 n s t o u v w x y z c d e f g h i j k a b q m r G))else AP o fun H=>M5 n o p H 0)
def M6:Nat->Int->BA->LD->Int->BA->LD->LD->Int->Int->BA->BA->BA->LD->LD->Int->Int->LD->Int->Int->BA->BA->Int->Bool->LD->Option (Bool)
 | 0,_,_,_,_,_,_,_,_,_,_,_,_,_,_,_,_,_,_,_,_,_,_,_,_=>none
 | n+1,s,t,o,u,v,w,x,y,z,c,d,e,f,g,h,i,j,k,a,b,q,m,r,l=>
  Aw (!r) fun I=>(if I=true then some false else (if q=ByteArray.empty then (if m=0 then (findF false (.str b) l (fun J=>CH J fun K=>(if 1<K then some false else AW (IntKind.wrap .i64 (a+1)) fun L=>FB n s t o u v w x y z c d e f g h i j k L l)) (AW (IntKind.wrap .i64 (a+1)) fun M=>FB n s t o u v w x y z c d e f g h i j k M l))else some false)else (if m=0 then some false else (findF false (.str b) l (fun N=>CH N fun O=>(if 1<O then some false else AW (IntKind.wrap .i64 (a+1)) fun P=>FB n s t o u v w x y z c d e f g h i j k P l)) (AW (IntKind.wrap .i64 (a+1)) fun Q=>FB n s t o u v w x y z c d e f g h i j k Q l)))))
end
def mA (n:Nat) (j:Int) (k:BA) (l:LD) (m:Int) (o:BA) (p:LD) (q:LD) (r:Int) (s:Int) (b:BA) (c:BA) (d:BA) (e:LD) (f:LD) (g:Int) (h:Int) (a:LD):Option (Bool):=
 AP a fun i=>FB n j k l m o p q r s b c d e f g h a i 0 ([]:LD)
noncomputable def AEr:AH:=⟨217,Tryz.f217,false,[.agg [.y,.str,.q 4,.y,.str,.q 3,.q 15,.y,.z,.str,.str,.str,.f 1,.q 8,.z,.z],.q 3],[],[⟨.one (.b),[],[]⟩],Bool,ii,mA,.e,[⟨58,[2,4,5,13,14,15],[.loc 0,.loc 64],224,[.p (.loc 0) 0,.one (.cb false),.w (.loc 64),.q 3,.z,.z],[.c [.y,.str,.q 4,.y,.str,.q 3,.q 15,.y,.z,.str,.str,.str,.f 1,.q 8,.z,.z],.t (.fmap false) true 2],fun n a d g u v s x A B C E F h i j k l m o r=>FB n u v s x A B C E F h i j k l m o a d g r,.e⟩,
 ⟨14951,[2,4,5,7,8,9,13,14,15],[.loc 0,.loc 64,.loc 320,.loc 608],896,[.p (.loc 0) 0,.one (.cb false),.w (.loc 64),.p (.loc 320) 0,.p (.loc 608) 0,.b,.q 3,.z,.z],[.c [.y,.str,.q 4,.y,.str,.q 3,.q 15,.y,.z,.str,.str,.str,.f 1,.q 8,.z,.z],.t (.fmap false) true 2,.c [.str,.str,.q 15],.c [.str,.y,.str,.q 3]],fun n G a d g u v s x A B C E F h i j k l m o H I J _ _ K _ _=>M6 n u v s x A B C E F h i j k l m o a d g I J K G H,.e⟩,
 ⟨122,[4,5,52,53,54],[.loc 64],384,[.one (.cb false),.w (.loc 64),.q 4,.z,.z],[.t (.fmap false) true 2],fun n s L M r=>M5 n s r L M,.e⟩],none,[]⟩
noncomputable def AEs:Kz:=sg AEr [yK] Tryz.func217
def tT (n:Nat):Option (Unit):=
 some ()
noncomputable def AEt:AH:=⟨218,Tryz.f218,false,[],[],[⟨.tup [],[],[]⟩],Unit,ii,tT,.e,[],none,[]⟩
noncomputable def AEu:Kz:=sg AEt [] Tryz.func218
def tU (n:Nat):Option (Unit):=
 some ()
noncomputable def AEv:AH:=⟨219,Tryz.f219,false,[],[],[⟨.tup [],[],[]⟩],Unit,ii,tU,.e,[],none,[]⟩
noncomputable def AEw:Kz:=sg AEv [] Tryz.func219
def M7:Nat->Int->Int->LD->LD->LD->LD->Bool->Option (Bool×Int×Int×LD×LD×LD×LD)
 | 0,_,_,_,_,_,_,_=>none
 | n+1,g,a,b,c,d,e,f=>
  some (f,g,a,c,d,b,e)
mutual
def M8:Nat->LD->LD->Int->Int->LD->LD->LD->LD->LD->Bool->Int->Option (Bool×Int×Int×LD×LD×LD×LD)
 | 0,_,_,_,_,_,_,_,_,_,_,_=>none
 | n+1,j,k,i,b,c,g,d,e,f,h,a=>
  AP k fun l=>(if a<l then (if h=true then An g a fun m=>Co m fun o t u v=>An j a fun p=>CG p fun q=>(if o=q then M9 n j k i b c g d e f a true else M9 n j k i b c g d e f a false)else M7 n i b c d e f h)else M7 n i b c d e f h)
def M9:Nat->LD->LD->Int->Int->LD->LD->LD->LD->LD->Int->Bool->Option (Bool×Int×Int×LD×LD×LD×LD)
 | 0,_,_,_,_,_,_,_,_,_,_,_=>none
 | n+1,j,k,i,b,c,g,d,e,f,a,r=>
  AW (IntKind.wrap .i64 (a+1)) fun s=>M8 n j k i b c g d e f r s
end
def Jz:Nat->LD->LD->Int->Int->LD->LD->LD->LD->LD->Bool->Option (Bool×Int×Int×LD×LD×LD×LD)
 | 0,_,_,_,_,_,_,_,_,_,_=>none
 | n+1,h,i,j,a,b,c,d,e,f,g=>
  M8 n h i j a b c d e f g 0
def mB (n:Nat) (q:Int) (z2:Int) (r:BA) (X:BA) (W:BA) (s:LD) (o:LD) (z8:Int) (f:Int) (b:Int) (d:LD) (c:LD) (e:LD) (a:LD):Option (Bool×Int×Int×LD×LD×LD×LD):=
 (if q=18 then (findF true (.str r) c (fun t=>Bo t fun Y Z u aa ab ac ad ae af ag ah ai aj ak al am=>AP u fun v=>AP o fun w=>(if v=w then some (true,f,b,d,c,a,e)else some (false,f,b,d,c,a,e))) (some (false,f,b,d,c,a,e)))else (if q=20 then Ww (VJ n 2 r d c e) fun x y z A B C E F G H I J K L M N O g h i=>jZ (Zo n x y z A B C E F G H I J K L M N X) fun an p ao aq P=>(if O=true then (if P=true then AP o fun Q=>(if 0<Q then (if p=0 then some (false,f,b,g,h,a,i)else some (true,f,b,g,h,a,i))else (if p=0 then some (true,f,b,g,h,a,i)else some (false,f,b,g,h,a,i)))else some (false,f,b,g,h,a,i))else some (false,f,b,g,h,a,i))else (if q=19 then Ww (VJ n 1 r d c e) fun ar au j av aw ax ay az aA aB aC aD aE aF aG aH R k l m=>(if R=true then AP j fun S=>AP o fun T=>(if S=T then Jz n s o f b a j k l m true else Jz n s o f b a j k l m false)else Jz n s o f b a j k l m false)else (if W=ByteArray.empty then some (true,f,b,d,c,a,e)else (findF true (.str W) a (fun U=>Eu U fun V=>some (V,f,b,d,c,a,e)) (some (false,f,b,d,c,a,e)))))))
noncomputable def AEx:AH:=⟨108,Tryz.f108,false,[.p (.ext 0) 0,.agg [.y,.z,.str,.str,.str,.f 1,.q 8,.z]],[.c [.ptr (.ext 1) 0,.ow (.ext 5),.z,.z],.c [.ow (.ext 2),.ow (.ext 3),.ow (.ext 4)],.t (.fmap true) true 17,.t (.fmap true) true 17,.l true 2,.t (.fmap true) true 2],[⟨.one (.b),[.c [.ptr (.ext 1) 0,.ow (.ext 5),.z,.z],.c [.ow (.ext 2),.ow (.ext 3),.ow (.loc 0)],.t (.fmap true) true 17,.t (.fmap true) true 17,.gone,.t (.fmap true) true 2],[.l true 2]⟩],Bool×Int×Int×LD×LD×LD×LD,ii,mB,.b (.g [.move (.ext 4)] [] .e) (.b .e (.b .e (.b .e (.b .e (.g [.move (.ext 4)] [] .e))))),[⟨6907,[0,3,4,11,12],[.ext 0,.ext 1,.ext 2,.ext 3,.ext 4,.ext 5,.loc 0,.loc 640,.loc 512],1088,[.p (.ext 0) 0,.p (.loc 0) 0,.one (.cb false),.p (.loc 640) 0,.b],[.c [.ptr (.ext 1) 0,.ow (.ext 5),.z,.z],.c [.ow (.ext 2),.ow (.ext 3),.ow (.loc 512)],.t (.fmap true) true 17,.t (.fmap true) true 17,.gone,.t (.fmap true) true 2,.c [.y,.z,.str,.str,.str,.f 1,.q 8,.z],.c [.y,.str,.q 4,.y,.str,.q 3,.q 15,.y,.z,.str,.str,.str,.f 1,.q 8,.z,.z],.l true 2],fun n u m a d h i _ _ _ _ _ r s _ _ _ k _ _ _ _ _ _ _ _ _ _ _ _ _ j=>Jz n r s m a i k d h j u,.e⟩,
 ⟨55258,[0,3,4,11,12,13],[.ext 0,.ext 1,.ext 2,.ext 3,.ext 4,.ext 5,.loc 0,.loc 640,.loc 512],1120,[.p (.ext 0) 0,.p (.loc 0) 0,.one (.cb false),.p (.loc 640) 0,.b,.z],[.c [.ptr (.ext 1) 0,.ow (.ext 5),.z,.z],.c [.ow (.ext 2),.ow (.ext 3),.ow (.loc 512)],.t (.fmap true) true 17,.t (.fmap true) true 17,.gone,.t (.fmap true) true 2,.c [.y,.z,.str,.str,.str,.f 1,.q 8,.z],.c [.y,.str,.q 4,.y,.str,.q 3,.q 15,.y,.z,.str,.str,.str,.f 1,.q 8,.z,.z],.l true 2],fun n v o m a d h i _ _ _ _ _ r s _ _ _ k _ _ _ _ _ _ _ _ _ _ _ _ _ j=>M8 n r s m a i k d h j v o,.e⟩,
 ⟨442067,[0,3,4,11,12,13],[.ext 0,.ext 1,.ext 2,.ext 3,.ext 4,.ext 5,.loc 0,.loc 640,.loc 512],1824,[.p (.ext 0) 0,.p (.loc 0) 0,.one (.cb false),.p (.loc 640) 0,.b,.z],[.c [.ptr (.ext 1) 0,.ow (.ext 5),.z,.z],.c [.ow (.ext 2),.ow (.ext 3),.ow (.loc 512)],.t (.fmap true) true 17,.t (.fmap true) true 17,.gone,.t (.fmap true) true 2,.c [.y,.z,.str,.str,.str,.f 1,.q 8,.z],.c [.y,.str,.q 4,.y,.str,.q 3,.q 15,.y,.z,.str,.str,.str,.f 1,.q 8,.z,.z],.l true 2],fun n w o m a d h i _ _ _ _ _ r s _ _ _ k _ _ _ _ _ _ _ _ _ _ _ _ _ j=>M9 n r s m a i k d h j o w,.e⟩,
 ⟨13815,[0,3,4,12],[.ext 0,.ext 1,.ext 2,.ext 3,.ext 4,.ext 5,.loc 0,.loc 512],1376,[.p (.ext 0) 0,.p (.loc 0) 0,.one (.cb false),.b],[.c [.ptr (.ext 1) 0,.ow (.ext 5),.z,.z],.c [.ow (.ext 2),.ow (.ext 3),.ow (.loc 512)],.t (.fmap true) true 17,.t (.fmap true) true 17,.gone,.t (.fmap true) true 2,.c [.y,.z,.str,.str,.str,.f 1,.q 8,.z],.l true 2],fun n x m a d h i _ _ _ _ _ _ _ _ j=>M7 n m a i d h j x,.e⟩],none,[]⟩
noncomputable def AEy:Kz:=sg AEx [yJ,yK] Tryz.func108
mutual
def PC:Nat->LD->Int->Int->Int->Int->LD->LD->LD->LD->Option (Int×Int×LD×LD×LD×LD)
 | 0,_,_,_,_,_,_,_,_,_=>none
 | n+1,d,a,b,e,f,g,h,i,j=>
  (if b<a then An d b fun k=>CQ k fun l m o p q r s t=>Kx (tV n l m o p q r s t e f g h j i) fun u v w x y z=>AW (IntKind.wrap .i64 (b+1)) fun A=>PC n d a A u v w x y z else some (e,f,g,h,i,j))
def tV:Nat->Int->Int->BA->BA->BA->LD->LD->Int->Int->Int->LD->LD->LD->LD->Option (Int×Int×LD×LD×LD×LD)
 | 0,_,_,_,_,_,_,_,_,_,_,_,_,_,_=>none
 | n+1,S,T,U,V,W,X,d,R,B,c,C,E,F,G=>
  qL (mB n S T U V W X d R B c C E F G) fun H I J K L M N=>Bs (I=B) (Bs (J=c) (EK (Bm n H 60 R K L N) fun O P Q=>AP d fun a=>PC n d a 0 B c O P M Q))
end
noncomputable def X62:AH:=⟨62,Tryz.f62,false,[.p (.ext 0) 0,.agg [.y,.z,.str,.str,.str,.f 1,.q 8,.z]],[.c [.ptr (.ext 1) 0,.ow (.ext 5),.z,.z],.c [.ow (.ext 2),.ow (.ext 3),.ow (.ext 4)],.t (.fmap true) true 17,.t (.fmap true) true 17,.l true 2,.t (.fmap true) true 2],[⟨.tup [],[.c [.ptr (.ext 1) 0,.ow (.ext 5),.z,.z],.c [.ow (.ext 2),.ow (.ext 3),.ow (.loc 0)],.t (.fmap true) true 17,.t (.fmap true) true 17,.gone,.t (.fmap true) true 2],[.l true 2]⟩],Int×Int×LD×LD×LD×LD,ii,tV,.g [] [(0,0)] .e,[⟨30,[0,17,18,19],[.ext 0,.ext 1,.ext 2,.ext 3,.ext 4,.ext 5,.loc 320],480,[.p (.ext 0) 0,.q 8,.z,.z],[.c [.ptr (.ext 1) 0,.ow (.ext 5),.z,.z],.c [.ow (.ext 2),.ow (.ext 3),.ow (.loc 320)],.t (.fmap true) true 17,.t (.fmap true) true 17,.gone,.t (.fmap true) true 2,.l true 2],PC,.b (.n 0 (.g [] [(704,320)] .e)) .e⟩],none,[]⟩
theorem K62:Be Tryz.prog inv (EB [X62]):=gr [AEy,KV] ⟨ge Tryz.func62,trivial⟩
noncomputable def k62:Kz:=⟨X62.c,K62.1⟩
mutual
def JB:Nat->LD->Int->Int->LD->Int->Int->LD->LD->LD->LD->Option (Int×Int×LD×LD×LD×LD)
 | 0,_,_,_,_,_,_,_,_,_,_=>none
 | n+1,E,B,z9,v,H,ag,q,b,P,Q=>
  (if z9<B then An E z9 fun aP=>Cp aP fun aQ aR ah d F ai T e aj f c I i ak al=>qL (Xe n aQ aR ah d F ai T e aj f c I i ak al H ag q b Q P) fun C r w s t j k=>AP j fun u=>JC n E B z9 C r w s t j k u 0 v else vX (tU n) (HP n v H ag q b P Q))
def JC:Nat->LD->Int->Int->Int->Int->LD->LD->LD->LD->LD->Int->Int->LD->Option (Int×Int×LD×LD×LD×LD)
 | 0,_,_,_,_,_,_,_,_,_,_,_,_,_=>none
 | n+1,E,B,z9,C,r,w,s,t,j,k,u,x,y=>
  (if x<u then Bs (0<=x/\x.toNat<j.length) (EJ j (x.toNat) fun U=>DI U fun am aS=>AW (IntKind.wrap .i64 (x+1)) fun an=>JC n E B z9 C r w s t j k u an (.agg [.bool am,.str aS]::y))else AW (IntKind.wrap .i64 (z9+1)) fun V=>JB n E B V y C r w s t k)
def HP:Nat->LD->Int->Int->LD->LD->LD->LD->Option (Int×Int×LD×LD×LD×LD)
 | 0,_,_,_,_,_,_,_=>none
 | n+1,ao,W,X,z,A,J,K=>
  Fe ao (some (W,X,z,A,J,K)) fun aT R=>DI aT fun aU aV=>Kx (VH n aU aV W X z A K J) fun az L ab ac aq M=>HP n R az L ab ac M aq
def V6:Nat->LD->Int->Int->LD->LD->LD->LD->Option (Int×Int×LD×LD×LD×LD)
 | 0,_,_,_,_,_,_,_=>none
 | n+1,E,z2,z3,o,l5,l6,Z=>
  AP E fun B=>JB n E B 0 ([]:LD) z2 z3 o l5 Z l6
def NA:Nat->LD->Int->LD->Int->Int->LD->Int->Int->LD->LD->LD->LD->Option (Int×Int×LD×LD×LD×LD)
 | 0,_,_,_,_,_,_,_,_,_,_,_,_=>none
 | n+1,E,z2,l3,aA,H,g,bj,bl,P,Q,bm,N=>
  (if H<aA then An l3 H fun ds=>CG ds fun ah=>kA (Qt n ah z2 bj bl P Q N bm) fun dt du ar l aW p f c=>AW (IntKind.wrap .i64 (H+1)) fun aX=>NA n E z2 l3 aA aX (.agg [.bool dt,.str du]::g) ar l aW p f c else Kx (V6 n E bj bl P Q N bm) fun aY dv aZ a0 a1 w=>J0 n g aY dv aZ a0 a1 w)
def J0:Nat->LD->Int->Int->LD->LD->LD->LD->Option (Int×Int×LD×LD×LD×LD)
 | 0,_,_,_,_,_,_,_=>none
 | n+1,s,aB,bn,k,Y,G,y=>
  Fe s (some (aB,bn,k,Y,G,y)) fun U a2=>DI U fun bo bp=>Kx (VH n bo bp aB bn k Y y G) fun V a3 au av z A=>J0 n a2 V a3 au av A z
def Nx:Nat->LD->Int->LD->Int->Int->LD->LD->LD->LD->Option (Int×Int×LD×LD×LD×LD)
 | 0,_,_,_,_,_,_,_,_,_=>none
 | n+1,E,z2,l3,z4,z5,l6,Z,l8,l9=>
  AP l3 fun aA=>NA n E z2 l3 aA 0 ([]:LD) z4 z5 l6 Z l9 l8
def IC:Nat->LD->Int->Int->Int->LD->LD->LD->LD->Option (Int×Int×LD×LD×LD×LD)
 | 0,_,_,_,_,_,_,_,_=>none
 | n+1,b,a,m,h,d,aC,aD,aE=>
  AP b fun L=>IE n b a L 0 m h aC aD d b aE
def IE:Nat->LD->Int->Int->Int->Int->Int->LD->LD->LD->LD->LD->Option (Int×Int×LD×LD×LD×LD)
 | 0,_,_,_,_,_,_,_,_,_,_,_=>none
 | n+1,b,a,L,aF,a4,aG,M,aw,a5,bq,aH=>
  (if aF<L then An b aF fun dw=>EA dw fun ek br bs=>(if br=ByteArray.empty then Kx (Nx n bs a ([]:LD) a4 aG M aw aH a5) fun dx dy ax dz dA a6=>AW (IntKind.wrap .i64 (aF+1)) fun dC=>IE n b a L dC dx dy ax dz dA bq a6 else Kx (Nx n bs a ([.str br]) a4 aG M aw aH a5) fun dD dE a7 a8 a9 ba=>AW (IntKind.wrap .i64 (aF+1)) fun dF=>IE n b a L dF dD dE a7 a8 a9 bq ba)else some (a4,aG,M,aw,a5,aH))
def mC:Nat->Int->BA->BA->LD->Int->BA->LD->Int->BA->LD->LD->LD->LD->LD->Int->Int->Int->LD->LD->LD->LD->Option (Int×Int×LD×LD×LD×LD)
 | 0,_,_,_,_,_,_,_,_,_,_,_,_,_,_,_,_,_,_,_,_,_=>none
 | n+1,O,s2,s3,o,z5,s6,Z,B,s9,v,S,g,q,b,a,m,h,N,ae,af,d=>
  Ww (VJ n 2 s3 N ae af) fun F ai T e aj f c aX aY dG dH dI a1 w dJ aB dK k Y G=>(findF true (.str s2) d (fun dL=>Eu dL fun dM=>(if dM=true then (if dK=true then Av (mA n F ai T e aj f c aX aY dG dH dI a1 w dJ aB b) fun am=>EK (Bm n am 60 a k Y G) fun bb dN dO=>IC n b a m h d bb dN dO else EK (Bm n false 60 a k Y G) fun ao au av=>IC n b a m h d ao au av)else EK (Bm n false 60 a k Y G) fun z A J=>IC n b a m h d z A J)) (EK (Bm n false 60 a k Y G) fun K bc R=>IC n b a m h d K bc R))
def JD:Nat->LD->Int->Int->LD->Int->Int->LD->LD->LD->LD->Option (Int×Int×LD×LD×LD×LD)
 | 0,_,_,_,_,_,_,_,_,_,_=>none
 | n+1,E,B,z9,v,H,ag,q,b,P,Q=>
  (if z9<B then An E z9 fun aP=>Cp aP fun aQ aR ah d F ai T e aj f c I i ak al=>qL (Xe n aQ aR ah d F ai T e aj f c I i ak al H ag q b Q P) fun C r w s t j k=>AP j fun u=>JE n E B z9 C r w s t j k u 0 v else vX (tT n) (HQ n v H ag q b P Q))
def JE:Nat->LD->Int->Int->Int->Int->LD->LD->LD->LD->LD->Int->Int->LD->Option (Int×Int×LD×LD×LD×LD)
 | 0,_,_,_,_,_,_,_,_,_,_,_,_,_=>none
 | n+1,E,B,z9,C,r,w,s,t,j,k,u,x,y=>
  (if x<u then Bs (0<=x/\x.toNat<j.length) (EJ j (x.toNat) fun U=>DI U fun am aS=>AW (IntKind.wrap .i64 (x+1)) fun an=>JE n E B z9 C r w s t j k u an (.agg [.bool am,.str aS]::y))else AW (IntKind.wrap .i64 (z9+1)) fun V=>JD n E B V y C r w s t k)
def HQ:Nat->LD->Int->Int->LD->LD->LD->LD->Option (Int×Int×LD×LD×LD×LD)
 | 0,_,_,_,_,_,_,_=>none
 | n+1,ao,W,X,z,A,J,K=>
  Fe ao (some (W,X,z,A,J,K)) fun aT R=>DI aT fun aU aV=>Kx (VH n aU aV W X z A K J) fun az L ab ac aq M=>HQ n R az L ab ac M aq
def V7:Nat->LD->Int->Int->LD->LD->LD->LD->Option (Int×Int×LD×LD×LD×LD)
 | 0,_,_,_,_,_,_,_=>none
 | n+1,E,z2,z3,o,l5,l6,Z=>
  AP E fun B=>JD n E B 0 ([]:LD) z2 z3 o l5 Z l6
def NB:Nat->LD->LD->Int->Int->Int->LD->LD->LD->LD->Option (Int×Int×LD×LD×LD×LD)
 | 0,_,_,_,_,_,_,_,_,_=>none
 | n+1,o,g,a,m,h,d,c,I,i=>
  EK (yH n c I i) fun ak aZ a0=>AP o fun r=>NC n o g a m h d r 0 ak aZ o 0 0 ([]:LD) a0
def NC:Nat->LD->LD->Int->Int->Int->LD->Int->Int->LD->LD->LD->Int->Int->LD->LD->Option (Int×Int×LD×LD×LD×LD)
 | 0,_,_,_,_,_,_,_,_,_,_,_,_,_,_,_=>none
 | n+1,o,g,a,m,h,d,r,bd,s,t,j,aK,u,G,y=>
  (if bd<r then An o bd fun U=>CG U fun dP=>kA (Qt n dP a aK u s t y G) fun bo bp V a3 au av z A=>AW (IntKind.wrap .i64 (bd+1)) fun dR=>NC n o g a m h d r dR au av j V a3 z A else Kx (V7 n g aK u s t y G) fun dT el R aC aD aE=>(if dT<=60 then EK (Bm n true 4 a R aC aE) fun dU ab ac=>some (m,h,dU,ab,d,ac)else EK (Bm n false 4 a R aC aE) fun aq M aw=>some (m,h,aq,M,d,aw)))
def mD:Nat->Int->BA->BA->LD->Int->BA->LD->Int->BA->LD->LD->LD->LD->LD->Int->Int->Int->LD->LD->LD->LD->Option (Int×Int×LD×LD×LD×LD)
 | 0,_,_,_,_,_,_,_,_,_,_,_,_,_,_,_,_,_,_,_,_,_=>none
 | n+1,O,s2,s3,o,z5,s6,Z,B,s9,v,S,g,q,b,a,m,h,N,ae,af,d=>
  (if 0<h then EK (Bm n true 61 a N ae af) fun dV dX T=>NB n o g a m h d dV dX T else EK (Bm n false 61 a N ae af) fun aW p f=>NB n o g a m h d aW p f)
def ND:Nat->Int->BA->BA->LD->Int->BA->LD->Int->BA->LD->LD->LD->LD->LD->Int->Int->Int->Int->Int->LD->LD->LD->LD->LD->Option (Int×Int×LD×LD×LD×LD×LD)
 | 0,_,_,_,_,_,_,_,_,_,_,_,_,_,_,_,_,_,_,_,_,_,_,_,_=>none
 | n+1,O,s2,s3,o,z5,s6,Z,B,s9,v,S,g,q,b,a,F,ar,l,e,p,f,c,I,i=>
  (if ar<F then An S ar fun dY=>CQ dY fun al C d0 d1 d2 t j aK=>Kx (tV n al C d0 d1 d2 t j aK l e p f i c) fun u x y d3 a2 bb=>AW (IntKind.wrap .i64 (ar+1)) fun an=>ND n O s2 s3 o z5 s6 Z B s9 v S g q b a F an u x y d3 a2 I bb else (if O=1 then kA (Qt n s2 a l e p f i c) fun d4 d5 W X z A J K=>DH 8 ([]:LD) ([.agg [.bool d4,.str d5]]) fun bc=>Dg n W X z A J bc K else (if O=2 then Ww (VJ n 1 s2 p f i) fun em en aD az eo ab ac aG ep eq er es aH et eu ev d6 be bf ax=>(if d6=true then AP aD fun d7=>AP o fun d8=>(if d7=d8 then EK (Bm n true 60 a be bf ax) fun a6 d9 ea=>J1 n o a l e c a6 d9 O ea else EK (Bm n false 60 a be bf ax) fun a7 a8 a9=>J1 n o a l e c a7 a8 O a9)else EK (Bm n false 60 a be bf ax) fun ba eb ec=>J1 n o a l e c ba eb O ec)else (if O=3 then Kx (Xd n s9 a l e p f i c) fun bt bu bv bw bx bz=>Dg n bt bu bv bw bx ([]:LD) bz else (if O=5 then Kx (Xd n s2 a l e p f i c) fun bA bB bC bD bE bF=>Dg n bA bB bC bD bE ([]:LD) bF else (if O=12 then EK (iR n z5 s6 Z a p f i) fun bG bH bI=>kA (Qt n s2 a l e bG bH bI c) fun bJ bK bL bM bN bO bP bQ=>kA (Qt n s3 a bL bM bN bO bQ bP) fun bR bT bU bV bW bX bY bZ=>DH 8 ([]:LD) ([.agg [.bool bJ,.str bK],.agg [.bool bR,.str bT]]) fun b0=>Dg n bU bV bW bX bY b0 bZ else (if O=8 then Kx (mC n O s2 s3 o z5 s6 Z B s9 v I g q b a l e p f i c) fun b1 b2 b3 b4 b5 b6=>Dg n b1 b2 b3 b4 b5 ([]:LD) b6 else (if O=10 then Kx (mD n O s2 s3 o z5 s6 Z B s9 v I g q b a l e p f i c) fun b7 b8 b9 ca cb cc=>Dg n b7 b8 b9 ca cb ([]:LD) cc else (if O=9 then AW (IntKind.wrap .i64 (e+1)) fun ce=>Kx (Nx n g a ([]:LD) l ce p f i c) fun cf cg ch ci cj ck=>AW (IntKind.wrap .i64 (cg - 1)) fun cl=>Dg n cf cl ch ci cj ([]:LD) ck else (if O=11 then Kx (Xd n s9 a l e p f i c) fun cm cn co cp cq cr=>Hs [.str s2] fun cs=>Kx (Nx n g a cs cm cn co cp cr cq) fun ct cu cv cw cx cy=>Dg n ct cu cv cw cx ([]:LD) cy else Kx (Nx n g a ([]:LD) l e p f i c) fun cz cA cB cC cD cE=>Kx (Nx n q a ([]:LD) cz cA cB cC cE cD) fun cF cG cH cI cJ cK=>Dg n cF cG cH cI cJ ([]:LD) cK))))))))))
def J1:Nat->LD->Int->Int->Int->LD->LD->LD->Int->LD->Option (Int×Int×LD×LD×LD×LD×LD)
 | 0,_,_,_,_,_,_,_,_,_=>none
 | n+1,o,a,l,e,c,ed,ee,ew,ef=>
  AP o fun aL=>NF n o a aL 0 l e ed ee c o ([]:LD) ef
def NF:Nat->LD->Int->Int->Int->Int->Int->LD->LD->LD->LD->LD->LD->Option (Int×Int×LD×LD×LD×LD×LD)
 | 0,_,_,_,_,_,_,_,_,_,_,_,_=>none
 | n+1,o,a,aL,bg,cM,cN,cO,cQ,cS,eg,cT,aO=>
  (if bg<aL then An o bg fun cU=>CG cU fun cV=>kA (Qt n cV a cM cN cO cQ aO cS) fun cW cX cY cZ da db dd de=>DH 8 cT ([.agg [.bool cW,.str cX]]) fun dg=>AW (IntKind.wrap .i64 (bg+1)) fun dh=>NF n o a aL dh cY cZ da db dd eg dg de else Dg n cM cN cO cQ cS cT aO)
def Dg:Nat->Int->Int->LD->LD->LD->LD->LD->Option (Int×Int×LD×LD×LD×LD×LD)
 | 0,_,_,_,_,_,_,_=>none
 | n+1,di,dj,dk,dl,dm,dn,dp=>
  some (di,dj,dk,dl,dm,dn,dp)
def Xe:Nat->Int->BA->BA->LD->Int->BA->LD->Int->BA->LD->LD->LD->LD->LD->Int->Int->Int->LD->LD->LD->LD->Option (Int×Int×LD×LD×LD×LD×LD)
 | 0,_,_,_,_,_,_,_,_,_,_,_,_,_,_,_,_,_,_,_,_,_=>none
 | n+1,O,s2,s3,o,z5,s6,Z,B,s9,v,S,g,q,b,a,m,h,N,ae,af,d=>
  AP S fun F=>ND n O s2 s3 o z5 s6 Z B s9 v S g q b a F 0 m h N ae d S af
end
noncomputable def pD:AH:=⟨60,Tryz.f60,false,[.p (.ext 0) 0,.q 15,.one (.fn 219 [])],[.c [.ptr (.ext 1) 0,.ow (.ext 5),.z,.z],.c [.ow (.ext 2),.ow (.ext 3),.ow (.ext 4)],.t (.fmap true) true 17,.t (.fmap true) true 17,.l true 2,.t (.fmap true) true 2],[⟨.tup [],[.c [.ptr (.ext 1) 0,.ow (.ext 5),.z,.z],.c [.ow (.ext 2),.ow (.ext 3),.ow (.loc 0)],.t (.fmap true) true 17,.t (.fmap true) true 17,.gone,.t (.fmap true) true 2],[.l true 2]⟩],Int×Int×LD×LD×LD×LD,ii,V6,.g [.move (.ext 4)] [] .e,[⟨10,[0,2,10,11,12,1000],[.ext 0,.ext 1,.ext 2,.ext 3,.ext 4,.ext 5,.loc 96],128,[.p (.ext 0) 0,.one (.fn 219 []),.q 15,.z,.z,.df 216 [.h,.p (.ext 0),.h]],[.c [.ptr (.ext 1) 0,.ow (.ext 5),.z,.z],.c [.ow (.ext 2),.ow (.ext 3),.ow (.loc 96)],.t (.fmap true) true 17,.t (.fmap true) true 17,.gone,.t (.fmap true) true 2,.l true 2],JB,.e⟩,
 ⟨2662,[0,2,10,11,12,18,19,20,1000],[.ext 0,.ext 1,.ext 2,.ext 3,.ext 4,.ext 5,.loc 352,.loc 353],448,[.p (.ext 0) 0,.one (.fn 219 []),.q 15,.z,.z,.w (.loc 352),.z,.z,.df 216 [.h,.p (.ext 0),.h]],[.c [.ptr (.ext 1) 0,.ow (.ext 5),.z,.z],.c [.ow (.ext 2),.ow (.ext 3),.ow (.loc 353)],.t (.fmap true) true 17,.t (.fmap true) true 17,.gone,.t (.fmap true) true 2,.n 216 [.h,.p (.ext 0),.h],.l true 2],fun n u v x a d f i j k m o r s=>JC n u v x i j k m o r s a d f,.b .e (.g [] [(353,96)] .e)⟩,
 ⟨0,[1000],[.ext 0,.ext 1,.ext 2,.ext 3,.ext 4,.ext 5,.loc 96],224,[.df 216 [.h,.p (.ext 0),.h]],[.c [.ptr (.ext 1) 0,.ow (.ext 5),.z,.z],.c [.ow (.ext 2),.ow (.ext 3),.ow (.loc 96)],.t (.fmap true) true 17,.t (.fmap true) true 17,.gone,.t (.fmap true) true 2,.l true 2],HP,.e⟩],some (216,[.h,.p (.ext 0),.h]),[VI.c]⟩
noncomputable def yL:AH:=⟨153,Tryz.f153,false,[.p (.ext 0) 0,.q 15,.z,.f 1],[.c [.ptr (.ext 1) 0,.ow (.ext 5),.z,.z],.c [.ow (.ext 2),.ow (.ext 3),.ow (.ext 4)],.t (.fmap true) true 17,.t (.fmap true) true 17,.l true 2,.t (.fmap true) true 2],[⟨.tup [],[.c [.ptr (.ext 1) 0,.ow (.ext 5),.z,.z],.c [.ow (.ext 2),.ow (.ext 3),.ow (.loc 0)],.t (.fmap true) true 17,.t (.fmap true) true 17,.gone,.t (.fmap true) true 2],[.l true 2]⟩],Int×Int×LD×LD×LD×LD,ii,Nx,.g [.move (.ext 4)] [] .e,[⟨10,[0,1,2,10,11,12,1000],[.ext 0,.ext 1,.ext 2,.ext 3,.ext 4,.ext 5,.loc 96],128,[.p (.ext 0) 0,.q 15,.z,.f 1,.z,.z,.df 216 [.h,.p (.ext 0),.h]],[.c [.ptr (.ext 1) 0,.ow (.ext 5),.z,.z],.c [.ow (.ext 2),.ow (.ext 3),.ow (.loc 96)],.t (.fmap true) true 17,.t (.fmap true) true 17,.gone,.t (.fmap true) true 2,.l true 2],NA,.b (.n 0 (.g [] [(352,96)] .e)) .e⟩,
 ⟨0,[1000],[.ext 0,.ext 1,.ext 2,.ext 3,.ext 4,.ext 5,.loc 224],256,[.df 216 [.h,.p (.ext 0),.h]],[.c [.ptr (.ext 1) 0,.ow (.ext 5),.z,.z],.c [.ow (.ext 2),.ow (.ext 3),.ow (.loc 224)],.t (.fmap true) true 17,.t (.fmap true) true 17,.gone,.t (.fmap true) true 2,.l true 2],J0,.e⟩],some (216,[.h,.p (.ext 0),.h]),[VI.c]⟩
noncomputable def yM:AH:=⟨151,Tryz.f151,false,[.p (.ext 0) 0,.agg [.y,.str,.str,.f 1,.y,.str,.q 3,.z,.str,.f 1,.q 8,.q 15,.q 15,.q 3,.z]],[.c [.ptr (.ext 1) 0,.ow (.ext 5),.z,.z],.c [.ow (.ext 2),.ow (.ext 3),.ow (.ext 4)],.t (.fmap true) true 17,.t (.fmap true) true 17,.l true 2,.t (.fmap true) true 2],[⟨.tup [],[.c [.ptr (.ext 1) 0,.ow (.ext 5),.z,.z],.c [.ow (.ext 2),.ow (.ext 3),.ow (.loc 0)],.t (.fmap true) true 17,.t (.fmap true) true 17,.gone,.t (.fmap true) true 2],[.l true 2]⟩],Int×Int×LD×LD×LD×LD,ii,mC,.e,[⟨15,[0,3],[.ext 0,.ext 1,.ext 2,.ext 3,.ext 4,.ext 5,.loc 0,.loc 1184],1216,[.p (.ext 0) 0,.p (.loc 0) 0],[.c [.ptr (.ext 1) 0,.ow (.ext 5),.z,.z],.c [.ow (.ext 2),.ow (.ext 3),.ow (.loc 1184)],.t (.fmap true) true 17,.t (.fmap true) true 17,.gone,.t (.fmap true) true 2,.c [.y,.str,.str,.f 1,.y,.str,.q 3,.z,.str,.f 1,.q 8,.q 15,.q 15,.q 3,.z],.l true 2],fun n h i j k m _ _ _ _ _ _ _ _ _ _ _ _ _ a d o=>IC n a d h i m j k o,.e⟩,
 ⟨62,[0,3,43,44,45],[.ext 0,.ext 1,.ext 2,.ext 3,.ext 4,.ext 5,.loc 0,.loc 1184],1344,[.p (.ext 0) 0,.p (.loc 0) 0,.q 3,.z,.z],[.c [.ptr (.ext 1) 0,.ow (.ext 5),.z,.z],.c [.ow (.ext 2),.ow (.ext 3),.ow (.loc 1184)],.t (.fmap true) true 17,.t (.fmap true) true 17,.gone,.t (.fmap true) true 2,.c [.y,.str,.str,.f 1,.y,.str,.q 3,.z,.str,.f 1,.q 8,.q 15,.q 15,.q 3,.z],.l true 2],fun n a r s u v w x A _ _ _ _ _ _ _ _ _ _ _ _ _ B d C=>IE n a d r s u v w x A B C,.b (.b (.b (.n 0 (.g [] [(1760,1184)] .e)) (.n 0 (.g [] [(1856,1184)] .e))) .e) .e⟩],none,[]⟩
noncomputable def pE:AH:=⟨60,Tryz.f60,false,[.p (.ext 0) 0,.q 15,.one (.fn 218 [])],[.c [.ptr (.ext 1) 0,.ow (.ext 5),.z,.z],.c [.ow (.ext 2),.ow (.ext 3),.ow (.ext 4)],.t (.fmap true) true 17,.t (.fmap true) true 17,.l true 2,.t (.fmap true) true 2],[⟨.tup [],[.c [.ptr (.ext 1) 0,.ow (.ext 5),.z,.z],.c [.ow (.ext 2),.ow (.ext 3),.ow (.loc 0)],.t (.fmap true) true 17,.t (.fmap true) true 17,.gone,.t (.fmap true) true 2],[.l true 2]⟩],Int×Int×LD×LD×LD×LD,ii,V7,.g [.move (.ext 4)] [] .e,[⟨10,[0,2,10,11,12,1000],[.ext 0,.ext 1,.ext 2,.ext 3,.ext 4,.ext 5,.loc 96],128,[.p (.ext 0) 0,.one (.fn 218 []),.q 15,.z,.z,.df 216 [.h,.p (.ext 0),.h]],[.c [.ptr (.ext 1) 0,.ow (.ext 5),.z,.z],.c [.ow (.ext 2),.ow (.ext 3),.ow (.loc 96)],.t (.fmap true) true 17,.t (.fmap true) true 17,.gone,.t (.fmap true) true 2,.l true 2],JD,.e⟩,
 ⟨2662,[0,2,10,11,12,18,19,20,1000],[.ext 0,.ext 1,.ext 2,.ext 3,.ext 4,.ext 5,.loc 352,.loc 353],448,[.p (.ext 0) 0,.one (.fn 218 []),.q 15,.z,.z,.w (.loc 352),.z,.z,.df 216 [.h,.p (.ext 0),.h]],[.c [.ptr (.ext 1) 0,.ow (.ext 5),.z,.z],.c [.ow (.ext 2),.ow (.ext 3),.ow (.loc 353)],.t (.fmap true) true 17,.t (.fmap true) true 17,.gone,.t (.fmap true) true 2,.n 216 [.h,.p (.ext 0),.h],.l true 2],fun n u v x a d f i j k m o r s=>JE n u v x i j k m o r s a d f,.b .e (.g [] [(353,96)] .e)⟩,
 ⟨0,[1000],[.ext 0,.ext 1,.ext 2,.ext 3,.ext 4,.ext 5,.loc 96],224,[.df 216 [.h,.p (.ext 0),.h]],[.c [.ptr (.ext 1) 0,.ow (.ext 5),.z,.z],.c [.ow (.ext 2),.ow (.ext 3),.ow (.loc 96)],.t (.fmap true) true 17,.t (.fmap true) true 17,.gone,.t (.fmap true) true 2,.l true 2],HQ,.e⟩],some (216,[.h,.p (.ext 0),.h]),[VI.c]⟩
noncomputable def yN:AH:=⟨152,Tryz.f152,false,[.p (.ext 0) 0,.agg [.y,.str,.str,.f 1,.y,.str,.q 3,.z,.str,.f 1,.q 8,.q 15,.q 15,.q 3,.z]],[.c [.ptr (.ext 1) 0,.ow (.ext 5),.z,.z],.c [.ow (.ext 2),.ow (.ext 3),.ow (.ext 4)],.t (.fmap true) true 17,.t (.fmap true) true 17,.l true 2,.t (.fmap true) true 2],[⟨.tup [],[.c [.ptr (.ext 1) 0,.ow (.ext 5),.z,.z],.c [.ow (.ext 2),.ow (.ext 3),.ow (.loc 0)],.t (.fmap true) true 17,.t (.fmap true) true 17,.gone,.t (.fmap true) true 2],[.l true 2]⟩],Int×Int×LD×LD×LD×LD,ii,mD,.e,[⟨7,[0,3],[.ext 0,.ext 1,.ext 2,.ext 3,.ext 4,.ext 5,.loc 0,.loc 384],416,[.p (.ext 0) 0,.p (.loc 0) 0],[.c [.ptr (.ext 1) 0,.ow (.ext 5),.z,.z],.c [.ow (.ext 2),.ow (.ext 3),.ow (.loc 384)],.t (.fmap true) true 17,.t (.fmap true) true 17,.gone,.t (.fmap true) true 2,.c [.y,.str,.str,.f 1,.y,.str,.q 3,.z,.str,.f 1,.q 8,.q 15,.q 15,.q 3,.z],.l true 2],fun n a d k m h _ _ _ o _ _ _ _ _ _ _ i _ _ j r=>NB n o i j a d h k m r,.e⟩,
 ⟨122,[0,3,4,25,26,27],[.ext 0,.ext 1,.ext 2,.ext 3,.ext 4,.ext 5,.loc 0,.loc 544,.loc 545,.loc 384],736,[.p (.ext 0) 0,.p (.loc 0) 0,.p (.loc 544) 0,.f 1,.z,.z],[.c [.ptr (.ext 1) 0,.ow (.ext 5),.z,.z],.c [.ow (.ext 2),.ow (.ext 3),.ow (.loc 384)],.t (.fmap true) true 17,.t (.fmap true) true 17,.gone,.t (.fmap true) true 2,.c [.y,.str,.str,.f 1,.y,.str,.q 3,.z,.str,.f 1,.q 8,.q 15,.q 15,.q 3,.z],.c [.ptr (.ext 1) 0,.ow (.loc 545),.z,.z],.t (.fmap true) true 2,.l true 2],fun n o s u a d v w h _ _ _ x _ _ _ _ _ _ _ i _ _ j A B C E=>NC n o i j a d h s u v w x A B C E,.b (.n 0 (.g [] [(992,384)] .e)) .e⟩],none,[]⟩
noncomputable def tW:AH:=⟨107,Tryz.f107,true,[.p (.ext 0) 0,.agg [.y,.str,.str,.f 1,.y,.str,.q 3,.z,.str,.f 1,.q 8,.q 15,.q 15,.q 3,.z]],[.c [.ptr (.ext 1) 0,.ow (.ext 5),.z,.z],.c [.ow (.ext 2),.ow (.ext 3),.ow (.ext 4)],.t (.fmap true) true 17,.t (.fmap true) true 17,.l true 2,.t (.fmap true) true 2],[⟨.one (.w (.loc 0)),[.c [.ptr (.ext 1) 0,.ow (.ext 5),.z,.z],.c [.ow (.ext 2),.ow (.ext 3),.ow (.loc 1)],.t (.fmap true) true 17,.t (.fmap true) true 17,.gone,.t (.fmap true) true 2],[.n 216 [.h,.p (.ext 0),.h],.l true 2]⟩],Int×Int×LD×LD×LD×LD×LD,ii,Xe,.g [.move (.ext 4)] [] .e,[⟨26,[0,3,4,13,14,15],[.ext 0,.ext 1,.ext 2,.ext 3,.ext 4,.ext 5,.loc 0,.loc 192],224,[.p (.ext 0) 0,.p (.loc 0) 0,.one (.nils false 1),.q 8,.z,.z],[.c [.ptr (.ext 1) 0,.ow (.ext 5),.z,.z],.c [.ow (.ext 2),.ow (.ext 3),.ow (.loc 192)],.t (.fmap true) true 17,.t (.fmap true) true 17,.gone,.t (.fmap true) true 2,.c [.y,.str,.str,.f 1,.y,.str,.q 3,.z,.str,.f 1,.q 8,.q 15,.q 15,.q 3,.z],.l true 2],fun n o r s d i u v j T U V k W X Y Z s9 x A B C E a F=>ND n T U V k W X Y Z s9 x o B C E a r s d i u v j A F,.b (.n 0 (.g [] [(448,192)] .e)) (.b .e (.b .e (.b .e (.b .e (.b .e (.b (.n 0 (.g [.fnlS 7 216 [.h,.p (.ext 0),.h]] [(768,672),(736,608)] .e)) (.b .e (.b (.n 0 (.g [.fnlS 7 216 [.h,.p (.ext 0),.h]] [(800,672),(768,608)] .e)) (.b .e (.b (.n 2 (.g [] [(1408,672),(1344,608)] .e)) (.b .e (.b (.n 0 (.g [.fnlS 7 216 [.h,.p (.ext 0),.h]] [(832,672),(800,608)] .e)) (.b .e (.b (.n 0 (.g [.fnlS 7 216 [.h,.p (.ext 0),.h]] [(896,672),(864,608)] .e)) (.b .e (.b (.n 0 (.g [.fnlS 7 216 [.h,.p (.ext 0),.h]] [(1568,672),(1280,608)] .e)) (.b .e (.b (.n 0 (.g [.freeze (.loc 1376)] [] (.g [.fnlS 7 216 [.h,.p (.ext 0),.h]] [(1440,672),(1408,608)] .e))) (.n 1 (.g [.fnlS 7 216 [.h,.p (.ext 0),.h]] [(1312,672),(1280,608)] .e))))))))))))))))))))⟩,
 ⟨7867,[0,3,4,7,24],[.ext 0,.ext 1,.ext 2,.ext 3,.ext 4,.ext 5,.loc 0,.loc 1408],1440,[.p (.ext 0) 0,.p (.loc 0) 0,.one (.nils false 1),.one (.nils false 1),.y],[.c [.ptr (.ext 1) 0,.ow (.ext 5),.z,.z],.c [.ow (.ext 2),.ow (.ext 3),.ow (.loc 1408)],.t (.fmap true) true 17,.t (.fmap true) true 17,.gone,.t (.fmap true) true 2,.c [.y,.str,.str,.f 1,.y,.str,.q 3,.z,.str,.f 1,.q 8,.q 15,.q 15,.q 3,.z],.l true 2],fun n _ d i G H j I _ _ k _ _ _ _ _ _ _ _ _ _ a J=>J1 n k a d i j G H I J,.g [.fnlS 7 216 [.h,.p (.ext 0),.h]] [] .e⟩,
 ⟨31470,[0,3,4,7,24,78,79,80],[.ext 0,.ext 1,.ext 2,.ext 3,.ext 4,.ext 5,.loc 0,.loc 1568,.loc 1408],1600,[.p (.ext 0) 0,.p (.loc 0) 0,.one (.nils false 1),.w (.loc 1568),.y,.f 1,.z,.z],[.c [.ptr (.ext 1) 0,.ow (.ext 5),.z,.z],.c [.ow (.ext 2),.ow (.ext 3),.ow (.loc 1408)],.t (.fmap true) true 17,.t (.fmap true) true 17,.gone,.t (.fmap true) true 2,.c [.y,.str,.str,.f 1,.y,.str,.q 3,.z,.str,.f 1,.q 8,.q 15,.q 15,.q 3,.z],.n 216 [.h,.p (.ext 0),.h],.l true 2],fun n _ k K L M N O P Q _ _ _ R _ _ _ _ _ _ _ _ _ _ a S m=>NF n k a K L M N O P Q R S m,.b (.n 1 (.g [] [(1952,1568),(1888,1408)] .e)) (.g [] [(1568,672),(1408,608)] .e)⟩,
 ⟨31,[4,7],[.ext 0,.ext 1,.ext 2,.ext 3,.ext 4,.ext 5,.loc 672,.loc 608],1632,[.one (.nils false 1),.w (.loc 672)],[.c [.ptr (.ext 1) 0,.ow (.ext 5),.z,.z],.c [.ow (.ext 2),.ow (.ext 3),.ow (.loc 608)],.t (.fmap true) true 17,.t (.fmap true) true 17,.gone,.t (.fmap true) true 2,.n 216 [.h,.p (.ext 0),.h],.l true 2],Dg,.e⟩],none,[]⟩
theorem yO:Be Tryz.prog inv (EB [pD,yL,yM,pE,yN,tW]):=grD [AEm,yJ,AEp,yI,AEs,AEu,AEw,KV,k58,k59,k62] d216 (by simp[pD,yL,yM,pE,yN,tW]) ⟨⟨Tryz.func60,by kernel_rfl,by kernel_rfl,by kernel_rfl⟩,⟨Tryz.func153,by kernel_rfl,by kernel_rfl,by kernel_rfl⟩,⟨Tryz.func151,by kernel_rfl,by kernel_rfl,by kernel_rfl⟩,⟨Tryz.func60,by kernel_rfl,by kernel_rfl,by kernel_rfl⟩,⟨Tryz.func152,by kernel_rfl,by kernel_rfl,by kernel_rfl⟩,⟨Tryz.func107,by kernel_rfl,by kernel_rfl,by kernel_rfl⟩,trivial⟩
noncomputable def AEz:Kz:=⟨tW.c,yO.2.2.2.2.2.1⟩
def F61 (n:Nat) (u:Int) (v:Int) (w:LD) (x:LD) (y:LD) (z:LD) (A:Int) (B:BA) (C:LD) (i:Int) (j:BA) (k:LD) (l:LD) (a:Int) (b:Int) (c:BA) (d:BA) (e:BA) (f:LD) (g:LD) (h:Int) (m:Int):Option (Int×Int×LD×LD×LD×Int×BA×LD×Int×BA×LD×LD×Int×Int×BA×BA×BA×LD×LD×Int×Int×LD):=
 Kx (tV n a b c d e f g h u v w x y z) fun o p q r s t=>some (o,p,q,r,s,A,B,C,i,j,k,l,a,b,c,d,e,f,g,h,m,t)
noncomputable def X61:AH:=⟨61,Tryz.f61,false,[.p (.ext 0) 0,.p (.ext 7) 0],[.c [.ptr (.ext 1) 0],.c [.ptr (.ext 2) 0,.ow (.ext 6),.z,.z],.c [.ow (.ext 3),.ow (.ext 4),.ow (.ext 5)],.t (.fmap true) true 17,.t (.fmap true) true 17,.l true 2,.t (.fmap true) true 2,.c [.y,.str,.q 4,.y,.str,.q 3,.q 15,.y,.z,.str,.str,.str,.f 1,.q 8,.z,.z]],[⟨.tup [],[.c [.ptr (.ext 1) 0],.c [.ptr (.ext 2) 0,.ow (.ext 6),.z,.z],.c [.ow (.ext 3),.ow (.ext 4),.ow (.loc 0)],.t (.fmap true) true 17,.t (.fmap true) true 17,.gone,.t (.fmap true) true 2,.c [.y,.str,.q 4,.y,.str,.q 3,.q 15,.y,.z,.str,.str,.str,.f 1,.q 8,.z,.z]],[.l true 2]⟩],Int×Int×LD×LD×LD×Int×BA×LD×Int×BA×LD×LD×Int×Int×BA×BA×BA×LD×LD×Int×Int×LD,ii,F61,.e,[],none,[]⟩
noncomputable def k61:Kz:=sg X61 [k62] Tryz.func61
def PD:Nat->LD->Int->Int->LD->LD->LD->Int->BA->LD->Int->BA->LD->LD->Int->Int->BA->BA->BA->LD->LD->Int->Int->LD->Option (Int×Int×LD×LD×LD×Int×BA×LD×Int×BA×LD×LD×Int×Int×BA×BA×BA×LD×LD×Int×Int×LD)
 | 0,_,_,_,_,_,_,_,_,_,_,_,_,_,_,_,_,_,_,_,_,_,_,_=>none
 | n+1,I,j,k,l,m,o,p,q,r,s,t,u,v,w,a,b,c,d,e,f,g,h,i=>
  Fe I (some (j,k,l,m,o,p,q,r,s,t,u,v,w,a,b,c,d,e,f,g,h,i)) fun x y=>DI x fun z A=>Kx (VH n z A j k l m i o) fun B C E F G H=>PD n y B C E F H p q r s t u v w a b c d e f g h G
mutual
def TK:Nat->LD->Int->BA->LD->Int->BA->LD->LD->Int->Int->BA->BA->BA->LD->LD->Int->Int->Int->Int->LD->Int->Int->LD->LD->LD->LD->Option (Int×Int×LD×LD×LD×Int×BA×LD×Int×BA×LD×LD×Int×Int×BA×BA×BA×LD×LD×Int×Int×LD)
 | 0,_,_,_,_,_,_,_,_,_,_,_,_,_,_,_,_,_,_,_,_,_,_,_,_,_,_=>none
 | n+1,A,B,C,c,d,e,f,g,h,i,j,k,l,m,o,p,q,r,a,E,F,G,H,I,J,K=>
  (if a<r then An A a fun M=>Cp M fun N O P Q R S T U V W X Y Z aa ab=>qL (Xe n N O P Q R S T U V W X Y Z aa ab F G H I K J) fun t u v w x b y=>AP b fun z=>TL n A B C c d e f g h i j k l m o p q r a t u v w x b y z 0 E else kC (F61 n F G H I K J B C c d e f g h i j k l m o p q) fun ac ad ae af ag ah ai aj ak al am an ao aq ar au av aw ax ay az aA=>PD n E ac ad ae af ag ah ai aj ak al am an ao aq ar au av aw ax ay az aA)
def TL:Nat->LD->Int->BA->LD->Int->BA->LD->LD->Int->Int->BA->BA->BA->LD->LD->Int->Int->Int->Int->Int->Int->LD->LD->LD->LD->LD->Int->Int->LD->Option (Int×Int×LD×LD×LD×Int×BA×LD×Int×BA×LD×LD×Int×Int×BA×BA×BA×LD×LD×Int×Int×LD)
 | 0,_,_,_,_,_,_,_,_,_,_,_,_,_,_,_,_,_,_,_,_,_,_,_,_,_,_,_,_,_=>none
 | n+1,A,B,C,c,d,e,f,g,h,i,j,k,l,m,o,p,q,r,a,t,u,v,w,x,b,y,z,s,L=>
  (if s<z then Bs (0<=s/\s.toNat<b.length) (EJ b (s.toNat) fun aB=>DI aB fun aC aD=>AW (IntKind.wrap .i64 (s+1)) fun aE=>TL n A B C c d e f g h i j k l m o p q r a t u v w x b y z aE (.agg [.bool aC,.str aD]::L))else AW (IntKind.wrap .i64 (a+1)) fun aF=>TK n A B C c d e f g h i j k l m o p q r aF L t u v w x y)
end
def F60 (n:Nat) (q:LD) (r:Int) (s:Int) (t:LD) (u:LD) (v:LD) (w:LD) (x:Int) (y:BA) (a:LD) (b:Int) (c:BA) (d:LD) (e:LD) (f:Int) (g:Int) (h:BA) (i:BA) (j:BA) (k:LD) (l:LD) (m:Int) (o:Int):Option (Int×Int×LD×LD×LD×Int×BA×LD×Int×BA×LD×LD×Int×Int×BA×BA×BA×LD×LD×Int×Int×LD):=
 AP q fun p=>TK n q x y a b c d e f g h i j k l m o p 0 ([]:LD) r s t u w v
noncomputable def X60:AH:=⟨60,Tryz.f60,false,[.p (.ext 0) 0,.q 15,.one (.fn 61 [.ext 6,.ext 7])],[.c [.ptr (.ext 1) 0,.ow (.ext 5),.z,.z],.c [.ow (.ext 2),.ow (.ext 3),.ow (.ext 4)],.t (.fmap true) true 17,.t (.fmap true) true 17,.l true 2,.t (.fmap true) true 2,.c [.ptr (.ext 0) 0],.c [.y,.str,.q 4,.y,.str,.q 3,.q 15,.y,.z,.str,.str,.str,.f 1,.q 8,.z,.z]],[⟨.tup [],[.c [.ptr (.ext 1) 0,.ow (.ext 5),.z,.z],.c [.ow (.ext 2),.ow (.ext 3),.ow (.loc 0)],.t (.fmap true) true 17,.t (.fmap true) true 17,.gone,.t (.fmap true) true 2,.c [.ptr (.ext 0) 0],.c [.y,.str,.q 4,.y,.str,.q 3,.q 15,.y,.z,.str,.str,.str,.f 1,.q 8,.z,.z]],[.l true 2]⟩],Int×Int×LD×LD×LD×Int×BA×LD×Int×BA×LD×LD×Int×Int×BA×BA×BA×LD×LD×Int×Int×LD,ii,F60,.g [.move (.ext 4)] [] .e,[⟨10,[0,2,10,11,12,1000],[.ext 0,.ext 1,.ext 2,.ext 3,.ext 4,.ext 5,.ext 6,.ext 7,.loc 96],128,[.p (.ext 0) 0,.one (.fn 61 [.ext 6,.ext 7]),.q 15,.z,.z,.df 216 [.h,.p (.ext 0),.h]],[.c [.ptr (.ext 1) 0,.ow (.ext 5),.z,.z],.c [.ow (.ext 2),.ow (.ext 3),.ow (.loc 96)],.t (.fmap true) true 17,.t (.fmap true) true 17,.gone,.t (.fmap true) true 2,.c [.ptr (.ext 0) 0],.c [.y,.str,.q 4,.y,.str,.q 3,.q 15,.y,.z,.str,.str,.str,.f 1,.q 8,.z,.z],.l true 2],fun n F a d G H I J K L M N i j k m o r s u v x A B C E O=>TK n F M N i j k m o r s u v x A B C E a d G H I J K L O,.e⟩,
 ⟨2662,[0,2,10,11,12,18,19,20,1000],[.ext 0,.ext 1,.ext 2,.ext 3,.ext 4,.ext 5,.ext 6,.ext 7,.loc 352,.loc 353],448,[.p (.ext 0) 0,.one (.fn 61 [.ext 6,.ext 7]),.q 15,.z,.z,.w (.loc 352),.z,.z,.df 216 [.h,.p (.ext 0),.h]],[.c [.ptr (.ext 1) 0,.ow (.ext 5),.z,.z],.c [.ow (.ext 2),.ow (.ext 3),.ow (.loc 353)],.t (.fmap true) true 17,.t (.fmap true) true 17,.gone,.t (.fmap true) true 2,.c [.ptr (.ext 0) 0],.c [.y,.str,.q 4,.y,.str,.q 3,.q 15,.y,.z,.str,.str,.str,.f 1,.q 8,.z,.z],.n 216 [.h,.p (.ext 0),.h],.l true 2],fun n F a d P Q R S T U V W M N i j k m o r s u v x A B C E X Y=>TL n F M N i j k m o r s u v x A B C E a d S T U V W X Y P Q R,.b .e (.g [] [(353,96)] .e)⟩,
 ⟨0,[1000],[.ext 0,.ext 1,.ext 2,.ext 3,.ext 4,.ext 5,.ext 6,.ext 7,.loc 192],224,[.df 216 [.h,.p (.ext 0),.h]],[.c [.ptr (.ext 1) 0,.ow (.ext 5),.z,.z],.c [.ow (.ext 2),.ow (.ext 3),.ow (.loc 192)],.t (.fmap true) true 17,.t (.fmap true) true 17,.gone,.t (.fmap true) true 2,.c [.ptr (.ext 0) 0],.c [.y,.str,.q 4,.y,.str,.q 3,.q 15,.y,.z,.str,.str,.str,.f 1,.q 8,.z,.z],.l true 2],PD,.e⟩],some (216,[.h,.p (.ext 0),.h]),[VI.c]⟩
noncomputable def k60:Kz:=sgF X60 [AEz,yI,k61] d216 rfl Tryz.func60 (by kernel_rfl) (by kernel_rfl) (by kernel_rfl)
def F63 (n:Nat) (b:LD) (a:LD) (c:LD):Option (LD×LD×LD):=
 (findF true (.str E4) a (fun r=>Bo r fun G H s t I u v w x y z A B C E F=>AP s fun d=>(if d=0 then (if t=1 then EK (Bm n true 62 0 b a c) fun e f g=>some (e,f,g)else EK (Bm n false 62 0 b a c) fun h i j=>some (h,i,j))else EK (Bm n false 62 0 b a c) fun k l m=>some (k,l,m))) (EK (Bm n false 62 0 b a c) fun o p q=>some (o,p,q)))
noncomputable def X63:AH:=⟨63,Tryz.f63,false,[.p (.ext 0) 0],[.c [.ow (.ext 1),.ow (.ext 2),.ow (.ext 3)],.t (.fmap true) true 17,.t (.fmap true) true 17,.l true 2],[⟨.tup [],[.c [.ow (.ext 1),.ow (.ext 2),.ow (.loc 0)],.t (.fmap true) true 17,.t (.fmap true) true 17,.gone],[.l true 2]⟩],LD×LD×LD,ii,F63,.e,[],none,[]⟩
noncomputable def k63:Kz:=sg X63 [KV] Tryz.func63
mutual
def NG:Nat->LD->LD->Int->Int->LD->LD->LD->Option LD
 | 0,_,_,_,_,_,_,_=>none
 | n+1,x,w,y,h,B,C,E=>
  (if h<y then An x h fun N=>Bo N fun c i a d e f g j k l m o p q r b=>Bs (0<=h/\h.toNat<w.length) (EJ w (h.toNat) fun O=>Iv O fun P=>Aw (!P) fun Q=>EK (Bm n Q 60 b B C E) fun R S T=>EK (F57 n c i a d e f g j k l m o p q r b R S T) fun F G H=>(if c=3 then EK (iR n d e f b F G H) fun U V W=>EK (yH n U V W) fun s t u=>AP a fun v=>TM n x w y h c i a d e f g j k l m o p q r b s t u v 0 a ([]:LD)else AW (IntKind.wrap .i64 (h+1)) fun X=>NG n x w y X F G H))else EK (F63 n B C E) fun an ao Y=>some Y)
def TM:Nat->LD->LD->Int->Int->Int->BA->LD->Int->BA->LD->LD->Int->Int->BA->BA->BA->LD->LD->Int->Int->LD->LD->LD->Int->Int->LD->LD->Option LD
 | 0,_,_,_,_,_,_,_,_,_,_,_,_,_,_,_,_,_,_,_,_,_,_,_,_,_,_,_=>none
 | n+1,x,w,y,h,c,i,a,d,e,f,g,j,k,l,m,o,p,q,r,b,s,t,u,v,z,A,I=>
  (if z<v then An a z fun Z=>Co Z fun aa aq ar au=>CO (.str aa) [.bool true] I fun ab=>AW (IntKind.wrap .i64 (z+1)) fun ac=>TM n x w y h c i a d e f g j k l m o p q r b s t u v ac A ab else AP A fun ad=>kC (F60 n g ad 0 s t u I c i A d e f g j k l m o p q r b) fun ae av J K aw ax ay az aA aB aC aD aE aF aG aH aI aJ aK aL L M=>(if ae<=60 then EK (Bm n true 4 L J K M) fun af ag ah=>AW (IntKind.wrap .i64 (h+1)) fun ai=>NG n x w y ai af ag ah else EK (Bm n false 4 L J K M) fun aj ak al=>AW (IntKind.wrap .i64 (h+1)) fun am=>NG n x w y am aj ak al))
end
def F20 (n:Nat) (a:LD):Option LD:=
 Av (F54 n a) fun b=>Aw (!b) fun c=>(if c=true then Hs [.agg [.int .i64 2,.int .i64 0]] fun d=>some d else EK (F55 n a ([]:LD) ([]:LD)) fun e f g=>AP a fun h=>NG n a g h 0 e f ([]:LD))
noncomputable def X20:AH:=⟨20,Tryz.f20,true,[.agg [.q 16]],[],[⟨.one (.w (.loc 0)),[],[.l true 2]⟩],LD,ii,F20,.n 0 (.b (.b .e (.n 0 (.g [.treeC (.loc 256) 2 true 2] [] .e))) .e),[⟨250,[2,3,4,23,24,25],[.loc 256,.loc 160,.loc 192,.loc 576,.loc 384],608,[.one (.nils true 2),.p (.loc 256) 0,.w (.loc 384),.q 16,.z,.z],[.c [.ow (.loc 160),.ow (.loc 192),.ow (.loc 576)],.t (.fmap true) true 17,.t (.fmap true) true 17,.l true 2,.l false 1],fun n a d h i j m o=>NG n a o d h i j m,.b (.n 1 (.b (.b .e (.g [] [(1184,576)] .e)) .e)) .e⟩,
 ⟨8205274,[2,3,4,6,7,23,24,25,54,55,56],[.loc 256,.loc 160,.loc 192,.loc 1472,.loc 384,.loc 736,.loc 1568,.loc 1536,.loc 1537],1760,[.one (.nils true 2),.p (.loc 256) 0,.w (.loc 384),.p (.loc 736) 0,.p (.loc 1568) 0,.q 16,.z,.z,.q 4,.z,.z],[.c [.ow (.loc 160),.ow (.loc 192),.ow (.loc 1472)],.t (.fmap true) true 17,.t (.fmap true) true 17,.l true 2,.l false 1,.c [.y,.str,.q 4,.y,.str,.q 3,.q 15,.y,.z,.str,.str,.str,.f 1,.q 8,.z,.z],.c [.ptr (.loc 1536) 0],.c [.ptr (.loc 256) 0,.ow (.loc 1537),.k 0,.k 0],.t (.fmap true) true 2],fun n a d h r s u v x A o B C E F G H I J K L M N O P Q R S=>TM n a o d h B C r F G H I J K L M N O P Q R v x A s u E S,.b .e (.n 1 (.g [] [(2432,576)] .e))⟩],none,[]⟩
noncomputable def k20:Kz:=sg X20 [k55,k54,KV,k57,k58,k59,k60,k63] Tryz.func20
end Go.Proofs.YtjfmnfncmfepnaaGreatDoor
end
