/- LowerMay. No condition. (Part 7.) -/
import Derived.Carry
import Derived.ChangeSame
import Derived.ChangeOld
import Derived.ChangeCalls
import Derived.WideShapes
import Derived.Test.YtjfmnfncmfepnaaGreatDoorRows
import Derived.Test.YtjfmnfncmfepnaaGreatDoorTie
import Derived.Test.YtjfmnfncmfepnaaGreatDoorCards
import Derived.JoinedOf
import Derived.JoinedAt
import Derived.RowKit
import Derived.RowKit2
import Derived.ReadAgain
import Derived.ChangeAlike
import Derived.Lay
import Derived.Handed
import Derived.LaidSub
import Derived.LaidLaws
import Derived.LaidHandle
import Derived.MakeChecks
import Derived.SevenTiedAt
import Derived.Lib.LaidTab
import Derived.Lib.LaidU8
import Derived.Test.YtjfmnfncmfepnaaGreatDoorLowF
set_option linter.unusedVariables false
set_option linter.unusedSimpArgs false
set_option linter.unusedSectionVars false
set_option maxRecDepth 100000
set_option maxHeartbeats 40000000
set_option linter.unusedVariables false
noncomputable section
namespace Go.Proofs.YtjfmnfncmfepnaaGreatDoor
open Go Go.AM
def pI:Nat->Int->BA->Bool->Bool->Bool->BA->LD->LD->Option (BA)
 | 0,_,_,_,_,_,_,_,_=>none
 | n+1,k,l,a,b,c,d,e,m=>
  Av (zY n e xG) fun f=>Av (mY n a f d) fun g=>Av (zX n k 10) fun h=>Av (mY n b h g) fun i=>Av (mY n c l i) fun j=>some j
def Z3:Nat->LD->Int->BA->Bool->Bool->Bool->BA->Int->Int->LD->LD->Option (BA)
 | 0,_,_,_,_,_,_,_,_,_,_,_=>none
 | n+1,p,q,r,b,c,d,e,f,a,g,h=>
  (if a<f then An p a fun i=>CH i fun j=>Av (oJ n j) fun k=>Hs [.str k] fun l=>DH 16 h l fun m=>AW (IntKind.wrap .i64 (a+1)) fun o=>Z3 n p q r b c d e f o g m else pI n q r b c d e h g)
def Z4:Nat->LD->Int->BA->Bool->Bool->Bool->BA->Option (BA)
 | 0,_,_,_,_,_,_,_=>none
 | n+1,a,g,h,b,c,d,e=>
  AP a fun f=>Z3 n a g h b c d e f 0 a ([]:LD)
def Z5:Nat->Int->LD->LD->Int->BA->Int->Bool->Bool->Bool->Bool->BA->Int->BA->Int->LD->Option (BA)
 | 0,_,_,_,_,_,_,_,_,_,_,_,_,_,_,_=>none
 | n+1,k,l,z,m,o,e,f,a,b,c,g,h,i,d,p=>
  (if d<h then An z d fun q=>CG q fun r=>Uj xF r fun s=>Uj i s fun t=>AW (IntKind.wrap .i64 (d+1)) fun u=>Z5 n k l z m o e f a b c g h t u p else Av (mY n f i g) fun j=>(if e=0 then Av (oJ n k) fun v=>Av (mY n false v j) fun w=>Z4 n l m o a b c w else Av (oJ n k) fun x=>Av (mY n true x j) fun y=>Z4 n l m o a b c y))
def Z6:Nat->Int->LD->LD->Int->BA->Int->Bool->Bool->Bool->Bool->BA->Option (BA)
 | 0,_,_,_,_,_,_,_,_,_,_,_=>none
 | n+1,i,j,a,k,l,b,c,d,e,f,g=>
  AP a fun h=>Z5 n i j a k l b c d e f g h ByteArray.empty 0 a
def F17 (n:Nat) (u:Int) (o:Int) (p:Int) (w:Int) (q:LD) (r:LD) (s:Int) (t:BA) (x:LD):Option (BA):=
 kB (zF n u) fun a g b c d e f v h=>Aw (!h) fun i=>(if i=true then some xD else (if g=0 then Av (oJ n o) fun j=>Av (mY n false j a) fun k=>Z6 n p q r s t b c d e f k else Av (oJ n o) fun l=>Av (mY n true l a) fun m=>Z6 n p q r s t b c d e f m))
noncomputable def X17:AH:=⟨17,Tryz.f17,true,[.agg [.y,.z,.z,.z,.f 1,.f 1,.z,.str,.f 1]],[],[⟨.one (.s),[],[]⟩],BA,ii,F17,.e,[⟨127,[1,2,3,5,6],[.loc 0,.loc 256,.loc 480],864,[.p (.loc 0) 0,.one (.cs ByteArray.empty),.p (.loc 256) 0,.p (.loc 480) 0,.one (.fn 40 [.loc 480])],[.c [.y,.z,.z,.z,.f 1,.f 1,.z,.str,.f 1],.c [.str,.z,.z,.bool,.bool,.bool,.bool,.f 1],.c [.str]],fun n _ _ t _ m u j k _ _ _ o q a d h _ r=>Z6 n t m u j k o q a d h r,.e⟩,
 ⟨2042,[1,2,3,5,6,7,33,34,35],[.loc 0,.loc 256,.loc 480],1024,[.p (.loc 0) 0,.one (.cs ByteArray.empty),.p (.loc 256) 0,.p (.loc 480) 0,.one (.fn 40 [.loc 480]),.s,.f 1,.z,.z],[.c [.y,.z,.z,.z,.f 1,.f 1,.z,.str,.f 1],.c [.str,.z,.z,.bool,.bool,.bool,.bool,.f 1],.c [.str]],fun n v u x A _ _ t _ m B j k _ _ _ o q a d h _ r=>Z5 n t m u j k o q a d h r x v A B,.e⟩,
 ⟨2047,[1,2,3,5,6],[.loc 0,.loc 256,.loc 480],1472,[.p (.loc 0) 0,.one (.cs ByteArray.empty),.p (.loc 256) 0,.p (.loc 480) 0,.one (.fn 40 [.loc 480])],[.c [.y,.z,.z,.z,.f 1,.f 1,.z,.str,.f 1],.c [.str,.z,.z,.bool,.bool,.bool,.bool,.f 1],.c [.str]],fun n _ _ _ _ m _ j k _ _ _ _ _ a d h _ i=>Z4 n m j k a d h i,.g [.treeS 10 false 1] [] .e⟩,
 ⟨32762,[1,2,3,5,6,10,58,59,60],[.loc 0,.loc 256,.loc 480,.loc 1632],1664,[.p (.loc 0) 0,.one (.cs ByteArray.empty),.p (.loc 256) 0,.p (.loc 480) 0,.one (.fn 40 [.loc 480]),.w (.loc 1632),.f 1,.z,.z],[.c [.y,.z,.z,.z,.f 1,.f 1,.z,.str,.f 1],.c [.str,.z,.z,.bool,.bool,.bool,.bool,.f 1],.c [.str],.l false 1],fun n m C E _ _ _ _ F _ j k _ _ _ _ _ a d h _ i G=>Z3 n m j k a d h i C E F G,.b (.n 1 (.g [] [(1920,1632)] .e)) (.g [.freeze (.loc 1632)] [] .e)⟩,
 ⟨8191,[1,2,3,5,6,10],[.loc 0,.loc 256,.loc 480],1696,[.p (.loc 0) 0,.one (.cs ByteArray.empty),.p (.loc 256) 0,.p (.loc 480) 0,.one (.fn 40 [.loc 480]),.f 1],[.c [.y,.z,.z,.z,.f 1,.f 1,.z,.str,.f 1],.c [.str,.z,.z,.bool,.bool,.bool,.bool,.f 1],.c [.str]],fun n H _ _ _ _ I _ j k _ _ _ _ _ a d h _ i=>pI n j k a d h i H I,.e⟩],none,[]⟩
noncomputable def k17:Kz:=sg X17 [k39,k40,k41,k42,k43] Tryz.func17
def F31 (n:Nat) (a:LD) (b:Int) (c:Int) (d:BA) (e:BA) (f:BA) (g:LD) (h:LD) (i:Int):Option LD:=
 some [.agg [.int .u8 3,.str E4,.list true 4 [],.int .u8 1,.str ByteArray.empty,.list true 3 [],.list true 15 a,.int .u8 b,.int .i64 c,.str d,.str e,.str f,.list false 1 g,.list true 8 h,.int .i64 i,.int .i64 0]]
noncomputable def X31:AH:=⟨31,Tryz.f31,false,[.q 15,.agg [.y,.z,.str,.str,.str,.f 1,.q 8,.z]],[],[⟨.one (.agg [.q 16]),[],[]⟩],LD,ii,F31,.e,[],none,[]⟩
noncomputable def k31:Kz:=sg X31 [] Tryz.func31
def uK (n:Nat):Option (Bool):=
 Av (F31 n ([]:LD) 1 3 ByteArray.empty ByteArray.empty ByteArray.empty ([]:LD) ([]:LD) 0) fun l1=>oC (F9 n l1) fun b z3 l4 z5=>(if z5=0 then AP b fun z6=>(if z6=1 then An b 0 fun x7=>Cr x7 fun s8 z9 aj c=>AP c fun d=>(if d=2 then An b 0 fun e=>Cr e fun ak al am f=>An f 0 fun g=>Ef g fun h i j k l m o p q=>Av (F17 n h i j k l m o p q) fun r=>(if r=SY then An b 0 fun s=>Cr s fun an ao aq t=>An t 1 fun u=>Ef u fun v w x y z A B C E=>Av (F17 n v w x y z A B C E) fun F=>(if F=ME then Av (F31 n ([.agg [.int .u8 9,.str ByteArray.empty,.str ByteArray.empty,.list false 1 [],.int .u8 0,.str ByteArray.empty,.list true 3 [],.int .i64 0,.str ByteArray.empty,.list false 1 [],.list true 8 [],.list true 15 ([.agg [.int .u8 10,.str ByteArray.empty,.str ByteArray.empty,.list false 1 [],.int .u8 0,.str ByteArray.empty,.list true 3 [],.int .i64 0,.str ByteArray.empty,.list false 1 [],.list true 8 [],.list true 15 [],.list true 15 [],.list true 3 [],.int .i64 0]]),.list true 15 [],.list true 3 [],.int .i64 0]]) 1 3 ByteArray.empty ByteArray.empty ByteArray.empty ([]:LD) ([]:LD) 0) fun G=>oC (F9 n G) fun a ar au H=>(if H=0 then AP a fun I=>(if I=2 then An a 0 fun J=>Cr J fun av aw ax K=>AP K fun L=>(if L=5 then An a 0 fun M=>Cr M fun ay az aA N=>An N 1 fun O=>Ef O fun P Q R S T U V W X=>Av (F17 n P Q R S T U V W X) fun Y=>(if Y=SZ then An a 1 fun Z=>Cr Z fun aa aB aC aD=>(if aa=HI then An a 1 fun ab=>Cr ab fun aE aF aG ac=>AP ac fun ad=>(if ad=2 then oC (F9 n ([]:LD)) fun aH aI aJ ae=>(if ae=2 then some true else some false)else some false)else some false)else some false)else some false)else some false)else some false)else some false)else some false)else some false)else some false)else some false)
noncomputable def X13:AH:=⟨13,Tryz.f13,false,[],[],[⟨.one (.b),[],[]⟩],Bool,ii,uK,.e,[],none,[]⟩
noncomputable def k13:Kz:=sg X13 [k17,k31,k9] Tryz.func13
mutual
def Tg:Nat->LD->Int->Int->Int->Option (Int)
 | 0,_,_,_,_=>none
 | n+1,a,b,m,c=>
  AP a fun H=>(if c<H then (if 0<b then An a c fun I=>Cp I fun J s8 s9 K L M N O P Q R S T U V=>(if J=10 then AW (IntKind.wrap .i64 (m+1)) fun o=>Th n a b c o else Th n a b c m)else WC n m)else WC n m)
def Th:Nat->LD->Int->Int->Int->Option (Int)
 | 0,_,_,_,_=>none
 | n+1,a,b,c,p=>
  An a c fun q=>Cp q fun W X Y Z aa ab ac ad ae af ag r ah ai aj=>AW (IntKind.wrap .i64 (b - 1)) fun s=>Av (uL n r s) fun t=>AW (IntKind.wrap .i64 (p+t)) fun u=>An a c fun v=>Cp v fun ak al am an ao aq ar au av aw ax ay w az aA=>AW (IntKind.wrap .i64 (b - 1)) fun x=>Av (uL n w x) fun y=>AW (IntKind.wrap .i64 (u+y)) fun z=>Ti n a b c z 0
def Ti:Nat->LD->Int->Int->Int->Int->Option (Int)
 | 0,_,_,_,_,_=>none
 | n+1,a,b,c,e,d=>
  An a c fun A=>Cp A fun aB aC aD aE aF aG aH aI aJ aK aL aM aN B aO=>AP B fun C=>(if d<C then An a c fun E=>Cp E fun aP aQ aR aS aT aU aV aW aX aY aZ a0 a1 F a2=>An F d fun G=>EA G fun a3 a4 f=>AW (IntKind.wrap .i64 (b - 1)) fun g=>Av (uL n f g) fun h=>AW (IntKind.wrap .i64 (e+h)) fun i=>AW (IntKind.wrap .i64 (d+1)) fun j=>Ti n a b c i j else AW (IntKind.wrap .i64 (c+1)) fun k=>Tg n a b e k)
def WC:Nat->Int->Option (Int)
 | 0,_=>none
 | n+1,l=>
  some l
def uL:Nat->LD->Int->Option (Int)
 | 0,_,_=>none
 | n+1,a,b=>
  Tg n a b 0 0
end
noncomputable def X15:AH:=⟨15,Tryz.f15,false,[.q 15,.z],[],[⟨.one (.z),[],[]⟩],Int,ii,uL,.e,[⟨58,[0,1,4,5,6],[],96,[.q 15,.z,.k 0,.z,.z],[],Tg,.e⟩,
 ⟨1865,[0,1,4,5,6],[],640,[.q 15,.z,.k 0,.z,.z],[],fun n a b c d=>Th n a b d c,.e⟩,
 ⟨14926,[0,1,4,5,6,7],[],1312,[.q 15,.z,.k 0,.z,.z,.z],[],fun n a b f d g=>Ti n a b d f g,.e⟩,
 ⟨15,[4,5],[],352,[.k 0,.z],[],WC,.e⟩],none,[]⟩
theorem K15:Be Tryz.prog inv (EB [X15]):=gr [] ⟨ge Tryz.func15,trivial⟩
noncomputable def k15:Kz:=⟨X15.c,K15.1⟩
mutual
def Z7:Nat->LD->LD->Int->LD->Int->Int->Option (Bool)
 | 0,_,_,_,_,_,_=>none
 | n+1,b,c,e,f,d,a=>
  AP b fun g=>(if a<g then An b a fun h=>Bo h fun i w x y z A B C E F G H I J K L=>(if i=3 then AW (IntKind.wrap .i64 (d+1)) fun j=>An b a fun k=>Bo k fun M N O P Q R l S T U V W X Y Z aa=>Av (uL n l 100) fun m=>AW (IntKind.wrap .i64 (j+m)) fun o=>Z8 n b c e f a o else Z8 n b c e f a d)else Av (uW n c e f) fun p=>(if p=0 then AP c fun q=>(if q=d then An c e fun r=>Cr r fun s ab ac ad=>(if s=E4 then Av (uK n) fun t=>some t else some false)else some false)else some false))
def Z8:Nat->LD->LD->Int->LD->Int->Int->Option (Bool)
 | 0,_,_,_,_,_,_=>none
 | n+1,b,c,e,f,a,u=>
  AW (IntKind.wrap .i64 (a+1)) fun v=>Z7 n b c e f u v
end
def F5 (n:Nat) (a:LD):Option (Bool):=
 Av (F8 n a) fun f=>(if f=true then Av (uK n) fun g=>some g else oC (F9 n a) fun c d e h=>(if h=0 then Z7 n a c d e 0 0 else AP c fun i=>(if i=0 then AP e fun j=>(if j=0 then (if d=0 then Av (uK n) fun b=>some b else some false)else some false)else some false)))
noncomputable def X5:AH:=⟨5,Tryz.f5,false,[.agg [.q 16]],[],[⟨.one (.b),[],[]⟩],Bool,ii,F5,.e,[⟨506,[1,2,3,5,6],[.loc 0,.loc 288],512,[.p (.loc 0) 0,.one (.cb false),.p (.loc 288) 0,.z,.z],[.c [.q 16],.c [.q 4,.z,.q 16]],fun n d a f g h i=>Z7 n f g h i d a,.e⟩,
 ⟨4051,[1,2,3,5,6],[.loc 0,.loc 288],1248,[.p (.loc 0) 0,.one (.cb false),.p (.loc 288) 0,.z,.z],[.c [.q 16],.c [.q 4,.z,.q 16]],fun n j a f g h i=>Z8 n f g h i a j,.e⟩],none,[]⟩
noncomputable def k5:Kz:=sg X5 [k13,k15,k16,k8,k9] Tryz.func5
theorem T5 (n:Nat):∀⦃a b⦄,F5 n a=some b->
  Ct Tryz.prog inv 5 [.d (.agg [.list true 16 a])] [] (.v (.d (.bool b))) [] []:=fun a b h=>k5.ok n [.L a] _ h _ _ _ _ _ _ rfl rfl rfl rfl _ rfl
end Go.Proofs.YtjfmnfncmfepnaaGreatDoor
end
set_option linter.unusedVariables false
noncomputable section
namespace Go.Proofs.YtjfmnfncmfepnaaGreatDoor
open Go Go.AM
section
variable {γ:Type}{P:γ→Prop}
theorem gR {l:List D}{i:Nat}{x:D}{k:Nat→D→Option γ}(hx:l[i]?=some x) (h:Wp (fun n=>k n x) P):Wp (fun n=>An l (i:Int) (k n)) P:=gi (List.getElem?_eq_some_iff.1 hx).1 fun y hy=>by
 simp_all
theorem df {s:ByteArray}{p z:Int}{co:List D}{k:Nat→ByteArray→Int→Int→List D→Option γ}(h:Wp (fun n=>k n s p z co) P):Wp (fun n=>Cr (.agg [.str s,.int .i64 p,.int .i64 z,.list true 9 co]) (k n)) P:=h
theorem d90 {a0 a4 a7 a14:Int}{a1 a2 a5 a8:ByteArray}{a3 a6 a9 a10 a11 a12 a13:List D}{k:Nat→Int→ByteArray→ByteArray→List D→Int→ByteArray→List D→Int→ByteArray→List D→List D→List D→List D→List D→Int→Option γ}(h:Wp (fun n=>k n a0 a1 a2 a3 a4 a5 a6 a7 a8 a9 a10 a11 a12 a13 a14) P):Wp (fun n=>Cp (.agg [.int .u8 a0,.str a1,.str a2,.list false 1 a3,.int .u8 a4,.str a5,.list true 3 a6,.int .i64 a7,.str a8,.list false 1 a9,.list true 8 a10,.list true 15 a11,.list true 15 a12,.list true 3 a13,.int .i64 a14]) (k n)) P:=h
end
theorem t15 (l:List D):AB Ac 90 l→∀{d:Nat},DN d l→AU l≤20000→∀z:Int,d<z∧z≤100→Wp (fun n=>uL n l z) fun r=>r=CJ l:=by
 induction l using Hw with | H l IH
 intro hl d hd hw z hz
 have hlw:=LA l hl
 have a:∀i,i≤l.length→∀a:Nat,a+CJ (l.drop i)≤20000→Wp (fun n=>Tg n l z a i) fun r=>r=(a:Int)+CJ (l.drop i):=Al _ fun i hi ih a ha=>wU (by
  have:=hl.le
  have hdi:=BN l i
  simp only[Tg]
  refine wL (wI (fun h=>wI (fun _=>?_) fun h0=>by omega) fun h=>wU ?_)
  ·have hx:l[i]?=some l[i]:=List.getElem?_eq_getElem (by omega)
   generalize l[i]=x at hx
   have h1:=Ff hx
   have h2:=Bz hx
   obtain⟨op,s1,s2,nl,k,s3,ty,y,s4,pa,ex,body,els,arms,y2,rfl,_,_,_,_,_,_,_,_,_,_,_,hbo,hel,har,_⟩:=qO (hl.mem hx)
   simp only[sp]at h1
   simp only[wt,AU]at h2
   obtain⟨hd1,_,_,_,_,_,hdb,hde,hda⟩:=Qu hd hx
   have b:∀c:Nat,c+CJ body+CJ els+CJ arms+CJ (l.drop (i+1))≤20000→Wp (fun n=>Th n l z i c) fun r=>r=(c:Int)+CJ body+CJ els+CJ arms+CJ (l.drop (i+1)):=fun c hc=>wU (by
    simp only[Th]
    refine gR hx (d90 (wW rfl (by omega) (c1 (IH body (by omega) hbo hdb (by omega) (z - 1) (by omega)) fun r hr=>?_)))
    subst hr
    refine wW (x:=((c+CJ body:Nat):Int)) (by omega) (by omega) (gR hx (d90 (wW rfl (by omega) (c1 (IH els (by omega) hel hde (by omega) (z - 1) (by omega)) fun r hr=>?_))))
    subst hr
    refine wW (x:=((c+CJ body+CJ els:Nat):Int)) (by omega) (by omega) ?_
    have e:∀j,j≤arms.length→∀c2:Nat,c2+CJ (arms.drop j)+CJ (l.drop (i+1))≤20000→Wp (fun n=>Ti n l z i c2 j) fun r=>r=(c2:Int)+CJ (arms.drop j)+CJ (l.drop (i+1)):=Al _ fun j hj ih2 c2 hc2=>wU (by
     have:=har.le
     simp only[Ti]
     refine gR hx (d90 (wL (wI (fun h=>gR hx (d90 (kM har (by omega) fun t1 t2 b hy hw2 _ _ hbb=>wW rfl (by omega) (c1 (IH b (by have:=BN arms j;omega) hbb (Qv hda hy) (by have:=BN arms j;omega) (z - 1) (by omega)) fun r hr=>?_)))) fun h=>wi (by omega) ?_)))
     ·have h3:=Ff hy
      simp only[sp]at h3
      subst hr
      exact wW (x:=((c2+CJ b:Nat):Int)) (by omega) (by omega) (wi (by omega) (wM (ih2 (by omega) (c2+CJ b) (by omega)) fun r hr=>by omega))
     ·have:arms.drop j=[]:=List.drop_eq_nil_of_le (by omega)
      rw[this]at hc2 ⊢
      exact wM (ih (by omega) c2 (by simpa [CJ] using hc2)) fun r hr=>by simpa [CJ] using hr)
    exact wM (e 0 (Nat.zero_le _) _ (by simpa using hc)) fun r hr=>by simp_all)
   refine gR hx (d90 (wI (fun h10=>?_) fun h10=>?_))
   ·rw[if_pos h10]at h1
    exact wW (x:=((a+1:Nat):Int)) (by omega) (by omega) (wM (b (a+1) (by omega)) fun r hr=>by omega)
   ·rw[if_neg h10]at h1
    exact wM (b a (by omega)) fun r hr=>by omega
  ·simp only[WC]
   exact wS (by rw[List.drop_eq_nil_of_le (by omega)];simp[CJ]))
 refine wU ?_
 simp only[uL]
 exact wM (a 0 (Nat.zero_le _) 0 (by simp;omega)) fun r hr=>by simpa using hr
theorem t5 (hA:Wp (fun n=>uK n) fun r=>r=true) {l:List D}(hl:AB Ac 56 l):Wp (fun n=>F5 n l) fun r=>r=true:=by
 have hB:Wp (fun n=>Av (uK n) fun b=>some b) fun r=>r=true:=c1 hA fun r hr=>wS hr
 unfold F5
 refine c1 (g8 hl) fun b hb=>wI (fun _=>hB) fun h=>?_
 have hw:=hb (by simpa using h)
 have htw:=Qz hl
 refine c4 (t9 hl hw) fun fu mn ki e hP=>?_
 rcases hP with⟨rfl,hft,⟨j,vs,hm,hj⟩,hfu,hit,hEv⟩ | ⟨he,rfl,rfl,rfl⟩
 ·refine wI (fun _=>?_) fun h=>absurd rfl h
  have a:∀i,i≤l.length→∀c:Nat,c+JK (l.drop i)=JK l→Wp (fun n=>Z7 n l fu mn ki c i) fun r=>r=true:=Al _ fun i hi ih c hc=>wU (by
   have:=hl.le
   have hdi:=BN l i
   simp only[Z7]
   refine wL (wI (fun h=>?_) fun h=>?_)
   ·have hx:l[i]?=some l[i]:=List.getElem?_eq_getElem (by omega)
    generalize l[i]=x at hx
    have h1:=NY hx
    have h2:=Bz hx
    have hi':=hit x (List.mem_of_getElem? hx)
    have hrow:=hl.mem hx
    refine gR hx (d56 hrow fun k s l3 y4 s5 l6 l7 y8 y9 s10 s11 s12 l13 l14 y15 y16 ex _ _ _ _ _ _ h7 _ _ _ _ _ _ _ _ _=>?_)
    subst ex
    simp only[zJ]at h1
    simp only[wt,AU]at h2
    have e2:∀c:Nat,c+JK (l.drop (i+1))=JK l→Wp (fun n=>Z8 n l fu mn ki i c) fun r=>r=true:=fun c hc=>wU (by
     simp only[Z8]
     exact wi (by omega) (ih (by omega) c hc))
    refine wI (fun h3=>wW (x:=((c+1:Nat):Int)) (by omega) (by omega) (gR hx (d56 hrow fun _ _ _ _ _ _ b8 _ _ _ _ _ _ _ _ _ ex _ _ _ _ _ _ _ _ _ _ _ _ _ _ _ _=>?_))) fun h3=>e2 c (by simp_all)
    cases ex
    rw[if_pos h3]at h1
    obtain⟨_,_,hws⟩:=hi' h3
    have:=LA l7 h7
    refine c1 (t15 l7 h7 hws (by omega) 100 (by omega)) fun r hr=>?_
    subst hr
    exact wW (x:=((c+1+CJ l7:Nat):Int)) (by omega) (by omega) (e2 _ (by omega))
   ·rw[List.drop_eq_nil_of_le (by omega)]at hc
    simp only[JK]at hc
    refine c1 (Q:=fun r=>r=0) ⟨0,hEv,rfl⟩ fun r hr=>wI (fun _=>wL (wI (fun _=>?_) fun h=>absurd (show (fu.length:Int)=c by omega) h)) fun h=>absurd hr h
    subst hm
    obtain⟨s,p,z,co,ex,_⟩:=hfu _ (List.mem_of_getElem? hj)
    cases ex
    exact gR hj (df (wI (fun _=>hB) fun h=>absurd rfl h)))
  exact a 0 (Nat.zero_le _) 0 (by simp)
 ·exact wI (fun h=>absurd h he) fun _=>wL (wI (fun _=>wL (wI (fun _=>wI (fun _=>hB) fun h=>absurd rfl h) fun h=>absurd rfl h)) fun h=>absurd rfl h)
end Go.Proofs.YtjfmnfncmfepnaaGreatDoor
end
namespace Go.AM
open Go Go.RowKit Go.ChangeShapes Go.WideShapes
def II (ti:Types):List TypeId→List D→Prop
 | [],[]=>True
 | t::ts,x::xs=>Shape ti t x.cells∧(∀y,ti t=some y→x.isAgg=AR y.desc)∧II ti ts xs
 | _,_=>False
theorem II.length {ti:Types}:∀{ts:List TypeId}{xs:List D},II ti ts xs→xs.length=ts.length
 | [],[],_=>rfl
 | _::_,_::_,h=>by simp[II.length h.2.2]
 | [],_::_,h=>h.elim
 | _::_,[],h=>h.elim
section
variable {H:Type}{enc:TypeId×Value→H}{P:Program}{ti:Types}{T:List TypeId}{w:World}
theorem Z9 (hti:Ax P ti) (hT:L5 ti T=true) {Z:Ai}(hZ:∀b o,¬Z b o) {base base':Nat}{spare:Nat→Bool}{held:Bool}{r:Reach}{t:TypeId}{v:Value}{d:DataW H}{ps:List MemPlace}(ht:t∈T)
  (hok:Value.okWide P w r base' t v) (h:DataW.Trod enc P w base spare held t v d ps):∃x:D,Shape ti t x.cells∧(∀y,ti t=some y→x.isAgg=AR y.desc)∧AZ w Z x v:=by
 obtain⟨fuel,h⟩:=h
 obtain⟨ds,hs,h1,h2,h3⟩:=conv hti hT (Z:=Z) hZ fuel t _ _ _ ht h
 have hp:=List.all_eq_true.1 hT t ht
 split at hp
 ·rename_i y hy
  have hu:=(hti t y hy).1
  have single:AR y.desc=false→v.cells.toList=[v]→∃x:D,Shape ti t x.cells∧(∀y,ti t=some y→x.isAgg=AR y.desc)∧AZ w Z x v:=by
   intro hr hv
   rw[hv]at h1 h3
   obtain⟨c,rfl⟩:=List.length_eq_one_iff.1 h1
   have hc:=h2 c (by simp)
   have e:c.cells=[c]:=by cases c<;>first | rfl | simp[D.isAgg]at hc
   refine⟨c,by rw[e];exact hs,fun y' hy'=>?_,h3 0 c v rfl rfl⟩
   rw[hy]at hy'
   obtain rfl:y=y':=by simpa using hy'
   rw[hc,hr]
  split at hp
  ·rename_i hd
   rw[hd]at hu
   obtain⟨b,rfl⟩:=okWide_bool hu hok
   exact single (by rw[hd];rfl) rfl
  ·rename_i k hd
   rw[hd]at hu
   obtain⟨b,rfl⟩:=okWide_int hu hok
   exact single (by rw[hd];rfl) rfl
  ·rename_i hd
   rw[hd]at hu
   obtain⟨b,rfl⟩:=okWide_string hu hok
   exact single (by rw[hd];rfl) rfl
  ·rename_i e hd
   rw[hd]at hu
   obtain⟨a,l,c,rfl⟩:=okWide_slice hu hok
   exact single (by rw[hd];rfl) rfl
  ·rename_i fs hd
   rw[hd]at hu
   obtain⟨cs,rfl,_⟩:=okWide_struct hu hok
   refine⟨.agg ds,hs,fun y' hy'=>?_,.agg ds cs (by simpa [Value.cells] using h1.symm) h2 (fun j c u hc hu'=>h3 j c u hc (by simpa [Value.cells] using hu'))⟩
   rw[hy]at hy'
   obtain rfl:y=y':=by simpa using hy'
   rw[hd];rfl
  ·simp at hp
 ·simp at hp
theorem PJ (hti:Ax P ti) (hT:L5 ti T=true) {Z:Ai}(hZ:∀b o,¬Z b o) {base base':Nat}{spare:Nat→Bool}{held:Bool}{r:Reach}:
  ∀(ts:List TypeId) (vs:List Value) (ds:List (DataW H)) (ps:List MemPlace),(∀t∈ts,t∈T)→DataW.TrodAll enc P w base spare held ts vs ds ps→
   (∀(j:Nat) t v,ts[j]?=some t→vs[j]?=some v→Value.okWide P w r base' t v)→
   ∃xs,II ti ts xs∧∀(j:Nat) x v,xs[j]?=some x→vs[j]?=some v→AZ w Z x v
 | [],vs,ds,ps,_,h,_=>⟨[],trivial,by simp⟩
 | t::ts,vs,ds,ps,ht,h,hok=>by
  obtain⟨v,vs1,d,ds1,a,b,rfl,rfl,rfl,h1,h2⟩:=trodAll_cons h
  obtain⟨x,k1,k2,k3⟩:=Z9 hti hT hZ (ht t (by simp)) (hok 0 t v rfl rfl) h1
  obtain⟨xs,k4,k5⟩:=PJ hti hT hZ ts vs1 ds1 b (fun t ht'=>ht t (by simp[ht'])) h2 (fun j t v h1 h2=>hok (j+1) t v (by simpa using h1) (by simpa using h2))
  refine⟨x::xs,⟨k1,k2,k4⟩,fun j x' v' hx hv=>?_⟩
  match j with
  | 0=>simp at hx hv;subst hx;subst hv;exact k3
  | j+1=>simp at hx hv;exact k5 j x' v' hx hv
theorem PK (hl:laidOutB P=true) {W W':World}(hb:Below W.heap.size W W'):∀(ts:List TypeId) (vs:List Value) (ds:List (DataW H)) (ps:List MemPlace),
  (∀t∈ts,P.readableRec t=true∧t<P.types.size)→DataW.TrodAll enc P W 0 (fun _=>true) true ts vs ds ps→(∀x∈ps,x.block<W.heap.size)→
  DataW.TrodAll enc P W' 0 (fun b=>decide (b<W.heap.size)) true ts vs ds ps
 | [],vs,ds,ps,_,h,_=>by
  obtain⟨rfl,rfl,rfl⟩:=trodAll_nil h
  exact rfl
 | t::ts,vs,ds,ps,ht,h,hlt=>by
  obtain⟨v,vs1,d,ds1,a,b,rfl,rfl,rfl,h1,h2⟩:=trodAll_cons h
  have ht1:=ht t (by simp)
  exact⟨a,b,Below.trod hl ht1.1 ht1.2 h1 hb (fun x hx=>hlt x (by simp[hx])),PK hl hb ts vs1 ds1 b (fun t ht'=>ht t (by simp[ht'])) h2 (fun x hx=>hlt x (by simp[hx])),rfl⟩
theorem Xj {I:Inv}(hti:Ax P ti) (hT:L5 ti T=true) {s:ChangeSpec}{fn:Func}{f:FuncId}{ts:List TypeId}{bt:TypeId}
  (hp:fn.params.toList=ts) (hv:s.vars=[]) (hr:fn.resultTypes=#[bt]) (hb:P.underlying bt=some .bool) (htT:∀t∈ts,t∈T)
  (hs:∀ds:List (DataW H),ds.length=ts.length→(s.fn H ds).results=[.lit (.bool true)]∧(s.fn H ds).args=ds∧(s.fn H ds).vars=[])
  (hl:laidOutB P=true) (hrec:∀t∈ts,P.readableRec t=true∧t<P.types.size)
  (hc:∀xs:List D,II ti ts xs→Ct P I f (xs.map V1.d) [] (.v (.d (.bool true))) [] [])
  {W:World} {base:Nat} {args:Array Value} {ds gs:List (DataW H)} {before:List MemPlace}
  (hI:I.at W fun _ _=>False) (hval:∀(j:Nat) t v,fn.params[j]?=some t→args[j]?=some v→Value.okWide P W .any base t v)
  (hW:DataW.Whole enc P fn.params.toList s.vars false W args.toList ds gs before):
  Calls P f args W fun e W'=>∃v,e= .returned v∧s.post enc P fn false true false false W args v W':=by
 have hW':=hW
 obtain⟨p,q,hA,hV,rfl,_,_⟩:=hW
 rw[hv]at hV
 obtain⟨rfl,rfl⟩:gs=[]∧q=[]:=by
  cases gs with
  | nil=>exact⟨rfl,hV⟩
  | cons _ _=>exact hV.elim
 rw[hp]at hA
 obtain⟨hlen,hdl⟩:=trodAll_length hA
 obtain⟨xs,hsh,hrel⟩:=PJ hti hT (Z:=fun _ _=>False) (fun _ _ h=>h) (r:=.any) (base':=base) ts args.toList ds p htT hA (fun j t v h1 h2=>hval j t v (by
  rw[←Array.getElem?_toList,hp];exact h1) (by simpa using h2))
 have hxl:=hsh.length
 have hcall:=hc xs hsh
 have hheap:∀i o,Ad [] i=some o→False:=by
  intro i o h
  cases i<;>simp[Ad]at h
 have hzone:∀(g:AO) b o,¬zone g (Ad []) b o:=by
  rintro g b o ⟨i,ob,h,_⟩
  exact hheap i ob h
 refine (hcall.calls (w:=W) (X:=fun _ _=>False) (g:=fun _=>undef) (vals:=args) (fun _ _ h=>h.elim) (hI.mono fun b o hz=>hz.elim (hzone _ b o) id) ⟨fun i o h=>(hheap i o h).elim,fun i _ _ _ _ h=>(hheap i _ h).elim,fun i _ _ _ h=>(hheap i _ h).elim⟩ (fun _=>rfl)
  (by simp at hlen;simp;omega) (fun j x v hx hvv=>?_)).mono ?_
 ·simp only[List.getElem?_map,Option.map_eq_some_iff]at hx
  obtain⟨d,hd,rfl⟩:=hx
  exact (hrel j d v hd (by simpa using hvv)).mono (fun b o u hu _=>⟨hu,fun hz=>hz.elim (hzone _ b o) id⟩)
 ·rintro e W' ⟨v,g',rfl,hpost⟩
  obtain rfl:v= .bool true:=by cases (show AZ _ _ (.bool true) v from hpost.res);rfl
  have hbel:Below W.heap.size W W':=⟨hpost.frame.os,hpost.frame.tape,hpost.frame.output,hpost.frame.size,fun k hk=>hpost.frame.block k hk (fun o=>hzone _ k o)⟩
  obtain⟨s1,s2,s3⟩:=hs (ds++[]) (by simp[hdl])
  refine⟨_,rfl,ds,[],p++[],[],p,[],hW',?_,?_,?_,hbel.frame _,fun h=>by cases h⟩
  ·rw[s1,hr]
   exact trodAll_mk1 (shut_bool hb true)
  ·rw[s2,hp,List.append_nil]
   exact PK hl hbel ts args.toList ds p hrec hA (fun x hx=>hW'.lt x (by simp[hx]))
  ·rw[s3,hv];rfl
end
end Go.AM
set_option linter.unusedVariables false
noncomputable section
namespace Go.Proofs.YtjfmnfncmfepnaaGreatDoor
open Go Go.AM
theorem f13:(fun m=>uK (m+300))=fun _=>some true:=by kernel_rfl
theorem law {l:List D}(hl:AB Ac 56 l):Ev (fun n=>F5 n l) true:=by
 obtain⟨r,h,e⟩:=t5 ⟨true,⟨300,fun n hn=>by
  obtain⟨m,rfl⟩:∃m,n=m+300:=⟨n - 300,by omega⟩
  exact congrFun f13 m⟩,rfl⟩ hl
 rw[e]at h
 exact h
theorem Na:∀xs:List D,II Ac [24] xs→Ct Tryz.prog inv 5 (xs.map V1.d) [] (.v (.d (.bool true))) [] []:=by
 intro xs h
 match xs,h with
 | [p],⟨p1,p2,_⟩=>
  obtain⟨l,rfl,hl⟩:=ABc ⟨p1,p2⟩
  obtain⟨n,hn⟩:=(law hl).run
  exact T5 n hn
end Go.Proofs.YtjfmnfncmfepnaaGreatDoor
end
namespace Go.Proofs.YtjfmnfncmfepnaaGreatDoor
open Go Go.ChangeShapes Go.WideShapes Go.ChangeAt Go.RowKit Go.AM
theorem Ki:∀t∈[24],Tryz.prog.readableRec t=true∧t<Tryz.prog.types.size:=by
 have h:([24].all fun t=>Tryz.prog.readableRec t&&decide (t<Tryz.prog.types.size))=true:=by kernel_rfl
 intro t ht
 have:=List.all_eq_true.1 h t ht
 simpa using this
theorem JG {W:World}{name:String}{k:IntKind}{zs:List Int}(ht:Lib.TabIs Tryz.prog W name k zs) {b:Nat}(hb:Tryz.prog.globalNamed name=some b):b<W.heap.size:=by
 unfold Lib.TabIs World.var? at ht
 rw[hb]at ht
 simp only[Option.bind_some]at ht
 cases hx:W.heap[b]? with
 | none=>rw[hx]at ht;simp at ht
 | some o=>exact (Array.getElem?_eq_some_iff.1 hx).1
theorem Ny {W:World}(h:laidMet Tryz.prog Rows.lowerMayRow.laid W):inv.at W fun _ _=>False:=by
 have e:(Rows.lowerMayRow.laid.filter fun x=>x.1== "strings.asciiSpace")=[("strings.asciiSpace",Lib.tabData .u8 Lib.asciiSpaceTab)]:=by kernel_rfl
 have h2:=laidMet.filter (fun x=>x.1== "strings.asciiSpace") h
 rw[e]at h2
 have h2:Lib.TabIs Tryz.prog W "strings.asciiSpace" .u8 Lib.asciiSpaceTab:=by
  exact Lib.tabIs_of_head (g:=4) (t:=289) (e:=5) (n:=256) (by kernel_rfl) (by kernel_rfl) (by kernel_rfl) (by kernel_rfl) (by kernel_rfl) (by kernel_rfl) h2
 have e:(Rows.lowerMayRow.laid.filter fun x=>x.1== "internal/strconv.uint64pow10")=[("internal/strconv.uint64pow10",Lib.tabData .u64 Lib.pow10Tab)]:=by kernel_rfl
 have h3:=laidMet.filter (fun x=>x.1== "internal/strconv.uint64pow10") h
 rw[e]at h3
 have h3:Lib.TabIs Tryz.prog W "internal/strconv.uint64pow10" .u64 Lib.pow10Tab:=by
  exact Lib.tabIs_of_head (g:=0) (t:=244) (e:=211) (n:=20) (by kernel_rfl) (by kernel_rfl) (by kernel_rfl) (by kernel_rfl) (by kernel_rfl) (by kernel_rfl) h3
 exact⟨⟨h2,h3⟩,fun b hb=>⟨hb.elim (JG h2) (JG h3),fun _ h=>h⟩⟩
set_option maxRecDepth 100000 in
theorem J7 (os:Os) (started:os.Started) (H:Type) (enc:TypeId×Value→H):
  ReturnsInHanded {} Tryz.checked os 5 .any (fun w args=>(Rows.lowerMaySpec.pre enc Tryz.prog Tryz.f5 Rows.lowerMayRow.domain false w args∧laidMetH Tryz.prog Rows.lowerMayRow.laid w)∧sizedMet enc Tryz.prog Tryz.f5 (OpenSpec.ofChange Rows.lowerMaySpec) false w args)
   (Rows.lowerMaySpec.post enc Tryz.prog Tryz.f5 false true false false):=by
 refine returnsInHanded_of_change_and (C:=Tryz.checked) (X:=fun w _=>laidMetH Tryz.prog Rows.lowerMayRow.laid w) (fun _ _ _ hh h=>h.of_heap hh) (by kernel_rfl) started (by kernel_rfl) Tryz.func5
  (ChangeSpec.witness_shaped (enc:=enc) (C:=Tryz.checked) (os:=os) (X:=fun w _=>laidMetH Tryz.prog Rows.lowerMayRow.laid w) false (World.laidAll Tryz.prog os Rows.lowerMayRow.laid) #[.agg #[.slice none 0 0]] 8 (World.laidAll_os _ _ _)
   (World.shaped_of_ZipB (by kernel_rfl) (by kernel_rfl)) (by kernel_rfl) (by kernel_rfl) (by kernel_rfl)
   (by rw[MakeChecks.laidMetH_plain _ _ _ (by kernel_rfl)];exact laidMet_laidAll _ (by kernel_rfl) (by kernel_rfl))) ?_
 intro W base args ds gs before hval0 hW _ _ hL _
 rw[MakeChecks.laidMetH_plain _ _ _ (by kernel_rfl)]at hL
 refine Xj (ti:=Ac) (T:=[2,3,5,9,22,24,42,45,46,48,49,51,52,54,56,58,88,90,96]) Fq (by kernel_rfl) (ts:=[24]) (bt:=4) rfl rfl rfl (by kernel_rfl) (by decide) ?_ (by kernel_rfl) Ki Na (Ny hL) hval0 hW
 intro ds h
 match ds,h with
 | [_],_=>exact⟨rfl,rfl,rfl⟩
theorem Nz:Rows.LowerMaySaid:=
 OpenClaim.holds_of_wide 5 Tryz.f5 rfl rfl rfl rfl rfl rfl rfl ⟨rfl,rfl,rfl,rfl,rfl⟩ rfl rfl rfl rfl rfl (by kernel_rfl) Tryz.func5 (by kernel_rfl)
  (of_decide_eq_true (by kernel_rfl)) (by unfold Func.isWrapper;first | (rw[if_pos (by decide+kernel)];kernel_rfl) | (rw[if_neg (by decide+kernel)];exact⟨rfl,rfl⟩))
  (fun os started H enc _=>J7 os started H enc)
theorem lower_may:Rows.LowerMayCardSaid:=
 Claim7.holds_tied_plain_at .later [] [.data,.data,.data,.listed,.data] true Rows.lowerMayCard.stood.harness false Nz (fun _ h=>by cases h) (by kernel_rfl) (fun _ h=>by cases h) lowerMay_row_tie rfl ⟨rfl,rfl⟩ (by kernel_rfl) rfl
  (fun f fn hf hfn=>by
   obtain rfl:f=5:=Option.some.inj ((show Tryz.prog.funcNamed "weftway/weftwaylaw18.LowerMay" =some 5 by kernel_rfl).symm.trans hf) |>.symm
   obtain rfl:fn=Tryz.f5:=(Option.some.inj (Tryz.func5.symm.trans hfn)).symm
   exact⟨by kernel_rfl,fun j t ht=>by
    have hm:t∈[24]:=by
     have hp:Tryz.f5.params.toList=[24]:=rfl
     rw[←hp];simpa using Array.mem_of_getElem? ht
    have hall:([24].all fun u=>!Tryz.prog.wantsStandIn u)=true:=by kernel_rfl
    exact (show Tryz.prog.wantsStandIn t=false by simpa using List.all_eq_true.1 hall t hm)⟩)
  (by kernel_rfl)
end Go.Proofs.YtjfmnfncmfepnaaGreatDoor
