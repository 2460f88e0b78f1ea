/- LowerPlaces. No condition. (Part 7.) -/
import Derived.Carry
import Derived.ChangeSame
import Derived.ChangeOld
import Derived.ChangeCalls
import Derived.WideShapes
import Derived.Lib.ItoaLen
import Derived.Test.YtjfmnfncmfepnaaGreatDoorRows
import Derived.Test.YtjfmnfncmfepnaaGreatDoorTie
import Derived.Test.YtjfmnfncmfepnaaGreatDoorCards
import Derived.JoinedOf
import Derived.JoinedAt
import Derived.RowKit
import Derived.RowKit2
import Derived.ReadAgain
import Derived.ChangeAlike
import Derived.Lay
import Derived.Handed
import Derived.LaidSub
import Derived.LaidLaws
import Derived.LaidHandle
import Derived.MakeChecks
import Derived.SevenTiedAt
import Derived.Lib.LaidTab
import Derived.Lib.LaidU8
import Derived.Test.YtjfmnfncmfepnaaGreatDoorPlaF
set_option linter.unusedVariables false
set_option linter.unusedSimpArgs false
set_option linter.unusedSectionVars false
set_option linter.unusedVariables false
noncomputable section
namespace Go.Proofs.YtjfmnfncmfepnaaGreatDoor
open Go Go.AM
def to1:D→Nat
 | .agg [.int _ k,_,_,_,_,_,.list _ _ body,_,_,_,_,_,_,_,_,_]=>if k=3 then 1+Dp body else 0
 | _=>0
def Oh:List D→Nat
 | []=>0
 | x::l=>to1 x+Oh l
theorem Ue {l:List D}{i:Nat}{x:D}(h:l[i]?=some x):Oh (l.drop i)=to1 x+Oh (l.drop (i+1)):=by
 obtain⟨hi,rfl⟩:=List.getElem?_eq_some_iff.1 h;rw[List.drop_eq_getElem_cons hi,Oh]
theorem Xz (l:List D):AB Ab 90 l→Dp l≤AU l:=by
 induction l using IQ with | H l IH
 intro hl
 have a:∀i,i≤l.length→Dp (l.drop i)≤AU (l.drop i):=Ai _ fun i hi ih=>by
  by_cases h:i<l.length
  ·have hx:l[i]?=some l[i]:=List.getElem?_eq_getElem h;generalize l[i]=x at hx;have h1:=Kb hx;have h2:=CZ hx;have h3:=BI l i;have ih:=ih h;obtain⟨op,_,_,_,_,_,_,_,_,_,_,body,els,arms,_,rfl,_,_,_,_,_,_,_,_,_,_,_,hbo,hel,har,_⟩:=yK (hl.mem hx);simp only[sp]at h1;simp only[wt,AU]at h2;have hb:=IH body (by omega) hbo
   have he:=IH els (by omega) hel
   have ha:∀j,j≤arms.length→Dp (arms.drop j)≤AU (arms.drop j):=Ai _ fun j hj ih=>by
    by_cases h:j<arms.length
    ·have hy:arms[j]?=some arms[j]:=List.getElem?_eq_getElem h;generalize arms[j]=y at hy;have g1:=Kb hy;have g2:=CZ hy;have g3:=BI arms j;have ih:=ih h;obtain⟨_,_,b,rfl,_,_,hbb⟩:=Wx (har.mem hy);simp only[sp]at g1;simp only[wt,AU]at g2;grind
    ·rw[List.drop_eq_nil_of_le (by omega)];exact Nat.le_refl _
   have ha:=ha 0 (Nat.zero_le _);grind
  ·rw[List.drop_eq_nil_of_le (by omega)];exact Nat.le_refl _
 simpa using a 0 (Nat.zero_le _)
theorem SA {l:List D}(hl:AB Ab 56 l):Oh l≤AU l:=by
 have a:∀i,i≤l.length→Oh (l.drop i)≤AU (l.drop i):=Ai _ fun i hi ih=>by
  by_cases h:i<l.length
  ·have hx:l[i]?=some l[i]:=List.getElem?_eq_getElem h;generalize l[i]=x at hx;have h1:=Ue hx;have h2:=CZ hx;have ih:=ih h;obtain⟨k,_,_,_,_,_,body,_,_,_,_,_,_,_,_,_,rfl,_,_,_,_,_,_,hbo,_⟩:=lV (hl.mem hx);simp only[to1]at h1;simp only[wt,AU]at h2;have:=Xz body hbo;split at h1<;>omega
  ·rw[List.drop_eq_nil_of_le (by omega)];exact Nat.le_refl _
 simpa using a 0 (Nat.zero_le _)
def P9 (l:List D):List D→Int→List D→Int→Prop:=fun fu mn ki e=>(e=0∧fu.length=Oh l∧(∃(j:Nat) (vs:List D),mn=j∧fu[j]?=some (.agg (.str Gg::vs)))∧(∀x∈fu,∃s,Fn s x)∧(∀x∈l,mY x)∧(∀x∈ki,Kd x)∧Ev (fun n=>F16 n fu mn ki) 0)∨(e≠0∧fu=[]∧mn=0∧ki=[])
def Mz (mn:Int) (fu rest:List D):Prop:=(∃(j:Nat) (vs:List D),mn=j∧fu[j]?=some (.agg (.str Gg::vs)))∨Mn rest
theorem Mz.app {mn:Int}{fu rest:List D}{x:D}(h:Mz mn fu rest):Mz mn (fu++[x]) rest:=by
 rcases h with⟨j,vs,e,h⟩ | h
 ·exact .inl ⟨j,vs,e,by grind⟩
 ·exact .inr h
theorem d73 {γ:Type}{P:γ→Prop}{ns b:List D}{k:Nat→List D→List D→Option γ}(h:Wp (fun n=>k n ns b) P):Wp (fun n=>E9 (.agg [.list false 1 ns,.list true 15 b]) (k n)) P:=h
section
variable {l:List D}(hl:AB Ab 56 l) (hw:AU l≤20000)
include hl hw
theorem t9e (hit:∀x∈l,mY x) (z5:Int) {ki:List D}(hk:∀x∈ki,Kd x) (mn:Int) {j:Nat}{vs:List D}(hm:mn=(j:Int)):
  ∀(m:Nat) (i:Nat) {s:ByteArray} {z1 z2:Int} {fu' lf:List D},lw (lf.drop i)=m→i≤lf.length→(∀x∈lf,Lf x)→(∀x∈fu',∃s,Fn s x)→fu'[j]?=some (.agg (.str Gg::vs))→fu'.length+lw (lf.drop i)=Oh l→i≤fu'.length→W4 (fun n=>UY n z5 i l mn s z1 z2 fu' ki lf) (P9 l):=by
 intro m
 induction m using Nat.strongRecOn with | _ m IH
 intro i s z1 z2 fu' lf hm2 hi hlf hfu hj2 htot hll;have htw:=SA hl;have hdl:=Ry (a:=lf.drop i) fun x hx=>hlf x (List.mem_of_mem_drop hx)
 rw[List.length_drop]at hdl;refine wU ?_;simp only[UY,Int.toNat_natCast];refine wL (wI (fun h=>wN (by omega) (wK (by omega) fun x hx=>?_)) fun h=>?_)
 ·obtain⟨ns,body,rfl,h1,h2,⟨d,h3⟩,h4⟩:=hlf x (List.mem_of_getElem? hx)
  have hlw:lw (lf.drop i)=1+Dp body+lw (lf.drop (i+1)):=by
   obtain⟨hi,e⟩:=List.getElem?_eq_some_iff.1 hx;rw[List.drop_eq_getElem_cons hi,e,lw,lwr]
  have hn:=Eo h1;refine d73 (wN (by omega) (wK (by omega) fun y hy=>?_))
  rw[hx]at hy;cases hy
  refine d73 (c9 (t22 hl hw (fun x hx=>by
   obtain⟨s,rfl,_⟩:=yH (h1.2 x hx);exact⟨s,rfl⟩) (by omega) h2 h3 (by omega) .nil .nil (by simp[AU]) (by decide) (by omega) (by grind) Ib (z5:=0) (by decide) ByteArray.empty ByteArray.empty ByteArray.empty 0 z5 s z1 z2) fun it' mn' _ _ _ fu2 ki' lf2 _ ⟨e1,e2,e3,⟨e,e4,h5,h6⟩,x,e5,h7⟩=>?_)
  subst e1;subst e2;subst e3;subst e4;subst e5;have hd:(lf++e).drop (i+1)=lf.drop (i+1)++e:=List.drop_append_of_le_length (by omega)
  have hl2:=Ry h5;refine wi (by omega) (IH (lw ((lf++e).drop (i+1))) (by rw[hd,Rx];omega) (i+1) rfl (by simp;omega) (fun x hx=>(List.mem_append.1 hx).elim (hlf x) (h5 x)) (fun x hx=>(List.mem_append.1 hx).elim (hfu x) fun hx=>⟨Ib,by simp_all⟩) (by grind) (by rw[hd,Rx];simp;omega) (by simp;omega))
 ·obtain⟨r,hr,_⟩:=v16 hfu hk mn;refine c1 (Q:=fun r'=>r'=r) ⟨r,hr,rfl⟩ fun r' e=>wI (fun e0=>wS (.inl ⟨rfl,?_,⟨j,vs,hm,hj2⟩,hfu,hit,hk,?_⟩)) fun _=>wS (.inr ⟨by decide,rfl,rfl,rfl⟩)
  ·rw[List.drop_eq_nil_of_le (by omega)]at htot
   simpa [lw] using htot
  simp_all
omit hl hw in
theorem Mn.step {i:Nat}{x:D}(hx:l[i]?=some x) (h:∀vs,x≠ .agg (.int .u8 3::.str Gg::vs)) (hm:Mn (l.drop i)):Mn (l.drop (i+1)):=by
 obtain⟨vs,hv⟩:=hm;rw[drop_at hx]at hv;rcases List.mem_cons.1 hv with e | hv
 ·grind
 ·exact⟨vs,hv⟩
theorem t9a (hit:∀x∈l,mY x) (z5:Int) {ki:List D}(hk:∀x∈ki,Kd x):∀i,i≤l.length→∀{s:ByteArray}{z1 z2 mn:Int}{fu lf:List D},(∀x∈lf,Lf x)→(∀x∈fu,∃s,Fn s x)→fu.length+lw lf+Oh (l.drop i)=Oh l→Mz mn fu (l.drop i)→W4 (fun n=>Rt n z5 l l.length i l mn s z1 z2 fu ki lf) (P9 l):=Ai _ fun i hi ih s z1 z2 mn fu lf hlf hfu htot hmz=>wU (by
 have:=hl.le;have htw:=SA hl;have hdl:=Ry hlf;have hdi:=BI l i;simp only[Rt];refine wI (fun h=>qE hl (by omega) fun k s1 l3 y4 s5 l6 l7 y8 y9 s10 s11 s12 l13 l14 y15 y16 hx hw' _ _ h3 _ _ h6 h7 h8 h9 _ _ _ h13 h14 _ _=>?_) fun h=>?_
 ·have ht:=Ue hx;simp only[to1]at ht;refine wI (fun hk3=>?_) fun hk3=>wi (by omega) (ih (by omega) hlf hfu (by simp_all) (hmz.imp_right (Mn.step hx fun vs e=>hk3 (by cases e;rfl))))
  rw[if_pos hk3]at ht;obtain⟨w1,w2,w3⟩:=hit _ (List.mem_of_getElem? hx) hk3;have hsw:=Xz l7 h7;have h13n:=Eo h13
  have hl3:l3.length≤AU l3:=Ik fun x hx=>by
   obtain⟨_,_,_,_,rfl,_⟩:=lU (h3.2 x hx);exact⟨_,rfl⟩
  have a:∀mn',(∀x,Fn s1 x→Mz mn' (fu++[x]) (l.drop (i+1)))→W4 (fun n=>UZ n z5 l l.length i l s z1 z2 fu ki lf s1 l3 l7 y8 y9 s10 s11 s12 l13 l14 y15 mn') (P9 l):=fun mn' hmz'=>wU (by
   simp only[UZ]
   have b:∀j,j≤l3.length→∀{ns:List D},Nm ns→ns.length=j→W4 (fun n=>Ua n z5 l l.length i l s z1 z2 fu ki lf s1 l3 l7 y8 y9 s10 s11 s12 l13 l14 y15 mn' l3.length j l3 ns) (P9 l):=Ai _ fun j hj ih2 ns hns hnl=>wU (by
    simp only[Ua];refine wI (fun h=>Xx h3 (by omega) fun f _ _ _ _ _ _ _ _ _=>wX (wA (ap (by simp;omega) (by omega)) (wi (by omega) (ih2 (by omega) (XA hns fun x hx=>⟨_,List.mem_singleton.1 hx⟩) (by simp[hnl]))))) fun _=>c9 (t22 hl hw hns (by omega) h7 w3 (by omega) h13 h14 (by omega) h8 (by omega) (by omega) s1 h9 s10 s11 s12 y15 z5 s z1 z2) fun it' mn2 _ _ _ fu2 ki' lf2 _ ⟨e1,e2,e3,⟨e,e4,h5,h6⟩,x,e5,h7⟩=>?_
    subst e1;subst e2;subst e3;subst e4;subst e5;exact wi (by omega) (ih (by omega) (fun x hx=>(List.mem_append.1 hx).elim (hlf x) (h5 x)) (fun x hx=>(List.mem_append.1 hx).elim (hfu x) fun hx=>⟨s1,by simp_all⟩) (by rw[Rx];simp;omega) (hmz' x h7)))
   exact wL (b 0 (Nat.zero_le _) nx rfl))
  exact wI (fun es=>wL (a _ fun x ⟨p,z,co,e,_⟩=>.inl ⟨fu.length,[.int .i64 p,.int .i64 z,.list true 9 co],rfl,by simp[e,es]⟩)) fun es=>a mn fun x _=>Mz.app (hmz.imp_right (Mn.step hx fun vs e=>es (by cases e;rfl)))
 ·rw[List.drop_eq_nil_of_le (by omega)]at htot hmz
  rcases hmz with⟨j,vs,hm,hj⟩ | ⟨vs,h⟩
  ·exact t9e hl hw hit z5 hk mn hm _ 0 rfl (Nat.zero_le _) hlf hfu hj (by simpa [Oh] using htot) (Nat.zero_le _)
  ·cases h)
theorem t9:W4 (fun n=>F9 n l) (P9 l):=by
 have hlen:l.length≤AU l:=Ik fun x hx=>by
  obtain⟨_,_,_,_,_,_,_,_,_,_,_,_,_,_,_,_,rfl,_⟩:=lV (hl.2 x hx);exact⟨_,rfl⟩
 unfold F9;refine c1 (t20 hl hw (by omega)) fun q hq=>wL (wI (fun _=>wS (.inr ⟨by decide,rfl,rfl,rfl⟩)) fun h0=>wL ?_)
 obtain⟨hit,hmn⟩:=hq (List.length_eq_zero_iff.1 (by omega))
 have a:∀i,i≤l.length→∀z5 {ki:List D},(∀x∈ki,Kd x)→ki.length≤i→W4 (fun n=>Ru n l l.length z5 i l l ki) (P9 l):=Ai _ fun i hi ih z5 ki hk hkl=>wU (by
  have hdi:=BI l i;simp only[Ru];exact wI (fun h=>qE hl (by omega) fun k s1 l3 y4 s5 l6 l7 y8 y9 s10 s11 s12 l13 l14 y15 y16 hx hw' _ _ h3 _ _ _ _ _ _ _ _ _ _ _ _ _=>wI (fun _=>wT (wi (by omega) (ih (by omega) _ hk (by omega)))) fun _=>u3 (t21 h3 (by omega) _ _ _ _ _ _ _ _ _ _ _ _ _ _ _) fun b1 b2 b3=>wA (ap (by simp;omega) (by omega)) (wi (by omega) (ih (by omega) _ (fun x hx=>(List.mem_append.1 hx).elim (hk x) fun hx=>⟨b1,0,0,0,0,0,b2,ByteArray.empty,ByteArray.empty,ByteArray.empty,ByteArray.empty,b3,[],[],[],[],List.mem_singleton.1 hx⟩) (by simp;omega)))) fun _=>wL (t9a hl hw hit z5 hk 0 (Nat.zero_le _) nx nx (by simp[lw]) (.inr (by simpa using hmn))))
 exact a 0 (Nat.zero_le _) 0 nx (Nat.zero_le _)
end
end Go.Proofs.YtjfmnfncmfepnaaGreatDoor
end
set_option maxRecDepth 100000
set_option maxHeartbeats 40000000
set_option linter.unusedVariables false
noncomputable section
namespace Go.Proofs.YtjfmnfncmfepnaaGreatDoor
open Go Go.AM
mutual
def Uf:Nat->LD->Int->Int->BA->LD->Option (Int×BA×LD)
 | 0,_,_,_,_,_=>none
 | n+1,a,b,k,l,m=>
  AO a fun o=>(if b<o then Ae a b fun p=>D0 p fun c d e=>Dq (zC n c d e) fun f g h=>Bw 48 m ([.agg [.int .u8 f,.str g,.list true 3 h]]) fun i=>AW (IntKind.wrap .i64 (b+1)) fun j=>Uf n a j k l i else some (k,l,m))
def zC:Nat->Int->BA->LD->Option (Int×BA×LD)
 | 0,_,_,_=>none
 | n+1,q,r,a=>
  Uf n a 0 q r ([]:LD)
end
noncomputable def X24:AH:=⟨24,Tryz.f24,true,[.agg [.y,.s,.q 3]],[],[⟨.one (.mix [.y,.s,.x 0]),[],[.l true 3]⟩],Int×BA×LD,ii,zC,.g [.treeC (.o 96) 2 true 3] [] .e,[⟨122,[1,2,3,4],[.o 0,.o 32,.o 96,.o 256],288,[.u 0,.u 32,.u 96,.z],[.c [.y,.s,.q 3],.c [.ci .u8 0,.cs ByteArray.empty,.nils true 3],.c [.y,.s,.x 256],.l true 3],fun n a _ _ d f h i=>Uf n d a f h i,.b (.n 0 (.g [] [(736,256)] .e)) .e⟩],none,[]⟩
theorem K24:Bb Tryz.prog inv (D3 [X24]):=gr [] ⟨ge Tryz.func24,trivial⟩
def k24:Kz:=⟨X24.c,K24.1⟩
def Ug:Nat->LD->Int->LD->Option LD
 | 0,_,_,_=>none
 | n+1,a,b,l=>
  AO a fun m=>(if b<m then Ae a b fun o=>Bt o fun p r s t=>Ae a b fun c=>Bt c fun q d e f=>Dq (zC n d e f) fun g h i=>Bw 64 l ([.agg [.str p,.int .u8 g,.str h,.list true 3 i]]) fun j=>AW (IntKind.wrap .i64 (b+1)) fun k=>Ug n a k j else some l)
def F23 (n:Nat) (a:LD):Option LD:=
 Ug n a 0 ([]:LD)
noncomputable def X23:AH:=⟨23,Tryz.f23,true,[.q 4],[],[⟨.one (.w (.o 0)),[],[.l4]⟩],LD,ii,F23,.g [.treeS 3 true 4] [] .e,[⟨58,[0,2,3,4],[.o 96],128,[.q 4,.one (.nils true 4),.w (.o 96),.z],[.l4],Ug,.b (.n 0 (.g [] [(704,96)] .e)) .e⟩],none,[]⟩
def k23:Kz:=sg X23 [k24] Tryz.func23
def F70 (n:Nat) (b:BA) (a:LD):Option (BA×LD):=
 Be (HY a=true) (Bw 16 ([]:LD) a fun c=>some (b,c))
noncomputable def X70:AH:=⟨70,Tryz.f70,true,[.agg [.s,.f 1]],[],[⟨.one (.mix [.s,.x 0]),[],[.f1]⟩],BA×LD,ii,F70,.e,[],none,[]⟩
def k70:Kz:=sg X70 [] Tryz.func70
mutual
def Uh:Nat->LD->Bool->BA->LD->Int->Int->Int->BA->BA->Int->LD->Option (Int×Int×BA×BA×BA×Int×LD×LD)
 | 0,_,_,_,_,_,_,_,_,_,_,_=>none
 | n+1,i,j,a,b,h,c,d,e,f,k,g=>
  AO i fun l=>(if h<l then Ae i h fun m=>Bj m fun o p q r s t u v=>XX (zY n o p q r s t u v j) fun w x y z A B C E=>Bw 120 g ([.agg [.int .u8 w,.int .i64 x,.str y,.str z,.str A,.list false 1 C,.list true 8 E,.int .i64 B]]) fun F=>AW (IntKind.wrap .i64 (h+1)) fun G=>Uh n i j a b G c d e f k F else Ax (!j) fun H=>(if H=true then X0 n a b c d e f g 0 else X0 n a b c d e f g k))
def X0:Nat->BA->LD->Int->Int->BA->BA->LD->Int->Option (Int×Int×BA×BA×BA×Int×LD×LD)
 | 0,_,_,_,_,_,_,_,_=>none
 | n+1,a,b,c,d,e,f,g,I=>
  some (c,d,e,f,a,I,b,g)
def zY:Nat->Int->Int->BA->BA->BA->LD->LD->Int->Bool->Option (Int×Int×BA×BA×BA×Int×LD×LD)
 | 0,_,_,_,_,_,_,_,_,_=>none
 | n+1,J,K,L,M,N,O,i,P,j=>
  Im (F70 n N O) fun a b=>Uh n i j a b 0 J K L M P ([]:LD)
end
noncomputable def X26:AH:=⟨26,Tryz.f26,true,[.agg [.y,.z,.s,.s,.s,.f 1,.q 8,.z],.b],[],[⟨.one (.mix [.y,.z,.s,.s,.s,.x 0,.x 1,.z]),[],[.f1,.l true 8]⟩],Int×Int×BA×BA×BA×Int×LD×LD,ii,zY,.n 0 (.g [.treeC (.o 96) 6 true 8] [] .e),[⟨250,[1,2,4,5,6],[.o 0,.o 32,.o 96,.o 224,.o 416],448,[.b,.u 0,.u 32,.u 96,.z],[.c [.y,.z,.s,.s,.s,.f 1,.q 8,.z],.c [.ci .u8 0,.k 0,.cs ByteArray.empty,.cs ByteArray.empty,.cs ByteArray.empty,.nils false 1,.nils true 8,.k 0],.c [.y,.z,.s,.s,.s,.x 224,.x 416,.z],.f1,.l true 8],fun n w r _ _ _ _ _ _ A _ a d h i j t m p=>Uh n A w j m r a d h i t p,.b (.n 0 (.g [] [(928,416)] .e)) .e⟩,
 ⟨127,[4,5],[.o 32,.o 96,.o 224,.o 416],736,[.u 32,.u 96],[.c [.ci .u8 0,.k 0,.cs ByteArray.empty,.cs ByteArray.empty,.cs ByteArray.empty,.nils false 1,.nils true 8,.k 0],.c [.y,.z,.s,.s,.s,.x 224,.x 416,.z],.f1,.l true 8],fun n a d h i j v m p=>X0 n j m a d h i p v,.e⟩],none,[]⟩
theorem K26:Bb Tryz.prog inv (D3 [X26]):=gr [k70] ⟨ge Tryz.func26,trivial⟩
def k26:Kz:=⟨X26.c,K26.1⟩
mutual
def Ui:Nat->LD->Bool->Int->LD->Option LD
 | 0,_,_,_,_=>none
 | n+1,a,l,d,q=>
  AO a fun z5=>(if d<z5 then Ae a d fun x6=>Ba x6 fun s t u bK bL bM bN e bO bP bQ bR bT bU p=>Ae a d fun an=>Ba an fun bV bW bX w bY bZ b0 b1 b3 b4 b5 b6 b7 b8 b9=>Be (HY w=true) (Bw 16 ([]:LD) w fun f=>Ae a d fun ao=>Ba ao fun ca cb cc ce aq ar au cf cg ch cj ck cl cm co=>Dq (zC n aq ar au) fun g h i=>Ae a d fun av=>Ba av fun cp cq cr cs ct cu cv cw aw ax cx cy cz cA cB=>Im (F70 n aw ax) fun j k=>Uj n a l d q s t u e p f g h i j k 0 ([]:LD))else some q)
def Uj:Nat->LD->Bool->Int->LD->Int->BA->BA->Int->Int->LD->Int->BA->LD->BA->LD->Int->LD->Option LD
 | 0,_,_,_,_,_,_,_,_,_,_,_,_,_,_,_,_,_=>none
 | n+1,a,l,d,q,s,t,u,e,p,f,g,h,i,j,k,v,m=>
  Ae a d fun ay=>Ba ay fun cC cD cE cF cG cH cI cJ cK cM az cN cO cQ cS=>AO az fun aA=>(if v<aA then Ae a d fun aB=>Ba aB fun cT cU cV cW aC aD aE aF aG aH x aI aJ aK aL=>Ae x v fun y=>Bj y fun z A B C E F G H=>XX (zY n z A B C E F G H l) fun I J K L M N O P=>Bw 120 m ([.agg [.int .u8 I,.int .i64 J,.str K,.str L,.str M,.list false 1 O,.list true 8 P,.int .i64 N]]) fun Q=>AW (IntKind.wrap .i64 (v+1)) fun R=>Uj n a l d q s t u e p f g h i j k R Q else Ae a d fun S=>Ba S fun aM aN aO aP aQ aR aS aT aU aV aW T aX aY aZ=>Au (zE n T l) fun b=>Ae a d fun U=>Ba U fun a0 a1 a2 a3 a4 a5 a6 a7 a8 a9 ba bb V bc bd=>Au (zE n V l) fun c=>Uk n a l d q s t u e p f g h i j k m b c 0 ([]:LD))
def Uk:Nat->LD->Bool->Int->LD->Int->BA->BA->Int->Int->LD->Int->BA->LD->BA->LD->LD->LD->LD->Int->LD->Option LD
 | 0,_,_,_,_,_,_,_,_,_,_,_,_,_,_,_,_,_,_,_,_=>none
 | n+1,a,l,d,q,s,t,u,e,p,f,g,h,i,j,k,m,b,c,r,o=>
  Ae a d fun W=>Ba W fun be bf bg bh bi bj bl bm bn bo bp bq br X bs=>AO X fun Y=>(if r<Y then Ae a d fun Z=>Ba Z fun bt bu bv bw bx bz bA bB bC bD bE bF bG aa bH=>Ae aa r fun ab=>Cv ab fun ac ad ae=>Au (zE n ae l) fun af=>Bw 56 o ([.agg [.str ac,.str ad,.list true 15 af]]) fun ag=>AW (IntKind.wrap .i64 (r+1)) fun ah=>Uk n a l d q s t u e p f g h i j k m b c ah ag else Ax (!l) fun ai=>(if ai=true then X1 n a l d q s t u e f g h i j k m b c o 0 else X1 n a l d q s t u e f g h i j k m b c o p))
def X1:Nat->LD->Bool->Int->LD->Int->BA->BA->Int->LD->Int->BA->LD->BA->LD->LD->LD->LD->LD->Int->Option LD
 | 0,_,_,_,_,_,_,_,_,_,_,_,_,_,_,_,_,_,_,_=>none
 | n+1,a,l,d,q,s,t,u,e,f,g,h,i,j,k,m,b,c,o,aj=>
  Bw 264 q ([.agg [.int .u8 s,.str t,.str u,.list false 1 f,.int .u8 g,.str h,.list true 3 i,.int .i64 e,.str j,.list false 1 k,.list true 8 m,.list true 15 b,.list true 15 c,.list true 3 o,.int .i64 aj]]) fun ak=>AW (IntKind.wrap .i64 (d+1)) fun am=>Ui n a l am ak
def zE:Nat->LD->Bool->Option LD
 | 0,_,_=>none
 | n+1,a,l=>
  Ui n a l 0 ([]:LD)
end
noncomputable def X25:AH:=⟨25,Tryz.f25,true,[.q 15,.b],[],[⟨.one (.w (.o 0)),[],[.l true 15]⟩],LD,ii,zE,.g [.treeS 5 true 15] [] .e,[⟨58,[0,1,4,5,6],[.o 96],128,[.q 15,.b,.one (.nils true 15),.w (.o 96),.z],[.l true 15],Ui,.b (.n 1 (.g [.treeC (.o 384) 10 true 8] [] .e)) .e⟩,
 ⟨119418,[0,1,4,5,6,7,8],[.o 96,.o 384,.o 864,.o 1120,.o 1312,.o 1504],1536,[.q 15,.b,.one (.nils true 15),.w (.o 96),.z,.u 384,.z],[.l true 15,.c [.y,.s,.s,.x 864,.y,.s,.x 1120,.z,.s,.x 1312,.x 1504,.q 15,.q 15,.nils true 3,.z],.f1,.l true 3,.f1,.l true 8],fun n A B C K E F G H a d f h _ _ v i j k m=>Uj n A B C E F G H f v i a d j h k K m,.b (.n 0 (.g [] [(2208,1504)] .e)) (.n 1 (.g [.treeC (.o 384) 13 true 3] [] .e))⟩,
 ⟨477690,[0,1,4,5,6,7,8,9],[.o 96,.o 384,.o 864,.o 1120,.o 1312,.o 1504,.o 1984,.o 2208,.o 2400],2432,[.q 15,.b,.one (.nils true 15),.w (.o 96),.z,.u 384,.z,.z],[.l true 15,.c [.y,.s,.s,.x 864,.y,.s,.x 1120,.z,.s,.x 1312,.x 1504,.x 1984,.x 2208,.x 2400,.z],.f1,.l true 3,.f1,.l true 8,.l true 15,.l true 15,.l true 3],fun n A B C _ I E F G H a d f h v i j k m p r t=>Uk n A B C E F G H f v i a d j h k m p r I t,.b (.n 1 (.g [] [(3328,2400)] .e)) .e⟩,
 ⟨238847,[0,1,4,5,6,7,8,9],[.o 96,.o 384,.o 864,.o 1120,.o 1312,.o 1504,.o 1984,.o 2208,.o 2400],2816,[.q 15,.b,.one (.nils true 15),.w (.o 96),.z,.u 384,.z,.z],[.l true 15,.c [.y,.s,.s,.x 864,.y,.s,.x 1120,.z,.s,.x 1312,.x 1504,.x 1984,.x 2208,.x 2400,.z],.f1,.l true 3,.f1,.l true 8,.l true 15,.l true 15,.l true 3],fun n A B C _ _ E F G H a d f h J i j k m p r t=>X1 n A B C E F G H f i a d j h k m p r t J,.n 0 (.g [] [(2912,96)] .e)⟩],none,[]⟩
theorem K25:Bb Tryz.prog inv (D3 [X25]):=gr [k24,k26,k70] ⟨ge Tryz.func25,trivial⟩
def k25:Kz:=⟨X25.c,K25.1⟩
mutual
def Ul:Nat->LD->Bool->Int->LD->Option LD
 | 0,_,_,_,_=>none
 | n+1,p,o,q,r=>
  AO p fun M=>(if q<M then Ae p q fun N=>BZ N fun s t O u v w x y z A B C E F G H=>Au (F23 n O) fun a=>Dq (zC n u v w) fun b c d=>Au (zE n x o) fun e=>XX (zY n y z A B C E F G o) fun f g h i j k l m=>Ax (!o) fun I=>(if I=true then X3 n p o q r s t a b c d e f g h i j k l m 0 else X3 n p o q r s t a b c d e f g h i j k l m H)else some r)
def X3:Nat->LD->Bool->Int->LD->Int->BA->LD->Int->BA->LD->LD->Int->Int->BA->BA->BA->Int->LD->LD->Int->Option LD
 | 0,_,_,_,_,_,_,_,_,_,_,_,_,_,_,_,_,_,_,_,_=>none
 | n+1,p,o,q,r,s,t,a,b,c,d,e,f,g,h,i,j,k,l,m,J=>
  Bw 248 r ([.agg [.int .u8 s,.str t,.list true 4 a,.int .u8 b,.str c,.list true 3 d,.list true 15 e,.int .u8 f,.int .i64 g,.str h,.str i,.str j,.list false 1 l,.list true 8 m,.int .i64 k,.int .i64 J]]) fun K=>AW (IntKind.wrap .i64 (q+1)) fun L=>Ul n p o L K
end
def F10 (n:Nat) (a:LD) (b:Bool):Option LD:=
 Ul n a b 0 ([]:LD)
noncomputable def X10:AH:=⟨10,Tryz.f10,true,[.agg [.q 16],.b],[],[⟨.one (.mix [.x 0]),[],[.l16]⟩],LD,ii,F10,.g [.treeC (.o 64) 0 true 16] [] .e,[⟨58,[1,2,4,5,6],[.o 0,.o 32,.o 64,.o 128],160,[.b,.u 0,.u 32,.u 64,.z],[.c [.q 16],.c [.nils true 16],.c [.x 128],.l16],fun n a d f l4=>Ul n f a d l4,.e⟩,
 ⟨14927,[1,2,4,5,6,7],[.o 0,.o 32,.o 64,.o 128,.o 480,.o 608,.o 704,.o 960,.o 1088,.o 1089],1376,[.b,.u 0,.u 32,.u 64,.z,.u 480],[.c [.q 16],.c [.nils true 16],.c [.x 128],.l16,.c [.y,.s,.x 608,.y,.s,.x 704,.x 960,.y,.z,.s,.s,.s,.x 1088,.x 1089,.z,.z],.l4,.l true 3,.l true 15,.f1,.l true 8],fun n a d f l4 F G h i j k m p r t v w A B C E=>X3 n f a d l4 F G w h i A B j k m p r t C E v,.n 0 (.g [] [(1504,128)] .e)⟩],none,[]⟩
def k10:Kz:=sg X10 [k23,k24,k25,k26] Tryz.func10
end Go.Proofs.YtjfmnfncmfepnaaGreatDoor
end
set_option linter.unusedVariables false
noncomputable section
namespace Go.Proofs.YtjfmnfncmfepnaaGreatDoor
open Go Go.AM
section
variable {l:List D}{i:Nat}
theorem XB {x:D}(h:l[i]?=some x):l.take (i+1)=l.take i++[x]:=by rw[List.take_add_one,h];rfl
variable {acc:List D}
theorem Ef.snoc {x y:D}(h:Ef (l.take i) acc) (hx:l[i]?=some x) (e:Er x y):Ef (l.take (i+1)) (acc++[y]):=by
 rw[XB hx];exact h.app (.cons e .nil)
theorem Ef.fin (h:Ef (l.take i) acc) (hi:¬(i:Int)<l.length):Ef l acc:=by
 rwa [List.take_of_length_le (by omega)]at h
theorem Ef.le (h:Ef (l.take i) acc):acc.length≤l.length:=by
 rw[h.len];simp;omega
end
section
variable {γ:Type}{P:γ→Prop}
theorem gR' {l:List D}{i:Nat}{x:D}{k:Nat→D→Option γ}(hx:l[i]?=some x) (h:Wp (fun n=>k n x) P):Wp (fun n=>Ae l (i:Int) (k n)) P:=gi (List.getElem?_eq_some_iff.1 hx).1 fun y hy=>by
 rw[hx]at hy;cases hy
 exact h
theorem AMl {l:List D}{i:Nat}{a0 a2:ByteArray}{a1:Int}{a3:List D}{k:Nat→ByteArray→Int→ByteArray→List D→Option γ}(hx:l[i]?=some (.agg [.str a0,.int .u8 a1,.str a2,.list true 3 a3])) (h:Wp (fun n=>k n a0 a1 a2 a3) P):Wp (fun n=>Ae l (i:Int) fun x=>Bt x (k n)) P:=gR' (k:=fun n x=>Bt x (k n)) hx h
theorem SB {l:List D}{i:Nat}{a0 a4 a7 a14:Int}{a1 a2 a5 a8:ByteArray}{a3 a6 a9 a10 a11 a12 a13:List D}{k:Nat→Int→ByteArray→ByteArray→List D→Int→ByteArray→List D→Int→ByteArray→List D→List D→List D→List D→List D→Int→Option γ}(hx:l[i]?=some (.agg [.int .u8 a0,.str a1,.str a2,.list false 1 a3,.int .u8 a4,.str a5,.list true 3 a6,.int .i64 a7,.str a8,.list false 1 a9,.list true 8 a10,.list true 15 a11,.list true 15 a12,.list true 3 a13,.int .i64 a14])) (h:Wp (fun n=>k n a0 a1 a2 a3 a4 a5 a6 a7 a8 a9 a10 a11 a12 a13 a14) P):Wp (fun n=>Ae l (i:Int) fun x=>Ba x (k n)) P:=gR' (k:=fun n x=>Ba x (k n)) hx h
end
section
variable {l:List D}
theorem nm9 (h:AB Ab 9 l):Nm l:=fun x hx=>by
 obtain⟨s,rfl,_⟩:=yH (h.2 x hx);exact⟨s,rfl⟩
theorem zF:∀{l:List D},Nm l→l.length≤AU l
 | [],_=>Nat.le_refl _
 | x::l,h=>by
  obtain⟨s,rfl⟩:=h x (List.mem_cons_self ..);have:=zF fun y hy=>h y (List.mem_cons_of_mem _ hy)
  simp only[AU,wt,List.length_cons];omega
theorem G3 {t:Nat}(h:AB Ab t l) (hr:∀x,GN Ab t x→∃cs,x= .agg cs):l.length≤AU l:=Ik fun x hx=>hr x (h.2 x hx)
theorem y24 (l:List D):AB Ab 48 l→AU l≤20000→∀z s,W3 (fun n=>zC n z s l) fun a b c=>a=z∧b=s∧c=l:=by
 induction l using IQ with | H l IH
 intro hl hw z s;have hll:=G3 hl fun x hx=>by obtain⟨_,_,_,rfl,_⟩:=yI hx;exact⟨_,rfl⟩
 have a:∀i,i≤l.length→∀acc,acc=l.take i→W3 (fun n=>Uf n l i z s acc) fun a b c=>a=z∧b=s∧c=l:=Ai _ fun i hi ih acc ha=>wU (by
  have hd:=BI l i;have hal:acc.length=i:=by rw[ha];simp;omega
  simp only[Uf];exact wL (wI (fun h=>zV hl (by omega) fun k s2 m hx hv _ _ hm=>c3 (IH m (by omega) hm (by omega) k s2) fun a b c ⟨e1,e2,e3⟩=>wA (ap (by simp;omega) (by omega)) (wi (by omega) (ih (by omega) _ (by subst e1 e2 e3 ha;rw[XB hx])))) fun h=>wS ⟨rfl,rfl,by rw[ha];exact List.take_of_length_le (by omega)⟩))
 exact wU (by simp only[zC];exact a 0 (Nat.zero_le _) [] rfl)
theorem y23 (hl:AB Ab 58 l) (hw:AU l≤20000):Wp (fun n=>F23 n l) fun r=>r=l:=by
 have hll:=G3 hl fun x hx=>by obtain⟨_,_,_,_,rfl,_⟩:=lU hx;exact⟨_,rfl⟩
 have a:∀i,i≤l.length→∀acc,acc=l.take i→Wp (fun n=>Ug n l i acc) fun r=>r=l:=Ai _ fun i hi ih acc ha=>wU (by
  have hd:=BI l i;have hal:acc.length=i:=by rw[ha];simp;omega
  simp only[Ug];exact wL (wI (fun h=>Xx hl (by omega) fun s1 k s2 m hx hv _ _ _ hm=>AMl hx (c3 (y24 m hm (by omega) k s2) fun a b c ⟨e1,e2,e3⟩=>wA (ap (by simp;omega) (by omega)) (wi (by omega) (ih (by omega) _ (by subst e1 e2 e3 ha;rw[XB hx]))))) fun h=>wS (by rw[ha];exact List.take_of_length_le (by omega))))
 unfold F23;exact a 0 (Nat.zero_le _) [] rfl
theorem y70 (s:ByteArray) (hl:AB Ab 9 l) (hw:AU l≤20000):W2 (fun n=>F70 n s l) fun a b=>a=s∧b=l:=by
 have:=zF (nm9 hl);unfold F70;exact wN (zB (nm9 hl)) (wA (ap (by simp;omega) (by omega)) (wS ⟨rfl,rfl⟩))
theorem y26 (l:List D):AB Ab 54 l→AU l≤20000→∀z1 z2 s3 s4 s5 {l6} z8,AB Ab 9 l6→AU l6≤20000→W8 (fun n=>zY n z1 z2 s3 s4 s5 l6 l z8 false) fun a b c d e f g h=>a=z1∧b=z2∧c=s3∧d=s4∧e=s5∧g=l6∧Ef l h:=by
 induction l using IQ with | H l IH
 intro hl hw z1 z2 s3 s4 s5 l6 z8 h6 hw6;have hll:=G3 hl fun x hx=>by obtain⟨_,_,_,_,_,_,_,_,rfl,_⟩:=yJ hx;exact⟨_,rfl⟩
 have a:∀i,i≤l.length→∀acc,Ef (l.take i) acc→W8 (fun n=>Uh n l false s5 l6 i z1 z2 s3 s4 z8 acc) fun a b c d e f g h=>a=z1∧b=z2∧c=s3∧d=s4∧e=s5∧g=l6∧Ef l h:=Ai _ fun i hi ih acc ha=>wU (by
  have hd:=BI l i;have hal:=ha.le;simp only[Uh];exact wL (wI (fun h=>Ub hl (by omega) fun k z t1 t2 t3 m5 m6 z7 hx hv _ _ _ _ _ h5 hm _=>c8 (IH m6 (by omega) hm (by omega) k z t1 t2 t3 z7 h5 (by omega)) fun _ _ _ _ _ _ _ _ ⟨e1,e2,e3,e4,e5,e6,e7⟩=>wA (ap (by simp;omega) (by omega)) (wi (by omega) (ih (by omega) _ (by subst e1 e2 e3 e4 e5 e6;exact ha.snoc hx (.e e7))))) fun h=>wB (wI (fun _=>wU (by simp only[X0];exact wS ⟨rfl,rfl,rfl,rfl,rfl,rfl,ha.fin h⟩)) fun h=>absurd rfl h)))
 exact wU (by simp only[zY];exact c2 (y70 s5 h6 hw6) fun _ _ ⟨e1,e2⟩=>by subst e1 e2;exact a 0 (Nat.zero_le _) [] .nil)
theorem y25 (l:List D):AB Ab 90 l→AU l≤20000→Wp (fun n=>zE n l false) fun r=>Ef l r:=by
 induction l using IQ with | H l IH
 intro hl hw;have hll:=G3 hl fun x hx=>by obtain⟨_,_,_,_,_,_,_,_,_,_,_,_,_,_,_,rfl,_⟩:=yK hx;exact⟨_,rfl⟩
 have a:∀i,i≤l.length→∀acc,Ef (l.take i) acc→Wp (fun n=>Ui n l false i acc) fun r=>Ef l r:=Ai _ fun i hi ih acc ha=>wU (by
  have hd:=BI l i;have hal:=ha.le;simp only[Ui];refine wL (wI (fun h=>tA hl (by omega) fun a0 a1 a2 a3 a4 a5 a6 a7 a8 a9 a10 a11 a12 a13 a14 hx hv _ _ _ h3 _ _ h6 _ _ h9 h10 h11 h12 h13 _=>SB hx (wN (zB (nm9 h3)) (wA (ap (by have:=zF (nm9 h3);simp;omega) (by omega)) (SB hx (c3 (y24 a6 h6 (by omega) a4 a5) fun b4 b5 b6 ⟨e1,e2,e3⟩=>SB hx (c2 (y70 a8 h9 (by omega)) fun b8 b9 ⟨e4,e5⟩=>?_)))))) fun h=>wS (ha.fin h))
  subst e1 e2 e3 e4 e5;have l10:=G3 h10 fun x hx=>by obtain⟨_,_,_,_,_,_,_,_,rfl,_⟩:=yJ hx;exact⟨_,rfl⟩
  have l13:=G3 h13 fun x hx=>by obtain⟨_,_,_,rfl,_⟩:=Wx hx;exact⟨_,rfl⟩
  have b3:∀e u v,Ef a10 e→Ef a11 u→Ef a12 v→∀j,j≤a13.length→∀acc3,Ef (a13.take j) acc3→Wp (fun n=>Uk n l false i acc a0 a1 a2 a7 a14 ([]++a3) b4 b5 b6 b8 b9 e u v j acc3) fun r=>Ef l r:=fun e u v he hu hv'=>Ai _ fun j hj jh acc3 ha3=>wU (by
   have hd3:=BI a13 j;have hal3:=ha3.le;simp only[Uk];refine SB hx (wL (wI (fun h'=>SB hx (qD h13 (by omega) fun t1 t2 m hy hv2 _ _ hm=>c1 (IH m (by omega) hm (by omega)) fun r hr=>wA (ap (by simp;omega) (by omega)) (wi (by omega) (jh (by omega) _ (ha3.snoc hy (.a hr)))))) fun h'=>wB (wI (fun _=>wU ?_) fun h=>absurd rfl h)))
   simp only[X1];exact wA (ap (by simp;omega) (by omega)) (wi (by omega) (ih (by omega) _ (ha.snoc hx (.s he hu hv' (ha3.fin h'))))))
  have b2:∀j,j≤a10.length→∀acc2,Ef (a10.take j) acc2→Wp (fun n=>Uj n l false i acc a0 a1 a2 a7 a14 ([]++a3) b4 b5 b6 b8 b9 j acc2) fun r=>Ef l r:=Ai _ fun j hj jh acc2 ha2=>wU (by
   have hd2:=BI a10 j;have hal2:=ha2.le;simp only[Uj];exact SB hx (wL (wI (fun h'=>SB hx (Ub h10 (by omega) fun k z t1 t2 t3 m5 m6 z7 hy hv2 _ _ _ _ _ q5 hm _=>c8 (y26 m6 hm (by omega) k z t1 t2 t3 z7 q5 (by omega)) fun _ _ _ _ _ _ _ _ ⟨e1,e2,e3,e4,e5,e6,e7⟩=>wA (ap (by simp;omega) (by omega)) (wi (by omega) (jh (by omega) _ (by subst e1 e2 e3 e4 e5 e6;exact ha2.snoc hy (.e e7)))))) fun h'=>SB hx (c1 (IH a11 (by omega) h11 (by omega)) fun u hu=>SB hx (c1 (IH a12 (by omega) h12 (by omega)) fun v hv'=>b3 acc2 u v (ha2.fin h') hu hv' 0 (Nat.zero_le _) [] .nil)))))
  exact b2 0 (Nat.zero_le _) [] .nil)
 exact wU (by simp only[zE];exact a 0 (Nat.zero_le _) [] .nil)
theorem y10 (hl:AB Ab 56 l) (hw:AU l≤20000):Wp (fun n=>F10 n l false) fun r=>Ef l r:=by
 have hll:=G3 hl fun x hx=>by obtain⟨_,_,_,_,_,_,_,_,_,_,_,_,_,_,_,_,rfl,_⟩:=lV hx;exact⟨_,rfl⟩
 have a:∀i,i≤l.length→∀acc,Ef (l.take i) acc→Wp (fun n=>Ul n l false i acc) fun r=>Ef l r:=Ai _ fun i hi ih acc ha=>wU (by
  have hd:=BI l i;have hal:=ha.le;simp only[Ul];refine wL (wI (fun h=>qE hl (by omega) fun a0 a1 a2 a3 a4 a5 a6 a7 a8 a9 a10 a11 a12 a13 a14 a15 hx hv _ _ h2 _ _ h5 h6 _ _ _ _ _ h12 h13 _ _=>c1 (y23 h2 (by omega)) fun _ e1=>c3 (y24 a5 h5 (by omega) a3 a4) fun _ _ _ ⟨e2,e3,e4⟩=>c1 (y25 a6 h6 (by omega)) fun u hu=>c8 (y26 a13 h13 (by omega) a7 a8 a9 a10 a11 a14 h12 (by omega)) fun _ _ _ _ _ _ _ _ ⟨f1,f2,f3,f4,f5,f6,f7⟩=>wB (wI (fun _=>wU ?_) fun h=>absurd rfl h)) fun h=>wS (ha.fin h))
  subst e1 e2 e3 e4 f1 f2 f3 f4 f5 f6;simp only[X3];exact wA (ap (by simp;omega) (by omega)) (wi (by omega) (ih (by omega) _ (ha.snoc hx (.i hu f7)))))
 unfold F10;exact a 0 (Nat.zero_le _) [] .nil
end
end Go.Proofs.YtjfmnfncmfepnaaGreatDoor
end
set_option linter.unusedVariables false
noncomputable section
namespace Go.Proofs.YtjfmnfncmfepnaaGreatDoor
open Go Go.AM
def QJ:Nat->BA->Int->Bool->Option (Int)
 | 0,_,_,_=>none
 | n+1,a,b,c=>
  (if c=true then some (-1)else AW (IntKind.wrap .i64 (b - 5)) fun d=>ZX a fun e=>AW (IntKind.wrap .i64 (d - e)) fun f=>some f)
def X4 (n:Nat) (b:BA) (a:Int):Option (Int):=
 (if a<5 then QJ n b a true else ZX b fun c=>AW (IntKind.wrap .i64 (a - 5)) fun d=>(if d<c then QJ n b a true else QJ n b a false))
noncomputable def X49:AH:=⟨49,Tryz.f49,false,[.v 0,.s],[.c [.z]],[⟨.tup [],[.c [.z]],[]⟩],Int,ii,X4,.e,[⟨5,[0,1,18],[.e 0],480,[.v 0,.s,.b],[.c [.z]],fun n a d f=>QJ n a f d,.e⟩],none,[]⟩
def zG:Kz:=sg X49 [] Tryz.func49
mutual
def Um:Nat->LD->Int->Int->Option (Int)
 | 0,_,_,_=>none
 | n+1,a,c,b=>
  AO a fun i=>(if c<i then (if 0<=b then Ae a c fun j=>D0 j fun d e f=>Au (tE n d e f b) fun g=>AW (IntKind.wrap .i64 (c+1)) fun h=>Um n a h g else some b)else some b)
def tE:Nat->Int->BA->LD->Int->Option (Int)
 | 0,_,_,_,_=>none
 | n+1,o,k,a,l=>
  Au (X4 n k l) fun m=>Um n a 0 m
end
noncomputable def X51:AH:=⟨51,Tryz.f51,false,[.v 0,.agg [.y,.s,.q 3]],[.c [.z]],[⟨.tup [],[.c [.z]],[]⟩],Int,ii,tE,.e,[⟨30,[0,3,4],[.e 0,.o 0],192,[.v 0,.u 0,.z],[.c [.z],.c [.y,.s,.q 3]],fun n a b _ _ d=>Um n d a b,.e⟩],none,[]⟩
theorem K51:Bb Tryz.prog inv (D3 [X51]):=gr [zG] ⟨ge Tryz.func51,trivial⟩
def k51:Kz:=⟨X51.c,K51.1⟩
def Un:Nat->LD->Int->Int->Option (Int)
 | 0,_,_,_=>none
 | n+1,a,b,c=>
  AO a fun k=>(if b<k then (if 0<=c then Ae a b fun l=>Bt l fun m q r o=>Au (X4 n m c) fun d=>Ae a b fun e=>Bt e fun p f g h=>Au (tE n f g h d) fun i=>AW (IntKind.wrap .i64 (b+1)) fun j=>Un n a j i else some c)else some c)
def F50 (n:Nat) (a:LD) (b:Int):Option (Int):=
 Un n a 0 b
noncomputable def X50:AH:=⟨50,Tryz.f50,false,[.v 0,.q 4],[.c [.z]],[⟨.tup [],[.c [.z]],[]⟩],Int,ii,F50,.e,[⟨6,[0,1,4],[.e 0],32,[.v 0,.q 4,.z],[.c [.z]],Un,.e⟩],none,[]⟩
def k50:Kz:=sg X50 [zG,k51] Tryz.func50
def Oi:Nat->LD->Int->Int->Option (Int)
 | 0,_,_,_=>none
 | n+1,b,c,a=>
  AO b fun e=>(if c<e then (if 0<=a then Ae b c fun f=>B0 f fun g=>Au (X4 n g a) fun h=>AW (IntKind.wrap .i64 (c+1)) fun d=>Oi n b d h else some a)else some a)
def mB (n:Nat) (a:LD) (b:Int):Option (Int):=
 AW (IntKind.wrap .i64 (b - 5)) fun c=>Oi n a 0 c
noncomputable def AMo:AH:=⟨102,Tryz.f102,false,[.v 0,.f 1],[.c [.z]],[⟨.tup [],[.c [.z]],[]⟩],Int,ii,mB,.e,[⟨14,[0,1,4],[.e 0],320,[.v 0,.f 1,.z],[.c [.z]],Oi,.e⟩],none,[]⟩
def ADz:Kz:=sg AMo [zG] Tryz.func102
def mC (n:Nat) (a:BA) (b:LD) (c:Int):Option (Int):=
 Au (X4 n a c) fun d=>Au (mB n b d) fun e=>some e
noncomputable def AMp:AH:=⟨103,Tryz.f103,false,[.v 0,.agg [.s,.f 1]],[.c [.z]],[⟨.tup [],[.c [.z]],[]⟩],Int,ii,mC,.e,[],none,[]⟩
def AEa:Kz:=sg AMp [ADz,zG] Tryz.func103
mutual
def Uo:Nat->LD->Int->Int->Option (Int)
 | 0,_,_,_=>none
 | n+1,c,b,a=>
  AO c fun d=>(if b<d then (if 0<=a then Ae c b fun e=>Bj e fun f g h i j k l m=>Au (zH n f g h i j k l m a) fun o=>AW (IntKind.wrap .i64 (b+1)) fun p=>Uo n c p o else some a)else some a)
def zH:Nat->Int->Int->BA->BA->BA->LD->LD->Int->Int->Option (Int)
 | 0,_,_,_,_,_,_,_,_,_=>none
 | n+1,y,z,t,u,v,w,c,A,x=>
  Au (X4 n t x) fun q=>Au (X4 n u q) fun r=>Au (mC n v w r) fun s=>Uo n c 0 s
end
noncomputable def X53:AH:=⟨53,Tryz.f53,false,[.v 0,.agg [.y,.z,.s,.s,.s,.f 1,.q 8,.z]],[.c [.z]],[⟨.tup [],[.c [.z]],[]⟩],Int,ii,zH,.e,[⟨126,[0,3,4],[.e 0,.o 0],448,[.v 0,.u 0,.z],[.c [.z],.c [.y,.z,.s,.s,.s,.f 1,.q 8,.z]],fun n a b _ _ _ _ _ _ d _=>Uo n d a b,.e⟩],none,[]⟩
theorem K53:Bb Tryz.prog inv (D3 [X53]):=gr [AEa,zG] ⟨ge Tryz.func53,trivial⟩
def k53:Kz:=⟨X53.c,K53.1⟩
mutual
def Up:Nat->LD->Int->Int->Option (Int)
 | 0,_,_,_=>none
 | n+1,b,c,m=>
  AO b fun z5=>(if c<z5 then (if 0<=m then Ae b c fun x6=>Ba x6 fun z7 s8 s9 o p q r af s t g d e a ag=>Au (X4 n s8 m) fun u=>Au (X4 n s9 u) fun v=>Au (mB n o v) fun w=>Au (tE n p q r w) fun x=>Au (mC n s t x) fun y=>Uq n b c g d e a 0 y else some m)else some m)
def Uq:Nat->LD->Int->LD->LD->LD->LD->Int->Int->Option (Int)
 | 0,_,_,_,_,_,_,_,_=>none
 | n+1,b,c,g,d,e,a,h,j=>
  AO g fun z=>(if h<z then (if 0<=j then Ae g h fun A=>Bj A fun B C E F G H I J=>Au (zH n B C E F G H I J j) fun K=>AW (IntKind.wrap .i64 (h+1)) fun L=>Uq n b c g d e a L K else Ur n b c d e a h j)else Ur n b c d e a h j)
def Ur:Nat->LD->Int->LD->LD->LD->Int->Int->Option (Int)
 | 0,_,_,_,_,_,_,_=>none
 | n+1,b,c,d,e,a,i,l=>
  (if l<0 then some l else Au (qJ n d l) fun M=>Au (qJ n e M) fun N=>Us n b c a i 0 N)
def Us:Nat->LD->Int->LD->Int->Int->Int->Option (Int)
 | 0,_,_,_,_,_,_=>none
 | n+1,b,c,a,i,f,k=>
  AO a fun O=>(if f<O then (if 0<=k then Ae a f fun P=>Cv P fun Q ah ai=>Au (X4 n Q k) fun R=>Ae a f fun S=>Cv S fun aj T ak=>Au (X4 n T R) fun U=>Ae a f fun V=>Cv V fun am an W=>Au (qJ n W U) fun X=>AW (IntKind.wrap .i64 (f+1)) fun Y=>Us n b c a i Y X else Ut n b c i f k)else Ut n b c i f k)
def Ut:Nat->LD->Int->Int->Int->Int->Option (Int)
 | 0,_,_,_,_,_=>none
 | n+1,b,c,ao,aq,Z=>
  AW (IntKind.wrap .i64 (c+1)) fun aa=>Up n b aa Z
def qJ:Nat->LD->Int->Option (Int)
 | 0,_,_=>none
 | n+1,b,z2=>
  Up n b 0 z2
end
noncomputable def X52:AH:=⟨52,Tryz.f52,false,[.v 0,.q 15],[.c [.z]],[⟨.tup [],[.c [.z]],[]⟩],Int,ii,qJ,.e,[⟨6,[0,1,4],[.e 0],32,[.v 0,.q 15,.z],[.c [.z]],Up,.e⟩,
 ⟨51706,[0,1,4,5,6],[.e 0,.o 512],1248,[.v 0,.q 15,.z,.u 512,.z],[.c [.z],.c [.y,.s,.s,.f 1,.y,.s,.q 3,.z,.s,.f 1,.q 8,.q 15,.q 15,.q 3,.z]],fun n h i j k _ _ _ _ _ _ _ _ _ _ l b d a _=>Uq n h i l b d a j k,.e⟩,
 ⟨12927,[0,1,4,5,6],[.e 0,.o 512],1632,[.v 0,.q 15,.z,.u 512,.z],[.c [.z],.c [.y,.s,.s,.f 1,.y,.s,.q 3,.z,.s,.f 1,.q 8,.q 15,.q 15,.q 3,.z]],fun n h i g m _ _ _ _ _ _ _ _ _ _ _ b d a _=>Ur n h i b d a g m,.e⟩,
 ⟨413694,[0,1,4,5,6,7],[.e 0,.o 512],2080,[.v 0,.q 15,.z,.u 512,.z,.z],[.c [.z],.c [.y,.s,.s,.f 1,.y,.s,.q 3,.z,.s,.f 1,.q 8,.q 15,.q 15,.q 3,.z]],fun n h i g p r _ _ _ _ _ _ _ _ _ _ _ _ _ a _=>Us n h i a g p r,.e⟩,
 ⟨51,[0,1,4,6,7],[.e 0],2464,[.v 0,.q 15,.z,.z,.z],[.c [.z]],Ut,.e⟩],none,[]⟩
theorem K52:Bb Tryz.prog inv (D3 [X52]):=gr [ADz,AEa,zG,k51,k53] ⟨ge Tryz.func52,trivial⟩
def k52:Kz:=⟨X52.c,K52.1⟩
def Uu:Nat->Int->Option (Bool)
 | 0,_=>none
 | n+1,a=>
  (if a<0 then some true else some false)
def Uv:Nat->LD->Int->Int->Option (Bool)
 | 0,_,_,_=>none
 | n+1,b,c,a=>
  AO b fun v=>(if c<v then (if 0<=a then Ae b c fun w=>BZ w fun B x y z d e f g h i j k l m o A=>Au (X4 n x a) fun p=>Au (F50 n y p) fun q=>Au (tE n z d e q) fun r=>Au (qJ n f r) fun s=>Au (zH n g h i j k l m o s) fun t=>AW (IntKind.wrap .i64 (c+1)) fun u=>Uv n b u t else Uu n a)else Uu n a)
def F19 (n:Nat) (a:LD):Option (Bool):=
 Uv n a 0 20000
noncomputable def X19:AH:=⟨19,Tryz.f19,false,[.agg [.q 16]],[],[⟨.one (.b),[],[]⟩],Bool,ii,F19,.e,[⟨58,[1,2,3,4],[.o 0,.o 96],192,[.u 0,.one (.cb false),.u 96,.z],[.c [.q 16],.c [.z]],fun n a d f=>Uv n d a f,.e⟩,
 ⟨15,[2,3],[.o 96],576,[.one (.cb false),.u 96],[.c [.z]],Uu,.e⟩],none,[]⟩
def k19:Kz:=sg X19 [zG,k50,k51,k52,k53] Tryz.func19
def F8 (n:Nat) (a:LD):Option (Bool):=
 Au (F19 n a) fun b=>some b
noncomputable def X8:AH:=⟨8,Tryz.f8,false,[.agg [.q 16]],[],[⟨.one (.b),[],[]⟩],Bool,ii,F8,.e,[],none,[]⟩
def k8:Kz:=sg X8 [k19] Tryz.func8
end Go.Proofs.YtjfmnfncmfepnaaGreatDoor
end
set_option linter.unusedVariables false
noncomputable section
namespace Go.Proofs.YtjfmnfncmfepnaaGreatDoor
open Go Go.AM
def Rm (z:Int) (w:Nat) (r:Int):Prop:= -10≤r∧r≤20000∧(0≤r→r+w≤z)
def Zm (z:Int):Prop:= -10≤z∧z≤20000
theorem Rm.z {z r:Int}{w:Nat}(h:Rm z w r):Zm r:=⟨h.1,h.2.1⟩
theorem X5 (s:ByteArray) {z:Int}(hz:Zm z):Wp (fun n=>X4 n s z) fun r=>Rm z (5+s.size) r∧ -1≤r:=by
 obtain⟨h1,h2⟩:=hz
 have a:∀b:Bool,(b=false→5≤z∧(s.size:Int)≤z - 5)→Wp (fun n=>QJ n s z b) (fun r=>Rm z (5+s.size) r∧ -1≤r):=fun b hb=>wU (by
  simp only[QJ]
  exact wI (fun _=>wS (by unfold Rm;omega)) fun h=>by
   have:=hb (by simpa using h)
   exact wW rfl (by omega) (wZ (wW rfl (by omega) (wS (by unfold Rm;omega)))))
 unfold X4;exact wI (fun _=>a true (by simp)) fun _=>wZ (wW rfl (by omega) (wI (fun _=>a true (by simp)) fun _=>a false fun _=>by omega))
section
variable {l:List D}
theorem AEb (hl:AB Ab 9 l) {z:Int}(hz:Zm z) (h5: -5≤z):Wp (fun n=>mB n l z) (Rm z (5+AU l)):=by
 have a:∀i,i≤l.length→∀z,Zm z→Wp (fun n=>Oi n l i z) (Rm z (AU (l.drop i))):=Ai _ fun i hi ih z hz=>wU (by
  simp only[Oi];have:=hl.le;exact wL (wI (fun h=>wI (fun h0=>gs hl (by omega) fun s _ hw _=>c1 (X5 s hz) fun r ⟨hr,hp⟩=>wi (by omega) (wM (ih (by omega) r hr.z) fun r2 h2=>by unfold Rm at*;omega)) fun _=>wS (by unfold Rm Zm at*;omega)) fun _=>wS (by have:=FZ (l:=l) (i:=i) (by omega);unfold Rm Zm at*;omega)))
 unfold mB;exact wW rfl (by unfold Zm at hz;omega) (wM (a 0 (Nat.zero_le _) _ (by unfold Zm at*;omega)) fun r h=>by simp only[List.drop_zero]at h;unfold Rm at*;omega)
theorem AMr (l:List D):AB Ab 48 l→∀i,i≤l.length→∀z,Zm z→Wp (fun n=>Um n l i z) (Rm z (AU (l.drop i))):=by
 induction l using IQ with | H l IH
 intro hl;refine Ai _ fun i hi ih z hz=>wU ?_
 have hd:=BI l i;simp only[Um];have:=hl.le;refine wL (wI (fun h=>wI (fun h0=>zV hl (by omega) fun k s l3 hx hw _ _ h3=>c1 (Q:=Rm z (AU l3+3)) (wU ?_) fun r hr=>wi (by omega) (wM (ih (by omega) r hr.z) fun r2 h2=>by unfold Rm at*;omega)) fun _=>wS (by unfold Rm Zm at*;omega)) fun _=>wS (by have:=FZ (l:=l) (i:=i) (by omega);unfold Rm Zm at*;omega))
 simp only[tE];exact c1 (X5 s hz) fun r ⟨hr,hp⟩=>wM (IH l3 (by omega) h3 0 (Nat.zero_le _) r hr.z) fun r2 h2=>by simp only[List.drop_zero]at h2;unfold Rm at*;omega
theorem g51 (k:Int) (s:ByteArray) (hl:AB Ab 48 l) {z:Int}(hz:Zm z):Wp (fun n=>tE n k s l z) (Rm z (AU l+5)):=wU (by
 simp only[tE];exact c1 (X5 s hz) fun r ⟨hr,hp⟩=>wM (AMr l hl 0 (Nat.zero_le _) r hr.z) fun r2 h2=>by simp only[List.drop_zero]at h2;unfold Rm at*;omega)
theorem g50 (hl:AB Ab 58 l) {z:Int}(hz:Zm z):Wp (fun n=>F50 n l z) (Rm z (AU l)):=by
 have a:∀i,i≤l.length→∀z,Zm z→Wp (fun n=>Un n l i z) (Rm z (AU (l.drop i))):=Ai _ fun i hi ih z hz=>wU (by
  simp only[Un];have:=hl.le;exact wL (wI (fun h=>wI (fun h0=>Xx hl (by omega) fun s _ _ _ hx hw _ _ _ _=>c1 (X5 s hz) fun r ⟨hr,hp⟩=>Xx hl (by omega) fun _ k s2 l3 hx2 hw2 _ _ _ h3=>c1 (g51 k s2 h3 hr.z) fun r2 hr2=>wi (by omega) (wM (ih (by omega) r2 hr2.z) fun r3 h2=>by unfold Rm at*;omega)) fun _=>wS (by unfold Rm Zm at*;omega)) fun _=>wS (by have:=FZ (l:=l) (i:=i) (by omega);unfold Rm Zm at*;omega)))
 unfold F50;exact wM (a 0 (Nat.zero_le _) _ hz) fun r h=>by simpa using h
theorem zI (s:ByteArray) (hl:AB Ab 9 l) {z:Int}(hz:Zm z):Wp (fun n=>mC n s l z) (Rm z (10+AU l)):=by
 unfold mC;exact c1 (X5 s hz) fun r ⟨hr,hp⟩=>c1 (AEb hl hr.z (by omega)) fun r2 h2=>wS (by unfold Rm at*;omega)
theorem AMt (l:List D):AB Ab 54 l→∀i,i≤l.length→∀z,Zm z→Wp (fun n=>Uo n l i z) (Rm z (AU (l.drop i))):=by
 induction l using IQ with | H l IH
 intro hl;refine Ai _ fun i hi ih z hz=>wU ?_
 have hd:=BI l i;simp only[Uo];have:=hl.le;refine wL (wI (fun h=>wI (fun h0=>Ub hl (by omega) fun k z1 s1 s2 s3 l1 l2 z2 hx hw _ _ _ _ _ h1 h2 _=>c1 (Q:=Rm z (AU l1+AU l2+7)) (wU ?_) fun r hr=>wi (by omega) (wM (ih (by omega) r hr.z) fun r2 h2=>by unfold Rm at*;omega)) fun _=>wS (by unfold Rm Zm at*;omega)) fun _=>wS (by have:=FZ (l:=l) (i:=i) (by omega);unfold Rm Zm at*;omega))
 simp only[zH];exact c1 (X5 s1 hz) fun r ⟨hr,_⟩=>c1 (X5 s2 hr.z) fun r2 ⟨hr2,_⟩=>c1 (zI s3 h1 hr2.z) fun r3 hr3=>wM (IH l2 (by omega) h2 0 (Nat.zero_le _) r3 hr3.z) fun r4 h4=>by simp only[List.drop_zero]at h4;unfold Rm at*;omega
theorem g53 (k z1:Int) (s1 s2 s3:ByteArray) {l1 l2:List D}(h1:AB Ab 9 l1) (h2:AB Ab 54 l2) (z2:Int) {z:Int}(hz:Zm z):Wp (fun n=>zH n k z1 s1 s2 s3 l1 l2 z2 z) (Rm z (AU l1+AU l2+7)):=wU (by
 simp only[zH];exact c1 (X5 s1 hz) fun r ⟨hr,_⟩=>c1 (X5 s2 hr.z) fun r2 ⟨hr2,_⟩=>c1 (zI s3 h1 hr2.z) fun r3 hr3=>wM (AMt l2 h2 0 (Nat.zero_le _) r3 hr3.z) fun r4 h4=>by simp only[List.drop_zero]at h4;unfold Rm at*;omega)
theorem AMu (l:List D):AB Ab 90 l→∀i,i≤l.length→∀z,Zm z→Wp (fun n=>Up n l i z) (Rm z (AU (l.drop i))):=by
 induction l using IQ with | H l IH
 intro hl
 have f52:∀m,AB Ab 90 m→AU m<AU l→∀z,Zm z→Wp (fun n=>qJ n m z) (Rm z (AU m)):=fun m hm h z hz=>wU (by
  simp only[qJ];exact wM (IH m h hm 0 (Nat.zero_le _) z hz) fun r h=>by simpa using h)
 refine Ai _ fun i hi ih z hz=>wU ?_
 have hd:=BI l i;have hle:=hl.le;simp only[Up];refine wL (wI (fun h=>wI (fun h0=>tA hl (by omega) fun _ s1 s2 l3 k s4 l4 _ s5 l5 l6 l7 l8 l9 _ hx hw _ _ _ h3 _ _ h4 _ _ h5 h6 h7 h8 h9 _=>?_) fun _=>wS (by unfold Rm Zm at*;omega)) fun _=>wS (by have:=FZ (l:=l) (i:=i) (by omega);unfold Rm Zm at*;omega))
 have b5:∀y z' z,Zm z→Wp (fun n=>Ut n l i y z' z) (Rm z (AU (l.drop (i+1)))):=fun y z' z hz=>wU (by
  simp only[Ut];exact wi (by omega) (ih (by omega) z hz))
 have b4:∀y k,k≤l9.length→∀z,Zm z→Wp (fun n=>Us n l i l9 y k z) (Rm z (AU (l9.drop k)+AU (l.drop (i+1)))):=fun y=>Ai _ fun k hk ih4 z hz=>wU (by
  simp only[Us];have:=h9.le;have hd9:=BI l9 k;exact wL (wI (fun h=>wI (fun h0=>qD h9 (by omega) fun a1 _ _ hy _ _ _ _=>c1 (X5 a1 hz) fun r ⟨hr,_⟩=>qD h9 (by omega) fun _ a2 _ hy _ _ _ _=>c1 (X5 a2 hr.z) fun r2 ⟨hr2,_⟩=>qD h9 (by omega) fun _ _ m hy hv _ _ hm=>c1 (f52 m hm (by omega) r2 hr2.z) fun r3 hr3=>wi (by omega) (wM (ih4 (by omega) r3 hr3.z) fun r4 h4=>by unfold Rm at*;omega)) fun _=>wM (b5 _ _ z hz) fun r h=>by unfold Rm at*;omega) fun _=>wM (b5 _ _ z hz) fun r h=>by have:=FZ (l:=l9) (i:=k) (by omega);unfold Rm at*;omega))
 have b3:∀y z,Zm z→Wp (fun n=>Ur n l i l7 l8 l9 y z) (Rm z (AU l7+AU l8+AU l9+AU (l.drop (i+1)))):=fun y z hz=>wU (by
  simp only[Ur];exact wI (fun h=>wS (by unfold Rm Zm at*;omega)) fun h=>c1 (f52 l7 h7 (by omega) z hz) fun r hr=>c1 (f52 l8 h8 (by omega) r hr.z) fun r2 hr2=>wM (b4 _ 0 (Nat.zero_le _) r2 hr2.z) fun r3 h3=>by simp only[List.drop_zero]at h3;unfold Rm at*;omega)
 have b2:∀k,k≤l6.length→∀z,Zm z→Wp (fun n=>Uq n l i l6 l7 l8 l9 k z) (Rm z (AU (l6.drop k)+(AU l7+AU l8+AU l9+AU (l.drop (i+1))))):=Ai _ fun k hk ih2 z hz=>wU (by
  simp only[Uq];have:=h6.le;exact wL (wI (fun h=>wI (fun h0=>Ub h6 (by omega) fun k z1 s1 s2 s3 l1 l2 z2 hy hv _ _ _ _ _ h1 h2 _=>c1 (g53 k z1 s1 s2 s3 h1 h2 z2 hz) fun r hr=>wi (by omega) (wM (ih2 (by omega) r hr.z) fun r4 h4=>by unfold Rm at*;omega)) fun _=>wM (b3 _ z hz) fun r h=>by unfold Rm at*;omega) fun _=>wM (b3 _ z hz) fun r h=>by have:=FZ (l:=l6) (i:=k) (by omega);unfold Rm at*;omega))
 exact c1 (X5 s1 hz) fun r ⟨hr,_⟩=>c1 (X5 s2 hr.z) fun r2 ⟨hr2,hq⟩=>c1 (AEb h3 hr2.z (by omega)) fun r3 hr3=>c1 (g51 k s4 h4 hr3.z) fun r4 hr4=>c1 (zI s5 h5 hr4.z) fun r5 hr5=>wM (b2 0 (Nat.zero_le _) r5 hr5.z) fun r6 h=>by simp only[List.drop_zero]at h;unfold Rm at*;omega
theorem g52 (hl:AB Ab 90 l) {z:Int}(hz:Zm z):Wp (fun n=>qJ n l z) (Rm z (AU l)):=wU (by
 simp only[qJ];exact wM (AMu l hl 0 (Nat.zero_le _) z hz) fun r h=>by simpa using h)
theorem g8 (hl:AB Ab 56 l):Wp (fun n=>F8 n l) fun b=>b=false→AU l≤20000:=by
 have e:∀z w,Rm 20000 w z→w=AU l∨z<0→Wp (fun n=>Uu n z) fun b=>b=false→AU l≤20000:=fun z w h hw=>wU (by
  simp only[Uu];exact wI (fun _=>wS (by simp)) fun h=>wS (by unfold Rm at*;omega))
 have a:∀i,i≤l.length→∀z w,Rm 20000 w z→w+AU (l.drop i)=AU l→Wp (fun n=>Uv n l i z) fun b=>b=false→AU l≤20000:=Ai _ fun i hi ih z w hz hw=>wU (by
  simp only[Uv];have:=hl.le;exact wL (wI (fun h=>wI (fun h0=>qE hl (by omega) fun _ s1 l1 k s2 l2 l3 k2 z2 s3 s4 s5 l4 l5 z3 _ hx hv _ _ h1 _ _ h2 h3 _ _ _ _ _ h4 h5 _ _=>c1 (X5 s1 hz.z) fun r ⟨hr,_⟩=>c1 (g50 h1 hr.z) fun r2 hr2=>c1 (g51 k s2 h2 hr2.z) fun r3 hr3=>c1 (g52 h3 hr3.z) fun r4 hr4=>c1 (g53 k2 z2 s3 s4 s5 h4 h5 z3 hr4.z) fun r5 hr5=>wi (by omega) (ih (by omega) r5 (w+(AU l1+AU l2+AU l3+AU l4+AU l5+12)) (by unfold Rm at*;omega) (by omega))) fun _=>e z w hz (by omega)) fun _=>e z w hz (by have:=FZ (l:=l) (i:=i) (by omega);omega)))
 unfold F8 F19;exact c1 (Q:=fun b=>b=false→AU l≤20000) (a 0 (Nat.zero_le _) 20000 0 (by unfold Rm;omega) (by simp)) fun b h=>wS h
end
end Go.Proofs.YtjfmnfncmfepnaaGreatDoor
end
set_option linter.unusedVariables false
noncomputable section
namespace Go.Proofs.YtjfmnfncmfepnaaGreatDoor
open Go Go.AM
def mD (n:Nat) (c:Bool) (b:BA) (a:BA):Option (BA):=
 (if c=true then (if b=ByteArray.empty then some a else Q3 rR b fun d=>Q3 a d fun e=>some e)else some a)
noncomputable def X40:AH:=⟨40,Tryz.f40,false,[.b,.s,.v 0],[.c [.s]],[⟨.tup [],[.c [.s]],[]⟩],BA,ii,mD,.e,[],none,[]⟩
def k40:Kz:=sg X40 [] Tryz.func40
def X7:Nat->Int->BA->Bool->Bool->Bool->BA->LD->LD->Option (BA)
 | 0,_,_,_,_,_,_,_,_=>none
 | n+1,k,l,a,b,c,d,e,m=>
  Au (zN n e Tg) fun f=>Au (mD n a f d) fun g=>Au (zM n k 10) fun h=>Au (mD n b h g) fun i=>Au (mD n c l i) fun j=>some j
def Uw:Nat->LD->Int->BA->Bool->Bool->Bool->BA->Int->Int->LD->LD->Option (BA)
 | 0,_,_,_,_,_,_,_,_,_,_,_=>none
 | n+1,p,q,r,b,c,d,e,f,a,g,h=>
  (if a<f then Ae p a fun i=>B1 i fun j=>Au (mS n j) fun k=>Gf [.str k] fun l=>Bw 16 h l fun m=>AW (IntKind.wrap .i64 (a+1)) fun o=>Uw n p q r b c d e f o g m else X7 n q r b c d e h g)
def Ux:Nat->LD->Int->BA->Bool->Bool->Bool->BA->Option (BA)
 | 0,_,_,_,_,_,_,_=>none
 | n+1,a,g,h,b,c,d,e=>
  AO a fun f=>Uw n a g h b c d e f 0 a ([]:LD)
def Uy:Nat->Int->LD->LD->Int->BA->Int->Bool->Bool->Bool->Bool->BA->Int->BA->Int->LD->Option (BA)
 | 0,_,_,_,_,_,_,_,_,_,_,_,_,_,_,_=>none
 | n+1,k,l,z,m,o,e,f,a,b,c,g,h,i,d,p=>
  (if d<h then Ae z d fun q=>B0 q fun r=>Q3 rS r fun s=>Q3 i s fun t=>AW (IntKind.wrap .i64 (d+1)) fun u=>Uy n k l z m o e f a b c g h t u p else Au (mD n f i g) fun j=>(if e=0 then Au (mS n k) fun v=>Au (mD n false v j) fun w=>Ux n l m o a b c w else Au (mS n k) fun x=>Au (mD n true x j) fun y=>Ux n l m o a b c y))
def Uz:Nat->Int->LD->LD->Int->BA->Int->Bool->Bool->Bool->Bool->BA->Option (BA)
 | 0,_,_,_,_,_,_,_,_,_,_,_=>none
 | n+1,i,j,a,k,l,b,c,d,e,f,g=>
  AO a fun h=>Uy n i j a k l b c d e f g h ByteArray.empty 0 a
def nA (n:Nat) (u:Int) (o:Int) (p:Int) (w:Int) (q:LD) (r:LD) (s:Int) (t:BA) (x:LD):Option (BA):=
 jF (F39 n u) fun a g b c d e f v h=>Ax (!h) fun i=>(if i=true then some ABa else (if g=0 then Au (mS n o) fun j=>Au (mD n false j a) fun k=>Uz n p q r s t b c d e f k else Au (mS n o) fun l=>Au (mD n true l a) fun m=>Uz n p q r s t b c d e f m))
noncomputable def X17:AH:=⟨17,Tryz.f17,true,[.agg [.y,.z,.z,.z,.f 1,.f 1,.z,.s,.f 1]],[],[⟨.one (.s),[],[]⟩],BA,ii,nA,.e,[⟨127,[1,2,3,5,6],[.o 0,.o 256,.o 480],864,[.u 0,.one (.cs ByteArray.empty),.u 256,.u 480,.one (.fn 40 [.o 480])],[.c [.y,.z,.z,.z,.f 1,.f 1,.z,.s,.f 1],.c [.s,.z,.z,.bool,.bool,.bool,.bool,.f 1],.c [.s]],fun n _ _ r _ l t j k _ _ _ m p a d h _ q=>Uz n r l t j k m p a d h q,.e⟩,
 ⟨2042,[1,2,3,5,6,7,33,34,35],[.o 0,.o 256,.o 480],1024,[.u 0,.one (.cs ByteArray.empty),.u 256,.u 480,.one (.fn 40 [.o 480]),.s,.f 1,.z,.z],[.c [.y,.z,.z,.z,.f 1,.f 1,.z,.s,.f 1],.c [.s,.z,.z,.bool,.bool,.bool,.bool,.f 1],.c [.s]],fun n v t x A _ _ r _ l B j k _ _ _ m p a d h _ q=>Uy n r l t j k m p a d h q x v A B,.e⟩,
 ⟨2047,[1,2,3,5,6],[.o 0,.o 256,.o 480],1472,[.u 0,.one (.cs ByteArray.empty),.u 256,.u 480,.one (.fn 40 [.o 480])],[.c [.y,.z,.z,.z,.f 1,.f 1,.z,.s,.f 1],.c [.s,.z,.z,.bool,.bool,.bool,.bool,.f 1],.c [.s]],fun n _ _ _ _ l _ j k _ _ _ _ _ a d h _ i=>Ux n l j k a d h i,.g [.treeS 10 false 1] [] .e⟩,
 ⟨32762,[1,2,3,5,6,10,58,59,60],[.o 0,.o 256,.o 480,.o 1632],1664,[.u 0,.one (.cs ByteArray.empty),.u 256,.u 480,.one (.fn 40 [.o 480]),.w (.o 1632),.f 1,.z,.z],[.c [.y,.z,.z,.z,.f 1,.f 1,.z,.s,.f 1],.c [.s,.z,.z,.bool,.bool,.bool,.bool,.f 1],.c [.s],.f1],fun n l C E _ _ _ _ F _ j k _ _ _ _ _ a d h _ i G=>Uw n l j k a d h i C E F G,.b (.n 1 (.g [] [(1920,1632)] .e)) (.g [.freeze (.o 1632)] [] .e)⟩,
 ⟨8191,[1,2,3,5,6,10],[.o 0,.o 256,.o 480],1696,[.u 0,.one (.cs ByteArray.empty),.u 256,.u 480,.one (.fn 40 [.o 480]),.f 1],[.c [.y,.z,.z,.z,.f 1,.f 1,.z,.s,.f 1],.c [.s,.z,.z,.bool,.bool,.bool,.bool,.f 1],.c [.s]],fun n H _ _ _ _ I _ j k _ _ _ _ _ a d h _ i=>X7 n j k a d h i H I,.e⟩],none,[]⟩
def k17:Kz:=sg X17 [k39,k40,k41,k42,k43] Tryz.func17
def F31 (n:Nat) (a:LD) (b:Int) (c:Int) (d:BA) (e:BA) (f:BA) (g:LD) (h:LD) (i:Int):Option LD:=
 some [.agg [.int .u8 3,.str Gg,.list true 4 [],.int .u8 1,.str ByteArray.empty,.list true 3 [],.list true 15 a,.int .u8 b,.int .i64 c,.str d,.str e,.str f,.list false 1 g,.list true 8 h,.int .i64 i,.int .i64 0]]
noncomputable def X31:AH:=⟨31,Tryz.f31,false,[.q 15,.agg [.y,.z,.s,.s,.s,.f 1,.q 8,.z]],[],[⟨.one (.agg [.q 16]),[],[]⟩],LD,ii,F31,.e,[],none,[]⟩
def k31:Kz:=sg X31 [] Tryz.func31
def F13 (n:Nat):Option (Bool):=
 Au (F31 n ([]:LD) 1 3 ByteArray.empty ByteArray.empty ByteArray.empty ([]:LD) ([]:LD) 0) fun l1=>jD (F9 n l1) fun b z3 l4 z5=>(if z5=0 then AO b fun z6=>(if z6=1 then Ae b 0 fun x7=>B2 x7 fun s8 z9 aj c=>AO c fun d=>(if d=2 then Ae b 0 fun e=>B2 e fun ak am an f=>Ae f 0 fun g=>Ci g fun h i j k l m o p q=>Au (nA n h i j k l m o p q) fun r=>(if r=Th then Ae b 0 fun s=>B2 s fun ao aq ar t=>Ae t 1 fun u=>Ci u fun v w x y z A B C E=>Au (nA n v w x y z A B C E) fun F=>(if F=Nk then Au (F31 n ([.agg [.int .u8 9,.str ByteArray.empty,.str ByteArray.empty,.list false 1 [],.int .u8 0,.str ByteArray.empty,.list true 3 [],.int .i64 0,.str ByteArray.empty,.list false 1 [],.list true 8 [],.list true 15 ([.agg [.int .u8 10,.str ByteArray.empty,.str ByteArray.empty,.list false 1 [],.int .u8 0,.str ByteArray.empty,.list true 3 [],.int .i64 0,.str ByteArray.empty,.list false 1 [],.list true 8 [],.list true 15 [],.list true 15 [],.list true 3 [],.int .i64 0]]),.list true 15 [],.list true 3 [],.int .i64 0]]) 1 3 ByteArray.empty ByteArray.empty ByteArray.empty ([]:LD) ([]:LD) 0) fun G=>jD (F9 n G) fun a au av H=>(if H=0 then AO a fun I=>(if I=2 then Ae a 0 fun J=>B2 J fun aw ax ay K=>AO K fun L=>(if L=5 then Ae a 0 fun M=>B2 M fun az aA aB N=>Ae N 1 fun O=>Ci O fun P Q R S T U V W X=>Au (nA n P Q R S T U V W X) fun Y=>(if Y=Ti then Ae a 1 fun Z=>B2 Z fun aa aC aD aE=>(if aa=Ib then Ae a 1 fun ab=>B2 ab fun aF aG aH ac=>AO ac fun ad=>(if ad=2 then jD (F9 n ([]:LD)) fun aI aJ aK ae=>(if ae=2 then some true else some false)else some false)else some false)else some false)else some false)else some false)else some false)else some false)else some false)else some false)else some false)else some false)
noncomputable def X13:AH:=⟨13,Tryz.f13,false,[],[],[⟨.one (.b),[],[]⟩],Bool,ii,F13,.e,[],none,[]⟩
def k13:Kz:=sg X13 [k17,k31,k9] Tryz.func13
end Go.Proofs.YtjfmnfncmfepnaaGreatDoor
end
namespace Go.AM
open Go Go.RowKit Go.ChangeShapes Go.WideShapes
def Ji (ti:Types):List TypeId→List D→Prop
 | [],[]=>True
 | t::ts,x::xs=>Shape ti t x.cells∧(∀y,ti t=some y→x.isAgg=AR y.desc)∧Ji ti ts xs
 | _,_=>False
theorem Ji.length {ti:Types}:∀{ts:List TypeId}{xs:List D},Ji ti ts xs→xs.length=ts.length
 | [],[],_=>rfl
 | _::_,_::_,h=>by simp[Ji.length h.2.2]
 | [],_::_,h=>h.elim
 | _::_,[],h=>h.elim
section
variable {H:Type}{enc:TypeId×Value→H}{P:Program}{ti:Types}{T:List TypeId}{w:World}
theorem mE (hti:Ay P ti) (hT:Nc ti T=true) {Z:Ak}(hZ:∀b o,¬Z b o) {base base':Nat}{spare:Nat→Bool}{held:Bool}{r:Reach}{t:TypeId}{v:Value}{d:DataW H}{ps:List MemPlace}(ht:t∈T)
  (hok:Value.okWide P w r base' t v) (h:DataW.Trod enc P w base spare held t v d ps):∃x:D,Shape ti t x.cells∧(∀y,ti t=some y→x.isAgg=AR y.desc)∧AZ w Z x v:=by
 obtain⟨fuel,h⟩:=h;obtain⟨ds,hs,h1,h2,h3⟩:=conv hti hT (Z:=Z) hZ fuel t _ _ _ ht h
 have hp:=List.all_eq_true.1 hT t ht;split at hp
 ·rename_i y hy;have hu:=(hti t y hy).1
  have single:AR y.desc=false→v.cells.toList=[v]→∃x:D,Shape ti t x.cells∧(∀y,ti t=some y→x.isAgg=AR y.desc)∧AZ w Z x v:=by
   intro hr hv;rw[hv]at h1 h3;obtain⟨c,rfl⟩:=List.length_eq_one_iff.1 h1;have hc:=h2 c (by simp)
   have e:c.cells=[c]:=by cases c<;>first | rfl | simp[D.isAgg]at hc
   refine⟨c,by rw[e];exact hs,fun y' hy'=>?_,h3 0 c v rfl rfl⟩
   rw[hy]at hy';obtain rfl:y=y':=by simpa using hy'
   rw[hc,hr]
  split at hp
  ·rename_i hd;rw[hd]at hu;obtain⟨b,rfl⟩:=okWide_bool hu hok;exact single (by rw[hd];rfl) rfl
  ·rename_i k hd;rw[hd]at hu;obtain⟨b,rfl⟩:=okWide_int hu hok;exact single (by rw[hd];rfl) rfl
  ·rename_i hd;rw[hd]at hu;obtain⟨b,rfl⟩:=okWide_string hu hok;exact single (by rw[hd];rfl) rfl
  ·rename_i e hd;rw[hd]at hu;obtain⟨a,l,c,rfl⟩:=okWide_slice hu hok;exact single (by rw[hd];rfl) rfl
  ·rename_i fs hd;rw[hd]at hu;obtain⟨cs,rfl,_⟩:=okWide_struct hu hok;refine⟨.agg ds,hs,fun y' hy'=>?_,.agg ds cs (by simpa [Value.cells] using h1.symm) h2 (fun j c u hc hu'=>h3 j c u hc (by simpa [Value.cells] using hu'))⟩
   rw[hy]at hy';obtain rfl:y=y':=by simpa using hy'
   rw[hd];rfl
  ·simp at hp
 ·simp at hp
theorem QK (hti:Ay P ti) (hT:Nc ti T=true) {Z:Ak}(hZ:∀b o,¬Z b o) {base base':Nat}{spare:Nat→Bool}{held:Bool}{r:Reach}:
  ∀(ts:List TypeId) (vs:List Value) (ds:List (DataW H)) (ps:List MemPlace),(∀t∈ts,t∈T)→DataW.TrodAll enc P w base spare held ts vs ds ps→
   (∀(j:Nat) t v,ts[j]?=some t→vs[j]?=some v→Value.okWide P w r base' t v)→
   ∃xs,Ji ti ts xs∧∀(j:Nat) x v,xs[j]?=some x→vs[j]?=some v→AZ w Z x v
 | [],vs,ds,ps,_,h,_=>⟨[],trivial,by simp⟩
 | t::ts,vs,ds,ps,ht,h,hok=>by
  obtain⟨v,vs1,d,ds1,a,b,rfl,rfl,rfl,h1,h2⟩:=trodAll_cons h;obtain⟨x,k1,k2,k3⟩:=mE hti hT hZ (ht t (by simp)) (hok 0 t v rfl rfl) h1
  obtain⟨xs,k4,k5⟩:=QK hti hT hZ ts vs1 ds1 b (fun t ht'=>ht t (by simp[ht'])) h2 (fun j t v h1 h2=>hok (j+1) t v (by simpa using h1) (by simpa using h2))
  refine⟨x::xs,⟨k1,k2,k4⟩,fun j x' v' hx hv=>?_⟩
  match j with
  | 0=>simp at hx hv;subst hx;subst hv;exact k3
  | j+1=>simp at hx hv;exact k5 j x' v' hx hv
theorem QL (hl:laidOutB P=true) {W W':World}(hb:Below W.heap.size W W'):∀(ts:List TypeId) (vs:List Value) (ds:List (DataW H)) (ps:List MemPlace),
  (∀t∈ts,P.readableRec t=true∧t<P.types.size)→DataW.TrodAll enc P W 0 (fun _=>true) true ts vs ds ps→(∀x∈ps,x.block<W.heap.size)→
  DataW.TrodAll enc P W' 0 (fun b=>decide (b<W.heap.size)) true ts vs ds ps
 | [],vs,ds,ps,_,h,_=>by
  obtain⟨rfl,rfl,rfl⟩:=trodAll_nil h;exact rfl
 | t::ts,vs,ds,ps,ht,h,hlt=>by
  obtain⟨v,vs1,d,ds1,a,b,rfl,rfl,rfl,h1,h2⟩:=trodAll_cons h;have ht1:=ht t (by simp)
  exact⟨a,b,Below.trod hl ht1.1 ht1.2 h1 hb (fun x hx=>hlt x (by simp[hx])),QL hl hb ts vs1 ds1 b (fun t ht'=>ht t (by simp[ht'])) h2 (fun x hx=>hlt x (by simp[hx])),rfl⟩
theorem ZT {I:Inv}(hti:Ay P ti) (hT:Nc ti T=true) {s:ChangeSpec}{fn:Func}{f:FuncId}{ts:List TypeId}{bt:TypeId}
  (hp:fn.params.toList=ts) (hv:s.vars=[]) (hr:fn.resultTypes=#[bt]) (hb:P.underlying bt=some .bool) (htT:∀t∈ts,t∈T)
  (hs:∀ds:List (DataW H),ds.length=ts.length→(s.fn H ds).results=[.lit (.bool true)]∧(s.fn H ds).args=ds∧(s.fn H ds).vars=[])
  (hl:laidOutB P=true) (hrec:∀t∈ts,P.readableRec t=true∧t<P.types.size)
  (hc:∀xs:List D,Ji ti ts xs→C0 P I f (xs.map V1.d) [] (.v (.d (.bool true))) [] [])
  {W:World} {base:Nat} {args:Array Value} {ds gs:List (DataW H)} {before:List MemPlace}
  (hI:I.at W fun _ _=>False) (hval:∀(j:Nat) t v,fn.params[j]?=some t→args[j]?=some v→Value.okWide P W .any base t v)
  (hW:DataW.Whole enc P fn.params.toList s.vars false W args.toList ds gs before):
  Calls P f args W fun e W'=>∃v,e= .returned v∧s.post enc P fn false true false false W args v W':=by
 have hW':=hW;obtain⟨p,q,hA,hV,rfl,_,_⟩:=hW;rw[hv]at hV
 obtain⟨rfl,rfl⟩:gs=[]∧q=[]:=by
  cases gs with
  | nil=>exact⟨rfl,hV⟩
  | cons _ _=>exact hV.elim
 rw[hp]at hA;obtain⟨hlen,hdl⟩:=trodAll_length hA
 obtain⟨xs,hsh,hrel⟩:=QK hti hT (Z:=fun _ _=>False) (fun _ _ h=>h) (r:=.any) (base':=base) ts args.toList ds p htT hA (fun j t v h1 h2=>hval j t v (by
  rw[←Array.getElem?_toList,hp];exact h1) (by simpa using h2))
 have hxl:=hsh.length;have hcall:=hc xs hsh
 have hheap:∀i o,Ad [] i=some o→False:=by
  intro i o h;cases i<;>simp[Ad]at h
 have hzone:∀(g:AP) b o,¬zone g (Ad []) b o:=by
  rintro g b o ⟨i,ob,h,_⟩
  exact hheap i ob h
 refine (hcall.calls (w:=W) (X:=fun _ _=>False) (g:=fun _=>undef) (vals:=args) (fun _ _ h=>h.elim) (hI.mono fun b o hz=>hz.elim (hzone _ b o) id) ⟨fun i o h=>(hheap i o h).elim,fun i _ _ _ _ h=>(hheap i _ h).elim,fun i _ _ _ h=>(hheap i _ h).elim⟩ (fun _=>rfl)
  (by simp at hlen;simp;omega) (fun j x v hx hvv=>?_)).mono ?_
 ·simp only[List.getElem?_map,Option.map_eq_some_iff]at hx;obtain⟨d,hd,rfl⟩:=hx;exact (hrel j d v hd (by simpa using hvv)).mono (fun b o u hu _=>⟨hu,fun hz=>hz.elim (hzone _ b o) id⟩)
 ·rintro e W' ⟨v,g',rfl,hpost⟩
  obtain rfl:v= .bool true:=by cases (show AZ _ _ (.bool true) v from hpost.res);rfl
  have hbel:Below W.heap.size W W':=⟨hpost.frame.os,hpost.frame.tape,hpost.frame.output,hpost.frame.size,fun k hk=>hpost.frame.block k hk (fun o=>hzone _ k o)⟩
  obtain⟨s1,s2,s3⟩:=hs (ds++[]) (by simp[hdl])
  refine⟨_,rfl,ds,[],p++[],[],p,[],hW',?_,?_,?_,hbel.frame _,fun h=>by cases h⟩
  ·rw[s1,hr];exact trodAll_mk1 (shut_bool hb true)
  ·rw[s2,hp,List.append_nil];exact QL hl hbel ts args.toList ds p hrec hA (fun x hx=>hW'.lt x (by simp[hx]))
  ·rw[s3,hv];rfl
end
end Go.AM
set_option linter.unusedVariables false
noncomputable section
namespace Go.Proofs.YtjfmnfncmfepnaaGreatDoor
open Go Go.AM
theorem f13:(fun m=>F13 (m+300))=fun _=>some true:=by kernel_rfl
end Go.Proofs.YtjfmnfncmfepnaaGreatDoor
end
set_option linter.unusedVariables false
noncomputable section
namespace Go.Proofs.YtjfmnfncmfepnaaGreatDoor
open Go Go.AM
mutual
def mF:Nat->LD->LD->Int->Option (Bool)
 | 0,_,_,_=>none
 | n+1,c,d,a=>
  AO c fun e=>(if a<e then Ae c a fun f=>B2 f fun T U V g=>AO g fun h=>Ae d a fun i=>B2 i fun W X Y j=>AO j fun k=>(if h=k then mG n c d a 0 else some false)else Au (F13 n) fun l=>some l)
def mG:Nat->LD->LD->Int->Int->Option (Bool)
 | 0,_,_,_,_=>none
 | n+1,c,d,a,b=>
  Ae c a fun m=>B2 m fun Z aa ab o=>AO o fun p=>(if b<p then Ae c a fun q=>B2 q fun ac ad ae r=>Ae r b fun s=>Ci s fun t u v w x y z A B=>Au (nA n t u v w x y z A B) fun C=>Ae d a fun E=>B2 E fun af ag ah F=>Ae F b fun G=>Ci G fun H I J K L M N O P=>Au (nA n H I J K L M N O P) fun Q=>(if C=Q then AW (IntKind.wrap .i64 (b+1)) fun R=>mG n c d a R else some false)else AW (IntKind.wrap .i64 (a+1)) fun S=>mF n c d S)
end
def F6 (n:Nat) (a:LD):Option (Bool):=
 Au (F8 n a) fun h=>(if h=true then Au (F13 n) fun i=>some i else jD (F9 n a) fun f j o k=>Au (F10 n a false) fun l=>jD (F9 n l) fun g b m c=>(if k=c then AO f fun d=>AO g fun e=>(if d=e then (if j=b then mF n f g 0 else some false)else some false)else some false))
noncomputable def X6:AH:=⟨6,Tryz.f6,false,[.agg [.q 16]],[],[⟨.one (.b),[],[]⟩],Bool,ii,F6,.n 0 (.b (.b .e (.n 1 (.g [.freeze (.o 416)] [] .e))) .e),[⟨506,[2,3,5,7],[.o 288,.o 576],1312,[.one (.cb false),.u 288,.u 576,.z],[.c [.q 4,.z,.q 16],.c [.q 4,.z,.q 16]],fun n a d _ _ f _ _=>mF n d f a,.e⟩,
 ⟨64806,[2,3,5,7,8],[.o 288,.o 576],1984,[.one (.cb false),.u 288,.u 576,.z,.z],[.c [.q 4,.z,.q 16],.c [.q 4,.z,.q 16]],fun n a h d _ _ f _ _=>mG n d f a h,.e⟩],none,[]⟩
def k6:Kz:=sg X6 [k10,k13,k17,k8,k9] Tryz.func6
theorem T6 (n:Nat):∀⦃a b⦄,F6 n a=some b->
  C0 Tryz.prog inv 6 [.d (.agg [.list true 16 a])] [] (.v (.d (.bool b))) [] []:=fun a b h=>k6.ok n [.L a] _ h _ _ _ _ _ _ rfl rfl rfl rfl _ rfl
end Go.Proofs.YtjfmnfncmfepnaaGreatDoor
end
set_option linter.unusedVariables false
noncomputable section
namespace Go.Proofs.YtjfmnfncmfepnaaGreatDoor
open Go Go.AM
theorem wE {γ:Type}{P:γ→Prop}{s t:ByteArray}{k:Nat→ByteArray→Option γ}(h:s.size+t.size≤9223372036854775807) (hk:Wp (fun n=>k n (s++t)) P):Wp (fun n=>Q3 s t (k n)) P:=by
 simp only[Q3,show Nat.ble (s.size+t.size) 9223372036854775807=true from by simpa using h]
 exact hk
theorem mH {z:Int}(h: -9223372036854775808≤z∧z≤9223372036854775807):(jJ z).size≤21:=by
 have:=Lib.itoa_length_le z h.1 h.2;show (Lib.itoa z).toArray.size≤21;simpa using this
theorem e41 {z:Int}(h: -9223372036854775808≤z∧z≤9223372036854775807):Wp (fun n=>mS n z) fun s=>s.size≤21:=by
 unfold mS;rw[if_pos h];exact wS (mH h)
theorem e43 {z:Int}(h: -9223372036854775808≤z∧z≤9223372036854775807):Wp (fun n=>zM n z 10) fun s=>s.size≤21:=by
 unfold zM;rw[if_pos ⟨rfl,h⟩];exact wS (mH h)
theorem tF (b:Bool) {s t:ByteArray}{m:Nat}(h:s.size+t.size+1≤m) (hm:m≤1000000):Wp (fun n=>mD n b s t) fun r=>r.size≤m:=by
 have h2:rR.size=1:=rfl;unfold mD;exact wI (fun _=>wI (fun _=>wS (by omega)) fun _=>wE (by omega) (wE (by simp;omega) (wS (by simp;omega)))) fun _=>wS (by omega)
theorem e42 {l:List D}(h:∀y∈l,∃s,y=D.str s∧s.size≤21) (hl:l.length≤6):Wp (fun n=>zN n l Tg) fun s=>s.size≤1000:=by
 have a:∀l:List D,(∀y∈l,∃s,y=D.str s∧s.size≤21)→∃xs,Ph l=some xs∧xs.length=l.length∧Lib.lens (xs.map (·.data.toList))≤21*l.length:=by
  intro l
  induction l with
  | nil=>exact fun _=>⟨[],rfl,rfl,by simp[Lib.lens]⟩
  | cons x l ih=>
   intro h;obtain⟨s,rfl,hs⟩:=h x (List.mem_cons_self ..);obtain⟨xs,e1,e2,e3⟩:=ih fun y hy=>h y (List.mem_cons_of_mem _ hy)
   have hs:s.data.toList.length≤21:=by simpa using hs
   exact⟨s::xs,by simp only[Ph,e1],by simp[e2],by simp only[Lib.lens,List.map_cons,List.sum_cons,List.length_cons]at e3 ⊢;omega⟩
 obtain⟨xs,e1,e2,e3⟩:=a l h
 have e4:(Lib.join (xs.map (·.data.toList)) Tg.data.toList).length≤1000:=by
  cases xs with
  | nil=>simp[Lib.join_nil]
  | cons x xs=>
   rw[List.map_cons,Lib.join_length];have:Tg.data.toList.length=1:=rfl;simp only[List.map_cons,List.length_cons,List.length_map]at e2 e3 ⊢;rw[this];omega
 unfold zN;simp only[e1];rw[if_pos ⟨by omega,by omega⟩]
 exact wS (by show (jK xs Tg).data.size≤1000;simpa [jK] using e4)
theorem y17 {op a b c v:Int}{s:ByteArray}{ks ps vs:List D}(ho:0≤op∧op≤255) (ha:Gi a) (hb:Gi b) (hs:s.size≤16) (hp:ps.length≤40∧∀y∈ps,Gn y) (hk:ks.length≤6∧∀y∈ks,Gz y) (hv: -9223372036854775808≤v∧v≤9223372036854775807):Tl fun n=>nA n op a b c ks ps v s vs:=by
 obtain⟨ha1,ha2⟩:=ha;obtain⟨hb1,hb2⟩:=hb
 have f5:∀b14 b15 b16 (t:ByteArray) l m,t.size≤5000→(∀y∈l,∃s,y=D.str s∧s.size≤21)→l.length≤6→Tl fun n=>X7 n v s b14 b15 b16 t l m:=fun b14 b15 b16 t l m ht hl hn=>wU (by
  simp only[X7];exact c1 (e42 hl hn) fun s1 h1=>c1 (tF _ (m:=7000) (by omega) (by omega)) fun s2 h2=>c1 (e43 hv) fun s3 h3=>c1 (tF _ (m:=8000) (by omega) (by omega)) fun s4 h4=>c1 (tF _ (m:=9000) (by omega) (by omega)) fun s5 h5=>wS trivial)
 have f4:∀b14 b15 b16 (t:ByteArray),t.size≤5000→∀i,i≤ks.length→∀l,(∀y∈l,∃s,y=D.str s∧s.size≤21)→l.length=i→Tl fun n=>Uw n ks v s b14 b15 b16 t ks.length i ks l:=fun b14 b15 b16 t ht=>Ai _ fun i hi ih l hl hn=>wU (by
  simp only[Uw];refine wI (fun h=>gi (by omega) fun x hx=>?_) fun _=>f5 _ _ _ _ _ _ ht hl (by omega)
  obtain⟨z,rfl,hz1,hz2⟩:=hk.2 x (List.mem_of_getElem? hx);exact dZ (c1 (e41 ⟨by omega,by omega⟩) fun s2 h2=>wX (wA (ap (by simp;omega) (by omega)) (wi (by omega) (ih (by omega) _ (fun y hy=>(List.mem_append.1 hy).elim (hl y) fun hy=>⟨s2,List.mem_singleton.1 hy,h2⟩) (by simp[hn])))))
 )
 have f3:∀b14 b15 b16 (t:ByteArray),t.size≤5000→Tl fun n=>Ux n ks v s b14 b15 b16 t:=fun b14 b15 b16 t ht=>wU (by
  simp only[Ux];exact wL (f4 _ _ _ _ ht 0 (Nat.zero_le _) [] nx rfl))
 have f2:∀z12 b13 b14 b15 b16 (t:ByteArray),t.size≤1000→∀i,i≤ps.length→∀q:ByteArray,q.size≤17*i→Tl fun n=>Uy n b ks ps v s z12 b13 b14 b15 b16 t ps.length q i ps:=fun z12 b13 b14 b15 b16 t ht=>Ai _ fun i hi ih q hq=>wU (by
  simp only[Uy];refine wI (fun h=>gi (by omega) fun x hx=>?_) fun _=>c1 (tF _ (m:=3000) (by omega) (by omega)) fun s1 h1=>wI (fun _=>c1 (e41 ⟨by omega,by omega⟩) fun s2 h2=>c1 (tF _ (m:=5000) (by omega) (by omega)) fun s3 h3=>f3 _ _ _ _ h3) fun _=>c1 (e41 ⟨by omega,by omega⟩) fun s2 h2=>c1 (tF _ (m:=5000) (by omega) (by omega)) fun s3 h3=>f3 _ _ _ _ h3
  obtain⟨s1,rfl,hs1⟩:=hp.2 x (List.mem_of_getElem? hx);have h3:rS.size=1:=rfl;exact dS (wE (by omega) (wE (by simp;omega) (wi (by omega) (ih (by omega) _ (by simp;omega))))))
 have f1:∀z12 b13 b14 b15 b16 (t:ByteArray),t.size≤1000→Tl fun n=>Uz n b ks ps v s z12 b13 b14 b15 b16 t:=fun z12 b13 b14 b15 b16 t ht=>wU (by
  simp only[Uz];exact wL (f2 _ _ _ _ _ _ ht 0 (Nat.zero_le _) _ (Nat.zero_le _)))
 unfold nA;refine c9 (v39 ho) fun s10 z11 z12 b13 b14 b15 b16 l17 b18 h9=>wB (wI (fun _=>wS trivial) fun _=>?_)
 have h9:=h9.2;exact wI (fun _=>c1 (e41 ⟨by omega,by omega⟩) fun s2 h2=>c1 (tF _ (m:=100) (by omega) (by omega)) fun s3 h3=>f1 _ _ _ _ _ _ (by omega)) fun _=>c1 (e41 ⟨by omega,by omega⟩) fun s2 h2=>c1 (tF _ (m:=100) (by omega) (by omega)) fun s3 h3=>f1 _ _ _ _ _ _ (by omega)
section
variable {γ:Type}{P:γ→Prop}
theorem mI {l:List D}{i:Nat}{a0:ByteArray}{a1 a2:Int}{a3:List D}{k:Nat→ByteArray→Int→Int→List D→Option γ}(hx:l[i]?=some (.agg [.str a0,.int .i64 a1,.int .i64 a2,.list true 9 a3])) (h:Wp (fun n=>k n a0 a1 a2 a3) P):Wp (fun n=>Ae l (i:Int) fun x=>B2 x (k n)) P:=gR' (k:=fun n x=>B2 x (k n)) hx h
theorem AEe {l:List D}{i:Nat}{op a b c v:Int}{s:ByteArray}{ks ps vs:List D}{k:Nat→Int→Int→Int→Int→List D→List D→Int→ByteArray→List D→Option γ}(hx:l[i]?=some (.agg [.int .u8 op,.int .i64 a,.int .i64 b,.int .i64 c,.list false 1 ks,.list false 1 ps,.int .i64 v,.str s,.list false 1 vs])) (h:Wp (fun n=>k n op a b c ks ps v s vs) P):Wp (fun n=>Ae l (i:Int) fun x=>Ci x (k n)) P:=gR' (k:=fun n x=>Ci x (k n)) hx h
end
theorem XC {l:List D}(hl:AB Ab 56 l):Ev (fun n=>F6 n l) true:=by
 have hB:Wp (fun n=>F13 n) fun r=>r=true:=⟨true,⟨300,fun n hn=>by
  obtain⟨m,rfl⟩:∃m,n=m+300:=⟨n - 300,by omega⟩
  exact congrFun f13 m⟩,rfl⟩
 have main:Wp (fun n=>F6 n l) fun r=>r=true:=by
  unfold F6;refine c1 (g8 hl) fun b hb=>wI (fun _=>c1 hB fun _ h=>wS h) fun hf=>?_
  have hw:=hb (by simpa using hf)
  obtain⟨⟨fu,mn,ki,e⟩,hr,hP⟩:=t9 hl hw
  have e2:∀l',Ef l l'→Wp (fun n=>F9 n l') fun r=>r=(fu,mn,ki,e):=fun l' h=>⟨_,by
   have:(fun n=>F9 n l')=fun n=>F9 n l:=funext fun n=>by
    have:=al n;have:Rl l l':=⟨h⟩;have h2:RO Eq (F9 n l) (F9 n l'):=Co.h;cases h3:F9 n l<;>cases h4:F9 n l'<;>rw[h3,h4]at h2<;>first | rfl | exact False.elim h2 | exact congrArg some (show _=_ from h2).symm
   rw[this];exact hr,rfl⟩
  refine c4 (Q:=fun a b c d=>(a,b,c,d)=(fu,mn,ki,e)) (e2 l (.refl l)) fun _ _ _ _ he=>?_
  cases he
  refine c1 (y10 hl hw) fun l8 h8=>c4 (Q:=fun a b c d=>(a,b,c,d)=(fu,mn,ki,e)) (e2 l8 h8) fun _ _ _ _ he=>?_
  cases he
  refine wI (fun _=>wL (wL (wI (fun _=>wI (fun _=>?_) fun h=>absurd rfl h) fun h=>absurd rfl h))) fun h=>absurd rfl h
  have rows:fu.length≤200000000∧∀(i:Nat) x,fu[i]?=some x→∃s p y co,x= .agg [.str s,.int .i64 p,.int .i64 y,.list true 9 co]∧co.length≤4000∧∀x∈co,∃(op a b c z:Int) (s:ByteArray) (ks ps vs:List D),x= .agg [.int .u8 op,.int .i64 a,.int .i64 b,.int .i64 c,.list false 1 ks,.list false 1 ps,.int .i64 z,.str s,.list false 1 vs]∧Tl fun n=>nA n op a b c ks ps z s vs:=by
   rcases hP with⟨_,ht,_,hfu,_,hki,N,h1⟩ | ⟨_,rfl,_,_⟩
   ·obtain⟨r,⟨M,h2⟩,hq⟩:=v16 hfu hki mn;have hG:=hq (Option.some.inj ((h2 (N+M) (by omega)).symm.trans (h1 (N+M) (by omega))))
    refine⟨by have:=SA hl;simp only at ht;omega,fun i x hx=>?_⟩
    obtain⟨s,p,y,co,rfl,_⟩:=hfu x (List.mem_of_getElem? hx);obtain⟨_,_,h3,h4⟩:=hG i _ _ _ _ hx;refine⟨_,_,_,_,rfl,h3,fun x hx=>?_⟩
    obtain⟨op,a,b,c,z,s,ks,ps,vs,rfl,g1,g2,g3,g4,g5,g6,g7⟩:=h4 x hx;exact⟨_,_,_,_,_,_,_,_,_,rfl,y17 g1 (g2.i hG) (g3.i hG) g4 g5 g6 g7⟩
   ·exact⟨by simp,fun i x hx=>by simp at hx⟩
  obtain⟨hlen,rows⟩:=rows
  have a:∀i,i≤fu.length→Wp (fun n=>mF n fu fu i) fun r=>r=true:=Ai _ fun i hi ih=>wU (by
   simp only[mF];refine wL (wI (fun h=>?_) fun _=>c1 hB fun _ h=>wS h)
   have hx:fu[i]?=some fu[i]:=List.getElem?_eq_getElem (by omega)
   generalize fu[i]=x at hx;obtain⟨s,p,y,co,rfl,hc,hco⟩:=rows i x hx;refine mI hx (wL (mI hx (wL (wI (fun _=>?_) fun h=>absurd rfl h))))
   have b:∀j,j≤co.length→Wp (fun n=>mG n fu fu i j) fun r=>r=true:=Ai _ fun j hj ih2=>wU (by
    simp only[mG];refine mI hx (wL (wI (fun h=>mI hx ?_) fun _=>wi (by omega) (ih (by omega))))
    have hy:co[j]?=some co[j]:=List.getElem?_eq_getElem (by omega)
    generalize co[j]=w at hy;obtain⟨op,a,b,c,v,t,ks,ps,vs,rfl,q,hq,_⟩:=hco w (List.mem_of_getElem? hy);have hq:Wp (fun n=>nA n op a b c ks ps v t vs) fun r=>r=q:=⟨q,hq,rfl⟩
    exact AEe hy (c1 hq fun _ e1=>mI hx (AEe hy (c1 hq fun _ e2=>wI (fun _=>wi (by omega) (ih2 (by omega))) fun h=>absurd (e1.trans e2.symm) h))))
   exact b 0 (Nat.zero_le _))
  exact a 0 (Nat.zero_le _)
 obtain⟨r,h,e⟩:=main;rw[e]at h;exact h
theorem Kc:∀xs:List D,Ji Ab [24] xs→C0 Tryz.prog inv 6 (xs.map V1.d) [] (.v (.d (.bool true))) [] []:=by
 intro xs h
 match xs,h with
 | [p],⟨p1,p2,_⟩=>
  obtain⟨l,rfl,hl⟩:=AMc ⟨p1,p2⟩;obtain⟨n,hn⟩:=(XC hl).run;exact T6 n hn
end Go.Proofs.YtjfmnfncmfepnaaGreatDoor
end
namespace Go.Proofs.YtjfmnfncmfepnaaGreatDoor
open Go Go.ChangeShapes Go.WideShapes Go.ChangeAt Go.RowKit Go.AM
theorem Jj:∀t∈[24],Tryz.prog.readableRec t=true∧t<Tryz.prog.types.size:=by
 have h:([24].all fun t=>Tryz.prog.readableRec t&&decide (t<Tryz.prog.types.size))=true:=by kernel_rfl
 intro t ht;have:=List.all_eq_true.1 h t ht;simpa using this
theorem G8 {W:World}{name:String}{k:IntKind}{zs:List Int}(ht:Lib.TabIs Tryz.prog W name k zs) {b:Nat}(hb:Tryz.prog.globalNamed name=some b):b<W.heap.size:=by
 unfold Lib.TabIs World.var? at ht;rw[hb]at ht;simp only[Option.bind_some]at ht;cases hx:W.heap[b]? with
 | none=>rw[hx]at ht;simp at ht
 | some o=>exact (Array.getElem?_eq_some_iff.1 hx).1
theorem LY {W:World}(h:laidMet Tryz.prog Rows.lowerPlacesRow.laid W):inv.at W fun _ _=>False:=by
 have e:(Rows.lowerPlacesRow.laid.filter fun x=>x.1== "strings.asciiSpace")=[("strings.asciiSpace",Lib.tabData .u8 Lib.asciiSpaceTab)]:=by kernel_rfl
 have h2:=laidMet.filter (fun x=>x.1== "strings.asciiSpace") h
 rw[e]at h2
 have h2:Lib.TabIs Tryz.prog W "strings.asciiSpace" .u8 Lib.asciiSpaceTab:=by
  exact Lib.tabIs_of_head (g:=4) (t:=289) (e:=5) (n:=256) (by kernel_rfl) (by kernel_rfl) (by kernel_rfl) (by kernel_rfl) (by kernel_rfl) (by kernel_rfl) h2
 have e:(Rows.lowerPlacesRow.laid.filter fun x=>x.1== "internal/strconv.uint64pow10")=[("internal/strconv.uint64pow10",Lib.tabData .u64 Lib.pow10Tab)]:=by kernel_rfl
 have h3:=laidMet.filter (fun x=>x.1== "internal/strconv.uint64pow10") h
 rw[e]at h3
 have h3:Lib.TabIs Tryz.prog W "internal/strconv.uint64pow10" .u64 Lib.pow10Tab:=by
  exact Lib.tabIs_of_head (g:=0) (t:=244) (e:=211) (n:=20) (by kernel_rfl) (by kernel_rfl) (by kernel_rfl) (by kernel_rfl) (by kernel_rfl) (by kernel_rfl) h3
 exact⟨⟨h2,h3⟩,fun b hb=>⟨hb.elim (G8 h2) (G8 h3),fun _ h=>h⟩⟩
set_option maxRecDepth 100000 in
theorem Ir (os:Os) (started:os.Started) (H:Type) (enc:TypeId×Value→H):
  ReturnsInHanded {} Tryz.checked os 6 .any (fun w args=>(Rows.lowerPlacesSpec.pre enc Tryz.prog Tryz.f6 Rows.lowerPlacesRow.domain false w args∧laidMetH Tryz.prog Rows.lowerPlacesRow.laid w)∧sizedMet enc Tryz.prog Tryz.f6 (OpenSpec.ofChange Rows.lowerPlacesSpec) false w args)
   (Rows.lowerPlacesSpec.post enc Tryz.prog Tryz.f6 false true false false):=by
 refine returnsInHanded_of_change_and (C:=Tryz.checked) (X:=fun w _=>laidMetH Tryz.prog Rows.lowerPlacesRow.laid w) (fun _ _ _ hh h=>h.of_heap hh) (by kernel_rfl) started (by kernel_rfl) Tryz.func6
  (ChangeSpec.witness_shaped (enc:=enc) (C:=Tryz.checked) (os:=os) (X:=fun w _=>laidMetH Tryz.prog Rows.lowerPlacesRow.laid w) false (World.laidAll Tryz.prog os Rows.lowerPlacesRow.laid) #[.agg #[.slice none 0 0]] 8 (World.laidAll_os _ _ _)
   (World.shaped_of_ZipB (by kernel_rfl) (by kernel_rfl)) (by kernel_rfl) (by kernel_rfl) (by kernel_rfl)
   (by rw[MakeChecks.laidMetH_plain _ _ _ (by kernel_rfl)];exact laidMet_laidAll _ (by kernel_rfl) (by kernel_rfl))) ?_
 intro W base args ds gs before hval0 hW _ _ hL _;rw[MakeChecks.laidMetH_plain _ _ _ (by kernel_rfl)]at hL
 refine ZT (ti:=Ab) (T:=[2,3,5,9,22,24,42,45,46,48,49,51,52,54,56,58,88,90,96]) GY (by kernel_rfl) (ts:=[24]) (bt:=4) rfl rfl rfl (by kernel_rfl) (by decide) ?_ (by kernel_rfl) Jj Kc (LY hL) hval0 hW
 intro ds h
 match ds,h with
 | [_],_=>exact⟨rfl,rfl,rfl⟩
theorem LZ:Rows.LowerPlacesSaid:=
 OpenClaim.holds_of_wide 6 Tryz.f6 rfl rfl rfl rfl rfl rfl rfl ⟨rfl,rfl,rfl,rfl,rfl⟩ rfl rfl rfl rfl rfl (by kernel_rfl) Tryz.func6 (by kernel_rfl)
  (of_decide_eq_true (by kernel_rfl)) (by unfold Func.isWrapper;first | (rw[if_pos (by decide+kernel)];kernel_rfl) | (rw[if_neg (by decide+kernel)];exact⟨rfl,rfl⟩))
  (fun os started H enc _=>Ir os started H enc)
theorem lower_places:Rows.LowerPlacesCardSaid:=
 Claim7.holds_tied_plain_at .later [] [.data,.data,.data,.listed,.data] true Rows.lowerPlacesCard.stood.harness false LZ (fun _ h=>by cases h) (by kernel_rfl) (fun _ h=>by cases h) lowerPlaces_row_tie rfl ⟨rfl,rfl⟩ (by kernel_rfl) rfl
  (fun f fn hf hfn=>by
   obtain rfl:f=6:=Option.some.inj ((show Tryz.prog.funcNamed "weftway/weftwaylaw18.LowerPlaces" =some 6 by kernel_rfl).symm.trans hf) |>.symm
   obtain rfl:fn=Tryz.f6:=(Option.some.inj (Tryz.func6.symm.trans hfn)).symm
   exact⟨by kernel_rfl,fun j t ht=>by
    have hm:t∈[24]:=by
     have hp:Tryz.f6.params.toList=[24]:=rfl;rw[←hp];simpa using Array.mem_of_getElem? ht
    have hall:([24].all fun u=>!Tryz.prog.wantsStandIn u)=true:=by kernel_rfl
    exact (show Tryz.prog.wantsStandIn t=false by simpa using List.all_eq_true.1 hall t hm)⟩)
  (by kernel_rfl)
end Go.Proofs.YtjfmnfncmfepnaaGreatDoor
