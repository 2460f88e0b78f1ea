/- Part of a proof. No condition. (Part 6.) -/
import Derived.Test.YtjfmnfncmfepnaaGreatDoorLowE
set_option linter.unusedVariables false
set_option linter.unusedSimpArgs false
set_option linter.unusedSectionVars false
set_option linter.unusedVariables false
noncomputable section
namespace Go.Proofs.YtjfmnfncmfepnaaGreatDoor
open Go Go.AM
def JJ (vs:List D):Prop:=Fw Ac 56 (.agg vs)
def Vb (vs:List D):Prop:=∃b,vs=[.bool b]
def Vi (vs:List D):Prop:=∃z,vs=[.int .i64 z]
def Ns (t f q:List D) (w:Nat) (t' f' m' q':List D):Prop:=t'=t∧f'=f∧Ap Vb m'∧q'.length≤q.length+w
theorem t56 (b:Bool) (z2 z3:Int) (t f:List D) {q:List D}(h:q.length+1≤1000000000):W3 (fun n=>Bm n b z2 z3 t f q) fun t' f' q'=>t'=t∧f'=f∧q'.length≤q.length+1:=by
 unfold Bm
 exact wB (wI (fun _=>wX (wA (ap (by simp;omega) (by omega)) (wS ⟨rfl,rfl,by simp⟩))) fun _=>wS ⟨rfl,rfl,by dsimp only;omega⟩)
def K3 (t f q:List D) (w:Nat) (t' f' q':List D):Prop:=t'=t∧f'=f∧q'.length≤q.length+w
theorem yP {l t:List D}(ht:Ap JJ t) (h2:∀z f q,q.length+AU l≤1000000000→W3 (fun n=>O9 n l z l.length (0:Nat) t f q) (K3 t f q (AU l))) (h3:∀z f q,q.length+AU l≤1000000000→W3 (fun n=>PA n l z l.length (0:Nat) t f q) (K3 t f q (AU l))) (k:Int) (s:ByteArray) (z:Int) (f q:List D) (hq:q.length+AU l+1≤1000000000):
  W3 (fun n=>iR n k s l z t f q) (K3 t f q (AU l+1)):=wU (by
 have h1:∀b,W3 (fun n=>TG n l z t f q b) (K3 t f q (AU l+1)):=fun b=>wU (by
  simp only[TG]
  refine c3 (t56 b 60 z t f (by omega)) fun t' f' q' ⟨e1,e2,e3⟩=>?_
  subst e1;subst e2
  exact wL (wM (h2 z f' q' (by omega)) fun r h=>⟨h.1,h.2.1,by have:=h.2.2;omega⟩))
 simp only[iR]
 exact wI (fun _=>wF ht (fun vs hv=>d56 hv fun _ _ _ _ _ _ _ _ _ _ _ _ _ _ _ _ _ _ _ _ _ _ _ _ _ _ _ _ _ _ _ _ _=>h1 _) (h1 _)) fun _=>wL (wM (h3 z f q (by omega)) fun r h=>⟨h.1,h.2.1,by have:=h.2.2;omega⟩))
theorem yQ {t:List D}(ht:Ap JJ t) (l:List D):AB Ac 48 l→∀z,(∀i,i≤l.length→∀f q,q.length+AU (l.drop i)≤1000000000→W3 (fun n=>O9 n l z l.length i t f q) (K3 t f q (AU (l.drop i))))∧∀i,i≤l.length→∀f q,q.length+AU (l.drop i)≤1000000000→W3 (fun n=>PA n l z l.length i t f q) (K3 t f q (AU (l.drop i))):=by
 induction l using Hw with | H l IH
 intro hl z
 have f58:∀m,AB Ac 48 m→AU m<AU l→∀k s z f q,q.length+AU m+1≤1000000000→W3 (fun n=>iR n k s m z t f q) (K3 t f q (AU m+1)):=fun m hm h=>yP ht (fun z f q hq=>(IH m h hm z).1 0 (Nat.zero_le _) f q (by simpa using hq)) fun z f q hq=>(IH m h hm z).2 0 (Nat.zero_le _) f q (by simpa using hq)
 refine⟨Al _ fun i hi ih f q hq=>wU ?_,Al _ fun i hi ih f q hq=>wU ?_⟩
 ·have:=hl.le
  have hd:=BN l i
  simp only[O9]
  refine wI (fun h=>xI hl (by omega) fun k s m hx hw _ _ hm=>c3 (f58 m hm (by omega) k s z f q (by omega)) fun t' f' q' ⟨e1,e2,e3⟩=>?_) fun _=>wS ⟨rfl,rfl,by dsimp only;omega⟩
  subst e1;subst e2
  exact wi (by omega) (wM (ih (by omega) f' q' (by omega)) fun r h=>⟨h.1,h.2.1,by have:=h.2.2;omega⟩)
 ·have:=hl.le
  have hd:=BN l i
  simp only[PA]
  refine wI (fun h=>xI hl (by omega) fun k s m hx hw _ _ hm=>c3 (f58 m hm (by omega) k s z f q (by omega)) fun t' f' q' ⟨e1,e2,e3⟩=>?_) fun _=>wS ⟨rfl,rfl,by dsimp only;omega⟩
  subst e1;subst e2
  exact wi (by omega) (wM (ih (by omega) f' q' (by omega)) fun r h=>⟨h.1,h.2.1,by have:=h.2.2;omega⟩)
theorem t58 {t l:List D}(ht:Ap JJ t) (hl:AB Ac 48 l) (k:Int) (s:ByteArray) (z:Int) (f q:List D) (hq:q.length+AU l+1≤1000000000):W3 (fun n=>iR n k s l z t f q) (K3 t f q (AU l+1)):=
 yP ht (fun z f q hq=>(yQ ht l hl z).1 0 (Nat.zero_le _) f q (by simpa using hq)) (fun z f q hq=>(yQ ht l hl z).2 0 (Nat.zero_le _) f q (by simpa using hq)) k s z f q hq
theorem t57 {t l:List D}(ht:Ap JJ t) (hl:AB Ac 58 l) (z1:Int) (s2:ByteArray) (z4:Int) (s5:ByteArray) (l6 l7:List D) (z8 z9:Int) (s10 s11 s12:ByteArray) (l13 l14:List D) (z15 z16:Int) (f q:List D) (hq:q.length+AU l≤1000000000):
  W3 (fun n=>F57 n z1 s2 l z4 s5 l6 l7 z8 z9 s10 s11 s12 l13 l14 z15 z16 t f q) (K3 t f q (AU l)):=by
 have a:∀i,i≤l.length→∀f q m,Ap Vi m→q.length+AU (l.drop i)≤1000000000→W3 (fun n=>TH n l z16 l.length i t f l m q) (K3 t f q (AU (l.drop i))):=Al _ fun i hi ih f q m hm hq=>wU (by
  have:=hl.le
  simp only[TH]
  refine wI (fun h=>XF hl (by omega) fun s k s2 ty hx hw _ _ _ hty=>?_) fun _=>wS ⟨rfl,rfl,by dsimp only;omega⟩
  have h3:∀m',Ap Vi m'→∀t' f' q',t'=t∧f'=f∧q'.length≤q.length+1→W3 (fun n=>PB n l z16 l.length i l k s2 ty m' t' f' q') (K3 t f q (AU (l.drop i))):=fun m' hm' t' f' q' ⟨e1,e2,e3⟩=>wU (by
   subst e1;subst e2
   simp only[PB]
   refine c3 (t58 ht hty k s2 z16 f' q' (by omega)) fun t2 f2 q2 ⟨g1,g2,g3⟩=>?_
   subst g1;subst g2
   exact wi (by omega) (wM (ih (by omega) f2 q2 m' hm' (by omega)) fun r h=>⟨h.1,h.2.1,by have:=h.2.2;omega⟩))
  have h2:∀m',Ap Vi m'→W3 (fun n=>TJ n l z16 l.length i t f l q s k s2 ty m') (K3 t f q (AU (l.drop i))):=fun m' hm'=>wU (by
   simp only[TJ]
   have e:=fun b=>t56 b 60 z16 t f (q:=q) (by omega)
   exact wF hm' (fun vs ⟨z,e'⟩=>by subst e';exact dZ (wI (fun _=>c3 (e _) fun _ _ _ h=>h3 m' hm' _ _ _ h) fun _=>c3 (e _) fun _ _ _ h=>h3 m' hm' _ _ _ h)) (c3 (e _) fun _ _ _ h=>h3 m' hm' _ _ _ h))
  exact wF hm (fun vs ⟨z,e'⟩=>by subst e';exact dZ (wT (wP hm ⟨_,rfl⟩ fun r hr _=>h2 r hr))) (wP hm ⟨_,rfl⟩ fun r hr _=>h2 r hr))
 unfold F57
 exact wL (wM (a 0 (Nat.zero_le _) f q [] .nil (by simpa using hq)) fun r h=>by simpa using h)
end Go.Proofs.YtjfmnfncmfepnaaGreatDoor
end
set_option linter.unusedVariables false
noncomputable section
namespace Go.Proofs.YtjfmnfncmfepnaaGreatDoor
open Go Go.AM
theorem t216 (b:Bool) (s:ByteArray) (c o:Int) (t f q:List D) {m:List D}(hm:Ap Vb m):W6 (fun n=>VH n b s c o t f q m) fun _ _ t' f' q' m'=>t'=t∧f'=f∧q'=q∧Ap Vb m':=by
 unfold VH
 exact wP hm ⟨_,rfl⟩ fun r hr _=>wS ⟨rfl,rfl,rfl,hr⟩
theorem t148 (s:ByteArray) (z c o:Int) (t f:List D) {q m:List D}(hq:q.length+1≤1000000000) (hm:Ap Vb m):W8 (fun n=>Qt n s z c o t f q m) fun _ _ _ _=>Ns t f q 1:=by
 have h1:∀a b,W8 (fun n=>M3 n s z c o t f q m a b) fun _ _ _ _=>Ns t f q 1:=fun a b=>wU (by
  simp only[M3]
  exact wB (c3 (t56 _ _ _ t f hq) fun t' f' q' ⟨e1,e2,e3⟩=>wP hm ⟨_,rfl⟩ fun r hr _=>wT (wS ⟨e1,e2,hr,e3⟩)))
 unfold Qt
 exact wF hm (fun vs ⟨b,e⟩=>by subst e;exact dB (h1 true b)) (h1 _ _)
theorem t149 (k:Int) (s:ByteArray) {t:List D}(ht:Ap JJ t) (f q:List D):W20 (fun n=>VJ n k s t f q) fun _ _ a3 _ _ _ _ _ _ _ _ _ _ _ _ _ _ t' f' q'=>AB Ac 58 a3∧t'=t∧f'=f∧q'=q:=by
 unfold VJ
 exact wF ht (fun vs hv=>d56 hv fun _ _ _ _ _ _ _ _ _ _ _ _ _ _ _ _ _ _ _ w2 _ _ _ _ _ _ _ _ _ _ _ _ _=>wI (fun _=>wS ⟨w2,rfl,rfl,rfl⟩) fun _=>wS ⟨w2,rfl,rfl,rfl⟩) (wS ⟨.nil,rfl,rfl,rfl⟩)
theorem t150 (s:ByteArray) (z c o:Int) (t f:List D) {q m:List D}(hq:q.length+1≤1000000000) (hm:Ap Vb m):W6 (fun n=>Xd n s z c o t f q m) fun _ _=>Ns t f q 1:=by
 unfold Xd
 have e:=fun b=>t56 b 60 z t f hq
 exact wF hm (fun vs ⟨b,e'⟩=>by subst e';exact dB (c3 (e b) fun t' f' q' ⟨e1,e2,e3⟩=>wS ⟨e1,e2,hm,e3⟩)) (c3 (e _) fun t' f' q' ⟨e1,e2,e3⟩=>wS ⟨e1,e2,hm,e3⟩)
theorem t154 {l3:List D}(h3:AB Ac 58 l3) (z1:Int) (s2:ByteArray) (z4:Int) (s5:ByteArray) (l6 l7:List D) (z8 z9:Int) (s10 s11 s12:ByteArray) (l13 l14:List D) (z15 z16:Int) (s17:ByteArray):Tl fun n=>Zo n z1 s2 l3 z4 s5 l6 l7 z8 z9 s10 s11 s12 l13 l14 z15 z16 s17:=by
 have a:∀i,i≤l3.length→Tl fun n=>M4 n l3 s17 l3.length i:=Al _ fun i hi ih=>wU (by
  have:=h3.le
  simp only[M4]
  exact wI (fun h=>XF h3 (by omega) fun _ _ _ _ _ _ _ _ _ _=>wI (fun _=>wS trivial) fun _=>wi (by omega) (ih (by omega))) fun _=>wS trivial)
 unfold Zo
 exact wL (a 0 (Nat.zero_le _))
theorem t217 {l3 l17:List D}(h3:AB Ac 58 l3) (h17:AB Ac 96 l17) (z1:Int) (s2:ByteArray) (z4:Int) (s5:ByteArray) (l6 l7:List D) (z8 z9:Int) (s10 s11 s12:ByteArray) (l13 l14:List D) (z15 z16:Int):Tl fun n=>mA n z1 s2 l3 z4 s5 l6 l7 z8 z9 s10 s11 s12 l13 l14 z15 z16 l17:=by
 have h3a:∀m,Ap Vi m→∀i,i≤l3.length→Tl fun n=>M5 n l3 m l3.length i:=fun m hm=>Al _ fun i hi ih=>wU (by
  have:=h3.le
  simp only[M5]
  exact wI (fun h=>XF h3 (by omega) fun _ _ _ _ _ _ _ _ _ _=>wF hm (fun vs ⟨z,e⟩=>by subst e;exact dZ (wI (fun _=>wS trivial) fun _=>wi (by omega) (ih (by omega)))) (wS trivial)) fun _=>wS trivial)
 have a:∀i,i≤l17.length→∀m,Ap Vi m→Tl fun n=>FB n z1 s2 l3 z4 s5 l6 l7 z8 z9 s10 s11 s12 l13 l14 z15 z16 l17 l17.length i m:=Al _ fun i hi ih m hm=>wU (by
  have:=h17.le
  have h2:i<l17.length→∀s22 s23 z26 b29 m',Ap Vi m'→Tl fun n=>M6 n z1 s2 l3 z4 s5 l6 l7 z8 z9 s10 s11 s12 l13 l14 z15 z16 l17 l17.length i s22 s23 z26 b29 m':=fun h s22 s23 z26 b29 m' hm'=>wU (by
   have q:Tl fun n=>findF false (.str s22) m' (fun x37=>CH x37 fun z38=>(if (1:Int)<z38 then some false else AW (IntKind.wrap .i64 ((i:Int)+1)) fun z41=>FB n z1 s2 l3 z4 s5 l6 l7 z8 z9 s10 s11 s12 l13 l14 z15 z16 l17 l17.length z41 m')) (AW (IntKind.wrap .i64 ((i:Int)+1)) fun z42=>FB n z1 s2 l3 z4 s5 l6 l7 z8 z9 s10 s11 s12 l13 l14 z15 z16 l17 l17.length z42 m'):=
    wF hm' (fun vs ⟨z,e⟩=>by subst e;exact dZ (wI (fun _=>wS trivial) fun _=>wi (by omega) (ih h m' hm'))) (wi (by omega) (ih h m' hm'))
   simp only[M6]
   exact wB (wI (fun _=>wS trivial) fun _=>wI (fun _=>wI (fun _=>q) fun _=>wS trivial) fun _=>wI (fun _=>wS trivial) fun _=>q))
  simp only[FB]
  exact wI (fun h=>kM h17 (by omega) fun _ _ _ _ _ _ _ _=>u5 (t154 h3 _ _ _ _ _ _ _ _ _ _ _ _ _ _ _ _) fun _ _ _ _ _=>wF hm (fun vs ⟨z,e⟩=>by subst e;exact dZ (wT (wP hm ⟨_,rfl⟩ fun r hr _=>h2 (by omega) _ _ _ _ r hr))) (wP hm ⟨_,rfl⟩ fun r hr _=>h2 (by omega) _ _ _ _ r hr)) fun _=>wL (h3a m hm 0 (Nat.zero_le _)))
 unfold mA
 exact wL (a 0 (Nat.zero_le _) [] .nil)
def Nq (c o:Int) (t f q m:List D):Bool→Int→Int→List D→List D→List D→List D→Prop:=fun _ c' o' t' f' m' q'=>c'=c∧o'=o∧t'=t∧f'=f∧m'=m∧q'=q
theorem t108 {t f q m l6 l7:List D}(ht:Ap JJ t) (hf:Ap JJ f) (hm:Ap Vb m) (h6:AB Ac 9 l6) (h7:AB Ac 54 l7) (z1 z2:Int) (s3 s4 s5:ByteArray) (z8 c o:Int) (hw:z1=19→l7.length≤l6.length):W7 (fun n=>mB n z1 z2 s3 s4 s5 l6 l7 z8 c o t f q m) (Nq c o t f q m):=by
 have r:∀b,Nq c o t f q m b c o t f m q:=fun b=>⟨rfl,rfl,rfl,rfl,rfl,rfl⟩
 have h4:∀b,W7 (fun n=>M7 n c o m t f q b) (Nq c o t f q m):=fun b=>wU (by simp only[M7];exact wS (r _))
 unfold mB
 refine wI (fun _=>wF hf (fun vs hv=>d56 hv fun _ _ _ _ _ _ _ _ _ _ _ _ _ _ _ _ _ _ _ _ _ _ _ _ _ _ _ _ _ _ _ _ _=>wL (wL (wI (fun _=>wS (r _)) fun _=>wS (r _)))) (wS (r _))) fun _=>wI (fun _=>c20 (t149 2 s3 ht f q) fun _ _ _ _ _ _ _ _ _ _ _ _ _ _ _ _ _ _ _ _ ⟨h3,e1,e2,e3⟩=>u5 (t154 h3 _ _ _ _ _ _ _ _ _ _ _ _ _ _ _ _) fun _ _ _ _ _=>?_) fun _=>wI (fun e19=>c20 (t149 1 s3 ht f q) fun _ _ fs _ _ _ _ _ _ _ _ _ _ _ _ _ _ t' f' q' ⟨h3,e1,e2,e3⟩=>?_) fun _=>wI (fun _=>wS (r _)) fun _=>wF hm (fun vs ⟨b,e⟩=>by subst e;exact dB (wS (r b))) (wS (r _))
 ·subst e1;subst e2;subst e3
  exact wI (fun _=>wI (fun _=>wL (wI (fun _=>wI (fun _=>wS (r _)) fun _=>wS (r _)) fun _=>wI (fun _=>wS (r _)) fun _=>wS (r _))) fun _=>wS (r _)) fun _=>wS (r _)
 ·subst e1;subst e2;subst e3
  have hl:=hw e19
  have a:∀i,i≤l7.length→∀b,(b=true→fs.length=l7.length)→W7 (fun n=>M8 n l6 l7 c o m fs t' f' q' b i) (Nq c o t' f' q' m):=Al _ fun i hi ih b hb=>wU (by
   have:=h7.le
   have h3':i<l7.length→fs.length=l7.length→∀b,W7 (fun n=>M9 n l6 l7 c o m fs t' f' q' i b) (Nq c o t' f' q' m):=fun h hq b=>wU (by
    simp only[M9]
    exact wi (by omega) (ih h b fun _=>hq))
   simp only[M8]
   exact wL (wI (fun h=>wI (fun e=>XF h3 (by have:=hb e;omega) fun _ _ _ _ _ _ _ _ _ _=>gs h6 (by omega) fun _ _ _ _=>wI (fun _=>h3' (by omega) (hb e) _) fun _=>h3' (by omega) (hb e) _) fun _=>h4 _) fun _=>h4 _))
  have h1:∀b,(b=true→fs.length=l7.length)→W7 (fun n=>Jz n l6 l7 c o m fs t' f' q' b) (Nq c o t' f' q' m):=fun b hb=>wU (by simp only[Jz];exact a 0 (Nat.zero_le _) b hb)
  exact wI (fun _=>wL (wL (wI (fun e=>h1 true fun _=>by omega) fun _=>h1 false fun h=>by cases h))) fun _=>h1 false fun h=>by cases h
end Go.Proofs.YtjfmnfncmfepnaaGreatDoor
end
set_option linter.unusedVariables false
noncomputable section
namespace Go.Proofs.YtjfmnfncmfepnaaGreatDoor
open Go Go.AM
section
variable {γ:Type}{P:γ→Prop}{t f q:List D}{w:Nat}
section
variable {k:Nat→List D→List D→List D→Option γ}
theorem n3 {A:Nat→Option (List D×List D×List D)}(h:W3 A (K3 t f q w)) (hk:∀q',q'.length≤q.length+w→Wp (fun n=>k n t f q') P):Wp (fun n=>EK (A n) (k n)) P:=c3 h fun t' f' q' ⟨e1,e2,e3⟩=>by
 simp_all
theorem n6 {A:Nat→Option (Int×Int×List D×List D×List D×List D)}{k:Nat→Int→Int→List D→List D→List D→List D→Option γ}(h:W6 A fun _ _=>Ns t f q w) (hk:∀c o m' q',Ap Vb m'→q'.length≤q.length+w→Wp (fun n=>k n c o t f m' q') P):Wp (fun n=>Kx (A n) (k n)) P:=c6 h fun c o t' f' m' q' ⟨e1,e2,e3,e4⟩=>by
 simp_all
theorem n8 {A:Nat→Option (Bool×ByteArray×Int×Int×List D×List D×List D×List D)}{k:Nat→Bool→ByteArray→Int→Int→List D→List D→List D→List D→Option γ}(h:W8 A fun _ _ _ _=>Ns t f q w) (hk:∀b s c o m' q',Ap Vb m'→q'.length≤q.length+w→Wp (fun n=>k n b s c o t f m' q') P):Wp (fun n=>kA (A n) (k n)) P:=c8 h fun b s c o t' f' m' q' ⟨e1,e2,e3,e4⟩=>by
 subst e1;subst e2;exact hk b s c o m' q' e3 e4
theorem Xp {b:Bool}{z2 z3:Int}(h:q.length+1≤1000000000) (hk:∀q',q'.length≤q.length+1→Wp (fun n=>k n t f q') P):Wp (fun n=>EK (Bm n b z2 z3 t f q) (k n)) P:=n3 (t56 b z2 z3 t f h) hk
end
end
def Lc (l:List D):Prop:=∀x∈l,∃b s,x= .agg [.bool b,.str s]
theorem Lc.cons {b:Bool}{s:ByteArray}{l:List D}(h:Lc l):Lc (.agg [.bool b,.str s]::l):=fun x hx=>by
 rcases List.mem_cons.1 hx with rfl | hx
 ·exact⟨b,s,rfl⟩
 ·exact h x hx
theorem Zp {l:List D}(h:DP l):∀i,DP (l.drop i):=by
 induction h with
 | nil=>intro i;simp;exact .nil
 | cons h hq hl _ ih=>intro i;cases i with
  | zero=>exact .cons h hq hl
  | succ i=>exact ih i
theorem Zq {l:List D}(h:DP l) {i:Nat}{op z z2:Int}{a b c:ByteArray}{p q:List D}(hx:l[i]?=some (.agg [.int .u8 op,.int .i64 z,.str a,.str b,.str c,.list false 1 p,.list true 8 q,.int .i64 z2])):(op=19→q.length≤p.length)∧DP q:=by
 have:=Zp h i
 rw[drop_at hx]at this
 cases this with
 | cons h hq hl=>exact⟨h,hq⟩
section
variable {t f:List D}(ht:Ap JJ t) (hf:Ap JJ f)
include ht hf
theorem yR {l7:List D}(h7:AB Ac 54 l7) (h:∀i,i≤l7.length→∀c o q m,Ap Vb m→q.length+AU (l7.drop i)≤1000000000→W6 (fun n=>PC n l7 l7.length i c o t f m q) fun _ _=>Ns t f q (AU (l7.drop i))) (z1 z2:Int) (s3 s4 s5:ByteArray) {l6:List D}(h6:AB Ac 9 l6) (hw:z1=19→l7.length≤l6.length) (z8 c o:Int) (q m:List D) (hm:Ap Vb m) (hq:q.length+AU l7+1≤1000000000):
  W6 (fun n=>tV n z1 z2 s3 s4 s5 l6 l7 z8 c o t f q m) fun _ _=>Ns t f q (AU l7+1):=wU (by
 simp only[tV]
 refine c7 (t108 ht hf hm h6 h7 z1 z2 s3 s4 s5 z8 c o hw) fun b c' o' t' f' m' q' ⟨e1,e2,e3,e4,e5,e6⟩=>?_
 subst e1;subst e2;subst e3;subst e4;subst e5;subst e6
 exact wN rfl (wN rfl (Xp (by omega) fun q2 h2=>wL (wM (h 0 (Nat.zero_le _) _ _ q2 _ hm (by grind)) fun r hr=>⟨hr.1,hr.2.1,hr.2.2.1,by have:=hr.2.2.2;grind⟩)))
 )
theorem AFb (l:List D):AB Ac 54 l→DP l→∀i,i≤l.length→∀c o q m,Ap Vb m→q.length+AU (l.drop i)≤1000000000→W6 (fun n=>PC n l l.length i c o t f m q) fun _ _=>Ns t f q (AU (l.drop i)):=by
 induction l using Hw with | H l IH
 intro hl hx
 refine Al _ fun i hi ih c o q m hm hq=>wU ?_
 have:=hl.le
 have hd:=BN l i
 simp only[PC]
 exact wI (fun h=>Uh hl (by omega) fun k z1 s1 s2 s3 p r z2 he hw _ _ _ _ _ hp hr _=>by
  obtain⟨x1,x2⟩:=Zq hx he
  exact n6 (yR ht hf hr (IH r (by omega) hr x2) k z1 s1 s2 s3 hp x1 z2 c o q m hm (by omega)) fun c' o' m' q' hm' hq'=>wi (by omega) (wM (ih (by omega) c' o' q' m' hm' (by omega)) fun r hr=>⟨hr.1,hr.2.1,hr.2.2.1,by have:=hr.2.2.2;omega⟩)) fun _=>wS ⟨rfl,rfl,hm,by dsimp only;omega⟩
theorem t62 {l6 l7:List D}(h6:AB Ac 9 l6) (h7:AB Ac 54 l7) (hx:DP l7) (z1 z2:Int) (s3 s4 s5:ByteArray) (hw:z1=19→l7.length≤l6.length) (z8 c o:Int) {q m:List D}(hm:Ap Vb m) (hq:q.length+AU l7+1≤1000000000):
  W6 (fun n=>tV n z1 z2 s3 s4 s5 l6 l7 z8 c o t f q m) fun _ _=>Ns t f q (AU l7+1):=yR ht hf h7 (AFb ht hf l7 h7 hx) z1 z2 s3 s4 s5 h6 hw z8 c o q m hm hq
end
end Go.Proofs.YtjfmnfncmfepnaaGreatDoor
end
set_option linter.unusedVariables false
noncomputable section
namespace Go.Proofs.YtjfmnfncmfepnaaGreatDoor
open Go Go.AM
theorem sm9 {a0:ByteArray}(w0:a0.size≤maxLen):Shape Ac 9 [.str a0]:=.str (x:=CN Ac 9) a0 (by kernel_rfl) (by kernel_rfl) w0
theorem mk9 {a0:ByteArray}(w0:a0.size≤maxLen):Fw Ac 9 (.str a0):=⟨sm9 w0,fun y hy=>by rw[show Ac 9=some (CN Ac 9)by kernel_rfl]at hy;cases hy;kernel_rfl⟩
end Go.Proofs.YtjfmnfncmfepnaaGreatDoor
end
set_option linter.unusedVariables false
noncomputable section
namespace Go.Proofs.YtjfmnfncmfepnaaGreatDoor
open Go Go.AM
mutual
theorem DN.drop:∀{d:Nat}{l:List D},DN d l→∀i,DN d (l.drop i)
 | _,_,.nil,i=>by simp;exact .nil
 | _,_,.cons h1 h2 h3 h4 he hb hs ha hl,0=>.cons h1 h2 h3 h4 he hb hs ha hl
 | _,_,.cons h1 h2 h3 h4 he hb hs ha hl,i+1=>DN.drop hl i
end
theorem JI.drop:∀{d:Nat}{l:List D},JI d l→∀i,JI d (l.drop i)
 | _,_,.nil,i=>by simp;exact .nil
 | _,_,.cons hb hl,0=>.cons hb hl
 | _,_,.cons hb hl,i+1=>JI.drop hl i
def Wps (d:Nat) (op:Int) (ex body els arms:List D):Prop:=(op=7→1≤ex.length)∧(op≠6→op≠7→op≠9→op≠10→op≠11→op≠13→body=[])∧(op≠6→els=[])∧(op≠8→arms=[])∧DP ex∧DN d body∧DN d els∧JI d arms
theorem Qu {d:Nat}{l:List D}(h:DN d l) {i:Nat}{op k z z2:Int}{s1 s2 s3 s4:ByteArray}{ns ty path ex body els arms:List D}(hx:l[i]?=some (.agg [.int .u8 op,.str s1,.str s2,.list false 1 ns,.int .u8 k,.str s3,.list true 3 ty,.int .i64 z,.str s4,.list false 1 path,.list true 8 ex,.list true 15 body,.list true 15 els,.list true 3 arms,.int .i64 z2])):1≤d∧Wps (d - 1) op ex body els arms:=by
 have:=h.drop i
 rw[drop_at hx]at this
 cases this with
 | cons h1 h2 h3 h4 he hb hs ha hl=>exact⟨by omega,h1,h2,h3,h4,he,hb,hs,ha⟩
theorem Qv {d:Nat}{l:List D}(h:JI d l) {i:Nat}{s1 s2:ByteArray}{b:List D}(hx:l[i]?=some (.agg [.str s1,.str s2,.list true 15 b])):DN d b:=by
 have:=h.drop i
 rw[drop_at hx]at this
 cases this with
 | cons hb hl=>exact hb
section
variable {t f:List D}(ht:Ap JJ t) (hf:Ap JJ f)
theorem tX (rows:List D):Lc rows→∀c o (q m:List D),Ap Vb m→W6 (fun n=>J0 n rows c o t f m q) fun _ _=>Ns t f q 0:=by
 induction rows with
 | nil=>exact fun _ c o q m hm=>wU (by simp only[J0,Fe];exact wS ⟨rfl,rfl,hm,Nat.le_refl _⟩)
 | cons x rows ih=>
  refine fun hr c o q m hm=>wU ?_
  obtain⟨b,s,rfl⟩:=hr x (List.mem_cons_self ..)
  simp only[J0,Fe,DI]
  refine c6 (t216 b s c o t f q hm) fun c' o' t' f' q' m' ⟨e1,e2,e3,h⟩=>?_
  subst e1;subst e2;subst e3
  exact ih (fun y hy=>hr y (List.mem_cons_of_mem _ hy)) c' o' _ m' h
theorem mE (rows:List D):Lc rows→∀c o (q m:List D),Ap Vb m→W6 (fun n=>HP n rows c o t f m q) fun _ _=>Ns t f q 0:=by
 induction rows with
 | nil=>exact fun _ c o q m hm=>wU (by simp only[HP,Fe];exact wS ⟨rfl,rfl,hm,Nat.le_refl _⟩)
 | cons x rows ih=>
  refine fun hr c o q m hm=>wU ?_
  obtain⟨b,s,rfl⟩:=hr x (List.mem_cons_self ..)
  simp only[HP,Fe,DI]
  refine c6 (t216 b s c o t f q hm) fun c' o' t' f' q' m' ⟨e1,e2,e3,h⟩=>?_
  subst e1;subst e2;subst e3
  exact ih (fun y hy=>hr y (List.mem_cons_of_mem _ hy)) c' o' _ m' h
theorem mF (rows:List D):Lc rows→∀c o (q m:List D),Ap Vb m→W6 (fun n=>HQ n rows c o t f m q) fun _ _=>Ns t f q 0:=by
 induction rows with
 | nil=>exact fun _ c o q m hm=>wU (by simp only[HQ,Fe];exact wS ⟨rfl,rfl,hm,Nat.le_refl _⟩)
 | cons x rows ih=>
  refine fun hr c o q m hm=>wU ?_
  obtain⟨b,s,rfl⟩:=hr x (List.mem_cons_self ..)
  simp only[HQ,Fe,DI]
  refine c6 (t216 b s c o t f q hm) fun c' o' t' f' q' m' ⟨e1,e2,e3,h⟩=>?_
  subst e1;subst e2;subst e3
  exact ih (fun y hy=>hr y (List.mem_cons_of_mem _ hy)) c' o' _ m' h
def S1 (t f m:List D):Prop:=∀c o q mm,Ap Vb mm→q.length+AU m≤1000000000→W6 (fun n=>V6 n m c o t f q mm) fun _ _=>Ns t f q (AU m)
def S2 (t f m:List D):Prop:=∀c o q mm,Ap Vb mm→q.length+AU m≤1000000000→W6 (fun n=>V7 n m c o t f q mm) fun _ _=>Ns t f q (AU m)
theorem t153 {m:List D}(hS:S1 t f m) {ns:List D}(hns:AB Ac 9 ns) (z c o:Int) {q mm:List D}(hm:Ap Vb mm) (hq:q.length+AU m+ns.length≤1000000000):W6 (fun n=>Nx n m z ns c o t f q mm) fun _ _=>Ns t f q (AU m+ns.length):=wU (by
 have a:∀i,i≤ns.length→∀rows c o q mm,Lc rows→Ap Vb mm→q.length+AU m+(ns.length - i)≤1000000000→W6 (fun n=>NA n m z ns ns.length i rows c o t f mm q) fun _ _=>Ns t f q (AU m+(ns.length - i)):=Al _ fun i hi ih rows c o q mm hr hm hq=>wU (by
  have:=hns.le
  simp only[NA]
  exact wI (fun h=>gs hns (by omega) fun s _ _ _=>n8 (t148 s z c o t f (by omega) hm) fun b s c o m' q' hm' hq'=>wi (by omega) (wM (ih (by omega) _ c o q' m' hr.cons hm' (by omega)) fun r hr=>⟨hr.1,hr.2.1,hr.2.2.1,by have:=hr.2.2.2;omega⟩)) fun h=>n6 (hS c o q mm hm (by omega)) fun c o m' q' hm' hq'=>wM (tX rows hr c o q' m' hm') fun r hr=>⟨hr.1,hr.2.1,hr.2.2.1,by have:=hr.2.2.2;omega⟩)
 simp only[Nx]
 exact wL (wM (a 0 (Nat.zero_le _) [] c o q mm (fun x hx=>by cases hx) hm (by simpa using hq)) fun r hr=>by simpa using hr))
theorem t151 {l14:List D}(h14:AB Ac 96 l14) (hS:∀(i:Nat) s1 s2 b,l14[i]?=some (.agg [.str s1,.str s2,.list true 15 b])→S1 t f b) (ht:Ap JJ t) (z1:Int) (s2 s3:ByteArray) (l4:List D) (z5:Int) (s6:ByteArray) (l7:List D) (z8:Int) (s9:ByteArray) (l10 l11 l12 l13:List D) (z15 c o:Int) {q m:List D}(hm:Ap Vb m) (hq:q.length+AU l14+1≤1000000000):
  W6 (fun n=>mC n z1 s2 s3 l4 z5 s6 l7 z8 s9 l10 l11 l12 l13 l14 z15 c o t f q m) fun _ _=>Ns t f q (AU l14+1):=wU (by
 have a:∀i,i≤l14.length→∀c o q m,Ap Vb m→q.length+AU (l14.drop i)≤1000000000→W6 (fun n=>IE n l14 z15 l14.length i c o t f m l14 q) fun _ _=>Ns t f q (AU (l14.drop i)):=Al _ fun i hi ih c o q m hm hq=>wU (by
  have:=h14.le
  simp only[IE]
  refine wI (fun h=>kM h14 (by omega) fun s1 s2 b hx hw _ hs2 hb=>?_) fun _=>wS ⟨rfl,rfl,hm,by dsimp only;omega⟩
  have e:∀ns,AB Ac 9 ns→ns.length≤1→W6 (fun n=>Kx (Nx n b z15 ns c o t f q m) fun z73 z74 l75 l76 l77 l78=>AW (IntKind.wrap .i64 ((i:Int)+1)) fun z85=>IE n l14 z15 l14.length z85 z73 z74 l75 l76 l77 l14 l78) fun _ _=>Ns t f q (AU (l14.drop i)):=fun ns hns hl=>n6 (t153 (hS i s1 s2 b hx) hns z15 c o hm (by omega)) fun c o m' q' hm' hq'=>wi (by omega) (wM (ih (by omega) c o q' m' hm' (by omega)) fun r hr=>⟨hr.1,hr.2.1,hr.2.2.1,by have:=hr.2.2.2;omega⟩)
  exact wI (fun _=>e [] .nil (by simp)) fun _=>e [.str s2] (.one (mk9 hs2)) (by simp))
 have h1:∀q',q'.length≤q.length+1→W6 (fun n=>IC n l14 z15 c o m t f q') fun _ _=>Ns t f q (AU l14+1):=fun q' h=>wU (by
  simp only[IC]
  exact wL (wM (a 0 (Nat.zero_le _) c o q' m hm (by grind)) fun r hr=>⟨hr.1,hr.2.1,hr.2.2.1,by have:=hr.2.2.2;grind⟩))
 simp only[mC]
 refine c20 (t149 2 s3 ht f q) fun _ _ _ _ _ _ _ _ _ _ _ _ _ _ _ _ _ t' f' q' ⟨h3,e1,e2,e3⟩=>?_
 subst e1;subst e2;subst e3
 exact wF hm (fun vs ⟨b,e⟩=>by subst e;exact dB (wI (fun _=>wI (fun _=>u1 (t217 h3 h14 _ _ _ _ _ _ _ _ _ _ _ _ _ _ _) fun _=>Xp (by omega) h1) fun _=>Xp (by omega) h1) fun _=>Xp (by omega) h1)) (Xp (by omega) h1))
theorem t152 {ns body:List D}(hns:AB Ac 9 ns) (hS:S2 t f body) (z1:Int) (s2 s3:ByteArray) (z5:Int) (s6:ByteArray) (l7:List D) (z8:Int) (s9:ByteArray) (l10 l11 l13 l14:List D) (z15 c o:Int) {q m:List D}(hm:Ap Vb m) (hq:q.length+ns.length+AU body+2≤1000000000):
  W6 (fun n=>mD n z1 s2 s3 ns z5 s6 l7 z8 s9 l10 l11 body l13 l14 z15 c o t f q m) fun _ _=>Ns t f q (ns.length+AU body+2):=wU (by
 have a:∀i,i≤ns.length→∀c' o' q' m',Ap Vb m'→q'.length+(ns.length - i)+AU body+1≤1000000000→W6 (fun n=>NC n ns body z15 c o m ns.length i t f ns c' o' m' q') fun _ _=>Ns t f q' (ns.length - i+AU body+1):=Al _ fun i hi ih c' o' q' m' hm' hq=>wU (by
  have:=hns.le
  simp only[NC]
  exact wI (fun h=>gs hns (by omega) fun s _ _ _=>n8 (t148 s z15 c' o' t f (by omega) hm') fun b s c o m' q' hm' hq'=>wi (by omega) (wM (ih (by omega) c o q' m' hm' (by omega)) fun r hr=>⟨hr.1,hr.2.1,hr.2.2.1,by have:=hr.2.2.2;omega⟩)) fun h=>n6 (hS c' o' q' m' hm' (by omega)) fun c o m2 q2 hm2 hq2=>wI (fun _=>Xp (by omega) fun q3 h3=>wS ⟨rfl,rfl,hm,by dsimp only;omega⟩) fun _=>Xp (by omega) fun q3 h3=>wS ⟨rfl,rfl,hm,by dsimp only;omega⟩)
 have h1:∀q',q'.length≤q.length+1→W6 (fun n=>NB n ns body z15 c o m t f q') fun _ _=>Ns t f q (ns.length+AU body+2):=fun q' h=>wU (by
  simp only[NB]
  refine c3 (Q:=fun a b c=>t=a∧f=b∧q'=c) (by unfold yH;exact wS ⟨rfl,rfl,rfl⟩) fun a b c ⟨e1,e2,e3⟩=>?_
  subst e1;subst e2;subst e3
  exact wL (wM (a 0 (Nat.zero_le _) 0 0 q' [] .nil (by omega)) fun r hr=>⟨hr.1,hr.2.1,hr.2.2.1,by have:=hr.2.2.2;omega⟩))
 simp only[mD]
 exact wI (fun _=>Xp (by omega) h1) fun _=>Xp (by omega) h1)
end
end Go.Proofs.YtjfmnfncmfepnaaGreatDoor
end
set_option linter.unusedVariables false
noncomputable section
namespace Go.Proofs.YtjfmnfncmfepnaaGreatDoor
open Go Go.AM
theorem EM {l:List D}(h:AB Ac 9 l):AU l=l.length:=by
 replace h:=h.2
 induction l with
 | nil=>rfl
 | cons x l ih=>
  obtain⟨s,rfl,_⟩:=uP (h x (List.mem_cons_self ..))
  simp only[AU,wt,List.length_cons,ih fun y hy=>h y (List.mem_cons_of_mem _ hy)];omega
section
variable {t f:List D}(ht:Ap JJ t) (hf:Ap JJ f)
def Xf (t f q:List D) (w:Nat):Int→Int→List D→List D→List D→List D→List D→Prop:=fun _ _ t' f' m' out q'=>Ns t f q w t' f' m' q'∧Lc out∧out.length≤1000000000
include ht hf
theorem t107 {ns ty ex body els arms:List D}(hns:AB Ac 9 ns) (hty:AB Ac 48 ty) (hex:AB Ac 54 ex) (hx:DP ex) (har:AB Ac 96 arms) (hb:S1 t f body) (he:S1 t f els) (hb2:S2 t f body) (ha:∀(i:Nat) s1 s2 b,arms[i]?=some (.agg [.str s1,.str s2,.list true 15 b])→S1 t f b)
  (op:Int) (s2 s3:ByteArray) (k:Int) (s6:ByteArray) (z8:Int) (s9:ByteArray) (hs2:s2.size≤maxLen) (pa:List D) (z15 c o:Int) {q m:List D} (hm:Ap Vb m) (hq:q.length+(AU ns+AU ty+AU ex+AU body+AU els+AU arms+9)≤1000000000):
  W7 (fun n=>Xe n op s2 s3 ns k s6 ty z8 s9 pa ex body els arms z15 c o t f q m) (Xf t f q (AU ns+AU ty+AU ex+AU body+AU els+AU arms+9)):=wU (by
 have hln:=EM hns
 have h4:∀c o m' out q',Ap Vb m'→Lc out→out.length≤1000000000→q'.length≤q.length+(AU ns+AU ty+AU ex+AU body+AU els+AU arms+9)→W7 (fun n=>Dg n c o t f m' out q') (Xf t f q (AU ns+AU ty+AU ex+AU body+AU els+AU arms+9)):=fun c o m' out q' h1 h2 h3 h4=>wU (by
  simp only[Dg]
  exact wS ⟨⟨rfl,rfl,h1,h4⟩,h2,h3⟩)
 have lc0:Lc []:=fun x hx=>by cases hx
 have h4':∀c o m' q',Ap Vb m'→q'.length≤q.length+(AU ns+AU ty+AU ex+AU body+AU els+AU arms+9)→W7 (fun n=>Dg n c o t f m' [] q') (Xf t f q (AU ns+AU ty+AU ex+AU body+AU els+AU arms+9)):=fun c o m' q' h1 h2=>h4 c o m' [] q' h1 lc0 (by simp) h2
 have h3:∀i,i≤ns.length→∀c o m' out q',Ap Vb m'→Lc out→out.length≤i→q'.length≤q.length+AU ex+i+1→W7 (fun n=>NF n ns z15 ns.length i c o t f m' ns out q') (Xf t f q (AU ns+AU ty+AU ex+AU body+AU els+AU arms+9)):=Al _ fun i hi ih c o m' out q' g1 g2 g3 g4=>wU (by
  have:=hns.le
  simp only[NF]
  exact wI (fun h=>gs hns (by omega) fun s _ _ _=>n8 (t148 s z15 c o t f (by omega) g1) fun b s c o m2 q2 hm2 hq2=>wA (ap (by simp;omega) (by omega)) (wi (by omega) (ih (by omega) c o m2 _ q2 hm2 (fun x hx=>by
   rcases List.mem_append.1 hx with hx | hx
   ·exact g2 x hx
   simp_all) (by simp;omega) (by omega)))) fun _=>h4 c o m' out q' g1 g2 (by omega) (by omega))
 have h2:∀c o m' q',Ap Vb m'→q'.length≤q.length+AU ex+1→W7 (fun n=>J1 n ns z15 c o m' t f op q') (Xf t f q (AU ns+AU ty+AU ex+AU body+AU els+AU arms+9)):=fun c o m' q' g1 g2=>wU (by
  simp only[J1]
  exact wL (h3 0 (Nat.zero_le _) c o m' [] q' g1 lc0 (by simp) g2))
 have h1:∀i,i≤ex.length→∀c o q' m',Ap Vb m'→q'.length+AU (ex.drop i)≤q.length+AU ex→W7 (fun n=>ND n op s2 s3 ns k s6 ty z8 s9 pa ex body els arms z15 ex.length i c o t f m' ex q') (Xf t f q (AU ns+AU ty+AU ex+AU body+AU els+AU arms+9)):=Al _ fun i hi ih c o q' m' g1 g2=>wU (by
  have:=hex.le
  simp only[ND]
  refine wI (fun h=>Uh hex (by omega) fun k z1 s1 s2 s3 p r z2 hy hw _ _ _ _ _ hp hr _=>?_) fun _=>wI (fun _=>n8 (t148 s2 z15 c o t f (by omega) g1) fun b s c o m2 q2 hm2 hq2=>wA (ap (by simp) (by omega)) (h4 c o m2 _ q2 hm2 (Lc.cons lc0) (by simp) (by omega))) fun _=>wI (fun _=>?_) fun _=>wI (fun _=>n6 (t150 s9 z15 c o t f (by omega) g1) fun c o m2 q2 hm2 hq2=>h4' c o m2 q2 hm2 (by omega)) fun _=>wI (fun _=>n6 (t150 s2 z15 c o t f (by omega) g1) fun c o m2 q2 hm2 hq2=>h4' c o m2 q2 hm2 (by omega)) fun _=>wI (fun _=>n3 (t58 ht hty k s6 z15 f q' (by omega)) fun q2 hq2=>n8 (t148 s2 z15 c o t f (by omega) g1) fun b s c o m3 q3 hm3 hq3=>n8 (t148 s3 z15 c o t f (by omega) hm3) fun b2 s2 c o m4 q4 hm4 hq4=>wA (ap (by simp) (by omega)) (h4 c o m4 _ q4 hm4 (Lc.cons (Lc.cons lc0)) (by simp) (by omega))) fun _=>wI (fun _=>n6 (t151 har ha ht op s2 s3 ns k s6 ty z8 s9 pa ex body els z15 c o g1 (by omega)) fun c o m2 q2 hm2 hq2=>h4' c o m2 q2 hm2 (by omega)) fun _=>wI (fun _=>n6 (t152 hns hb2 op s2 s3 k s6 ty z8 s9 pa ex els arms z15 c o g1 (by omega)) fun c o m2 q2 hm2 hq2=>h4' c o m2 q2 hm2 (by omega)) fun _=>wI (fun _=>wT (n6 (t153 hb .nil z15 c _ g1 (by simp;omega)) fun c o m2 q2 hm2 hq2=>wT (h4' c _ m2 q2 hm2 (by simp at hq2;omega)))) fun _=>wI (fun _=>n6 (t150 s9 z15 c o t f (by omega) g1) fun c o m2 q2 hm2 hq2=>wX (n6 (t153 hb (.one (mk9 hs2)) z15 c o hm2 (by simp;omega)) fun c o m3 q3 hm3 hq3=>h4' c o m3 q3 hm3 (by simp at hq3;omega))) fun _=>n6 (t153 hb .nil z15 c o g1 (by simp;omega)) fun c o m2 q2 hm2 hq2=>n6 (t153 he .nil z15 c o hm2 (by simp at hq2 ⊢;omega)) fun c o m3 q3 hm3 hq3=>h4' c o m3 q3 hm3 (by simp at hq2 hq3;omega)
  ·obtain⟨x1,x2⟩:=Zq hx hy
   exact n6 (t62 ht hf hp hr x2 k z1 s1 s2 s3 x1 z2 c o g1 (by omega)) fun c o m2 q2 hm2 hq2=>wi (by omega) (ih (by omega) c o q2 m2 hm2 (by omega))
  ·refine c20 (t149 1 s2 ht f q') fun _ _ _ _ _ _ _ _ _ _ _ _ _ _ _ _ _ t' f' q2 ⟨_,e1,e2,e3⟩=>?_
   subst e1;subst e2;subst e3
   exact wI (fun _=>wL (wL (wI (fun _=>Xp (by omega) fun q3 h=>h2 c o m' q3 g1 (by omega)) fun _=>Xp (by omega) fun q3 h=>h2 c o m' q3 g1 (by omega)))) fun _=>Xp (by omega) fun q3 h=>h2 c o m' q3 g1 (by omega))
 simp only[Xe]
 exact wL (h1 0 (Nat.zero_le _) c o q m hm (by simp)))
theorem tSa (l:List D) (hl:AB Ac 90 l) (hB:∀(i:Nat) op s1 s2 ns k s3 ty z s4 pa ex body els arms z2,l[i]?=some (.agg [.int .u8 op,.str s1,.str s2,.list false 1 ns,.int .u8 k,.str s3,.list true 3 ty,.int .i64 z,.str s4,.list false 1 pa,.list true 8 ex,.list true 15 body,.list true 15 els,.list true 3 arms,.int .i64 z2])→AB Ac 90 body→AB Ac 90 els→AB Ac 96 arms→AU body<AU l→AU els<AU l→AU arms<AU l→DP ex∧S1 t f body∧S1 t f els∧S2 t f body∧∀(j:Nat) s1 s2 b,arms[j]?=some (.agg [.str s1,.str s2,.list true 15 b])→S1 t f b):S1 t f l:=fun c o q mm hm hq=>wU (by
 have hd0:=BN l
 have h1:∀i,i≤l.length→∀rows c o q' m',Lc rows→Ap Vb m'→q'.length+AU (l.drop i)≤q.length+AU l→W6 (fun n=>JB n l l.length i rows c o t f m' q') fun _ _=>Ns t f q (AU l):=Al _ fun i hi ih rows c o q' m' g0 g1 g2=>wU (by
  have:=hl.le
  have hd:=hd0 i
  simp only[JB]
  refine wI (fun h=>rB hl (by omega) fun op s1 s2 ns k s3 ty z s4 pa ex body els arms z2 hx hw _ hs1 _ hns _ _ hty _ _ hpa hex hbo hel har _=>?_) fun _=>c0 (Q:=fun _=>True) (by unfold tU;exact wS trivial) fun _=>wM (mE rows g0 c o q' m' g1) fun r hr=>⟨hr.1,hr.2.1,hr.2.2.1,by have:=hr.2.2.2;omega⟩
  obtain⟨x1,x2,x3,x4,x5⟩:=hB i op s1 s2 ns k s3 ty z s4 pa ex body els arms z2 hx hbo hel har (by omega) (by omega) (by omega)
  refine c7 (t107 ht hf hns hty hex x1 har x2 x3 x4 x5 op s1 s2 k s3 z s4 hs1 pa z2 c o g1 (by omega)) fun c o t' f' m2 out q2 ⟨⟨e1,e2,hm2,hq2⟩,ho,hl2⟩=>?_
  subst e1;subst e2
  have h2:∀j,j≤out.length→∀rows,Lc rows→W6 (fun n=>JC n l l.length i c o t' f' m2 out q2 out.length j rows) fun _ _=>Ns t' f' q (AU l):=Al _ fun j hj ih2 rows g0=>wU (by
   simp only[JC]
   exact wI (fun h=>wN (by omega) (wK (by omega) fun x hx=>by
    obtain⟨b,s,rfl⟩:=ho x (List.mem_of_getElem? hx)
    exact dW (wi (by omega) (ih2 (by omega) _ g0.cons)))) fun _=>wi (by omega) (ih (by omega) rows c o q2 m2 g0 hm2 (by omega)))
  exact wL (h2 0 (Nat.zero_le _) rows g0))
 simp only[V6]
 exact wL (h1 0 (Nat.zero_le _) [] c o q mm (fun x hx=>by cases hx) hm (by simp)))
theorem tSb (l:List D) (hl:AB Ac 90 l) (hB:∀(i:Nat) op s1 s2 ns k s3 ty z s4 pa ex body els arms z2,l[i]?=some (.agg [.int .u8 op,.str s1,.str s2,.list false 1 ns,.int .u8 k,.str s3,.list true 3 ty,.int .i64 z,.str s4,.list false 1 pa,.list true 8 ex,.list true 15 body,.list true 15 els,.list true 3 arms,.int .i64 z2])→AB Ac 90 body→AB Ac 90 els→AB Ac 96 arms→AU body<AU l→AU els<AU l→AU arms<AU l→DP ex∧S1 t f body∧S1 t f els∧S2 t f body∧∀(j:Nat) s1 s2 b,arms[j]?=some (.agg [.str s1,.str s2,.list true 15 b])→S1 t f b):S2 t f l:=fun c o q mm hm hq=>wU (by
 have hd0:=BN l
 have h1:∀i,i≤l.length→∀rows c o q' m',Lc rows→Ap Vb m'→q'.length+AU (l.drop i)≤q.length+AU l→W6 (fun n=>JD n l l.length i rows c o t f m' q') fun _ _=>Ns t f q (AU l):=Al _ fun i hi ih rows c o q' m' g0 g1 g2=>wU (by
  have:=hl.le
  have hd:=hd0 i
  simp only[JD]
  refine wI (fun h=>rB hl (by omega) fun op s1 s2 ns k s3 ty z s4 pa ex body els arms z2 hx hw _ hs1 _ hns _ _ hty _ _ hpa hex hbo hel har _=>?_) fun _=>c0 (Q:=fun _=>True) (by unfold tT;exact wS trivial) fun _=>wM (mF rows g0 c o q' m' g1) fun r hr=>⟨hr.1,hr.2.1,hr.2.2.1,by have:=hr.2.2.2;omega⟩
  obtain⟨x1,x2,x3,x4,x5⟩:=hB i op s1 s2 ns k s3 ty z s4 pa ex body els arms z2 hx hbo hel har (by omega) (by omega) (by omega)
  refine c7 (t107 ht hf hns hty hex x1 har x2 x3 x4 x5 op s1 s2 k s3 z s4 hs1 pa z2 c o g1 (by omega)) fun c o t' f' m2 out q2 ⟨⟨e1,e2,hm2,hq2⟩,ho,hl2⟩=>?_
  subst e1;subst e2
  have h2:∀j,j≤out.length→∀rows,Lc rows→W6 (fun n=>JE n l l.length i c o t' f' m2 out q2 out.length j rows) fun _ _=>Ns t' f' q (AU l):=Al _ fun j hj ih2 rows g0=>wU (by
   simp only[JE]
   exact wI (fun h=>wN (by omega) (wK (by omega) fun x hx=>by
    obtain⟨b,s,rfl⟩:=ho x (List.mem_of_getElem? hx)
    exact dW (wi (by omega) (ih2 (by omega) _ g0.cons)))) fun _=>wi (by omega) (ih (by omega) rows c o q2 m2 g0 hm2 (by omega)))
  exact wL (h2 0 (Nat.zero_le _) rows g0))
 simp only[V7]
 exact wL (h1 0 (Nat.zero_le _) [] c o q mm (fun x hx=>by cases hx) hm (by simp)))
theorem tZ (l:List D):AB Ac 90 l→(∃d,DN d l)→S1 t f l∧S2 t f l:=by
 induction l using Hw with | H l IH
 rintro hl ⟨d,hd⟩
 have hB:∀(i:Nat) op s1 s2 ns k s3 ty z s4 pa ex body els arms z2,l[i]?=some (.agg [.int .u8 op,.str s1,.str s2,.list false 1 ns,.int .u8 k,.str s3,.list true 3 ty,.int .i64 z,.str s4,.list false 1 pa,.list true 8 ex,.list true 15 body,.list true 15 els,.list true 3 arms,.int .i64 z2])→AB Ac 90 body→AB Ac 90 els→AB Ac 96 arms→AU body<AU l→AU els<AU l→AU arms<AU l→DP ex∧S1 t f body∧S1 t f els∧S2 t f body∧∀(j:Nat) s1 s2 b,arms[j]?=some (.agg [.str s1,.str s2,.list true 15 b])→S1 t f b:=by
  intro i op s1 s2 ns k s3 ty z s4 pa ex body els arms z2 hx hbo hel har w1 w2 w3
  obtain⟨_,_,_,_,_,h5,h6,h7,h8⟩:=Qu hd hx
  refine⟨h5,(IH body w1 hbo ⟨_,h6⟩).1,(IH els w2 hel ⟨_,h7⟩).1,(IH body w1 hbo ⟨_,h6⟩).2,fun j v n b hj=>?_⟩
  obtain⟨v',n',b',e,_,_,hb⟩:=Wy (har.mem hj)
  cases e
  have:=Bz hj
  have:=BN arms j
  simp only[wt,AU]at*
  exact (IH b (by omega) hb ⟨_,Qv h8 hj⟩).1
 exact⟨tSa ht hf l hl hB,tSb ht hf l hl hB⟩
end
end Go.Proofs.YtjfmnfncmfepnaaGreatDoor
end
set_option linter.unusedVariables false
noncomputable section
namespace Go.Proofs.YtjfmnfncmfepnaaGreatDoor
open Go Go.AM
section
variable {t f:List D}(ht:Ap JJ t) (hf:Ap JJ f)
def R60 (t f q:List D) (w:Nat):Int→Int→List D→List D→List D→Int→ByteArray→List D→Int→ByteArray→List D→List D→Int→Int→ByteArray→ByteArray→ByteArray→List D→List D→Int→Int→List D→Prop:=fun _ _ t' f' _ _ _ _ _ _ _ _ _ _ _ _ _ _ _ _ _ q'=>t=t'∧f=f'∧q'.length≤q.length+w
theorem yS (rows:List D):Lc rows→∀c o (q m:List D),Ap Vb m→∀a1 a2 a3 a4 a5 a6 a7 a8 a9 a10 a11 a12 a13 a14 a15 a16,xH (fun n=>PD n rows c o t f m a1 a2 a3 a4 a5 a6 a7 a8 a9 a10 a11 a12 a13 a14 a15 a16 q) (R60 t f q 0):=by
 induction rows with
 | nil=>exact fun _ c o q m hm a1 a2 a3 a4 a5 a6 a7 a8 a9 a10 a11 a12 a13 a14 a15 a16=>wU (by simp only[PD,Fe];exact wS ⟨rfl,rfl,Nat.le_refl _⟩)
 | cons x rows ih=>
  refine fun hr c o q m hm a1 a2 a3 a4 a5 a6 a7 a8 a9 a10 a11 a12 a13 a14 a15 a16=>wU ?_
  obtain⟨b,s,rfl⟩:=hr x (List.mem_cons_self ..)
  simp only[PD,Fe,DI]
  refine c6 (t216 b s c o t f q hm) fun c' o' t' f' q' m' ⟨e1,e2,e3,h⟩=>?_
  subst e1;subst e2;subst e3
  exact ih (fun y hy=>hr y (List.mem_cons_of_mem _ hy)) c' o' _ m' h _ _ _ _ _ _ _ _ _ _ _ _ _ _ _ _
include ht hf
theorem t60 {l:List D}(hl:AB Ac 90 l) (hd:DN 39 l) {a13 a14:List D}(h13:AB Ac 9 a13) (h14:AB Ac 54 a14) (hx:DP a14) (a1:Int) (a2:ByteArray) (a3:List D) (a4:Int) (a5:ByteArray) (a6 a7:List D) (a8 a9:Int) (a10 a11 a12:ByteArray) (hw:a8=19→a14.length≤a13.length) (a15 a16 c o:Int) {q m:List D}(hm:Ap Vb m) (hq:q.length+AU l+AU a14+1≤1000000000):
  xH (fun n=>F60 n l c o t f q m a1 a2 a3 a4 a5 a6 a7 a8 a9 a10 a11 a12 a13 a14 a15 a16) (R60 t f q (AU l+AU a14+1)):=by
 have hd0:=BN l
 have h1:∀i,i≤l.length→∀rows c o q' m',Lc rows→Ap Vb m'→q'.length+AU (l.drop i)≤q.length+AU l→xH (fun n=>TK n l a1 a2 a3 a4 a5 a6 a7 a8 a9 a10 a11 a12 a13 a14 a15 a16 l.length i rows c o t f m' q') (R60 t f q (AU l+AU a14+1)):=Al _ fun i hi ih rows c o q' m' g0 g1 g2=>wU (by
  have:=hl.le
  have hdi:=hd0 i
  simp only[TK]
  refine wI (fun h=>rB hl (by omega) fun op s1 s2 ns k s3 ty z s4 pa ex body els arms z2 hy hw _ hs1 _ hns _ _ hty _ _ hpa hex hbo hel har _=>?_) fun _=>?_
  ·obtain⟨_,_,_,_,_,h5,h6,h7,h8⟩:=Qu hd hy
   have hb:=tZ ht hf body hbo ⟨_,h6⟩
   refine c7 (t107 ht hf hns hty hex h5 har hb.1 (tZ ht hf els hel ⟨_,h7⟩).1 hb.2 (fun j v n b hj=>by
    obtain⟨v',n',b',e,_,_,hb⟩:=Wy (har.mem hj)
    cases e
    exact (tZ ht hf b hb ⟨_,Qv h8 hj⟩).1) op s1 s2 k s3 z s4 hs1 pa z2 c o g1 (by omega)) fun c o t' f' m2 out q2 ⟨⟨e1,e2,hm2,hq2⟩,ho,hl2⟩=>?_
   subst e1;subst e2
   have h2:∀j,j≤out.length→∀rows,Lc rows→xH (fun n=>TL n l a1 a2 a3 a4 a5 a6 a7 a8 a9 a10 a11 a12 a13 a14 a15 a16 l.length i c o t' f' m2 out q2 out.length j rows) (R60 t' f' q (AU l+AU a14+1)):=Al _ fun j hj ih2 rows g0=>wU (by
    simp only[TL]
    exact wI (fun h=>wN (by omega) (wK (by omega) fun x hx=>by
     obtain⟨b,s,rfl⟩:=ho x (List.mem_of_getElem? hx)
     exact dW (wi (by omega) (ih2 (by omega) _ g0.cons)))) fun _=>wi (by omega) (ih (by omega) rows c o q2 m2 g0 hm2 (by omega)))
   exact wL (h2 0 (Nat.zero_le _) rows g0)
  ·refine c22 (Q:=fun c' o' t' f' m' b1 b2 b3 b4 b5 b6 b7 b8 b9 b10 b11 b12 b13 b14 b15 b16 q2=>t=t'∧f=f'∧Ap Vb m'∧q2.length≤q'.length+(AU a14+1)) ?_ fun c' o' t' f' m' b1 b2 b3 b4 b5 b6 b7 b8 b9 b10 b11 b12 b13 b14 b15 b16 q2 ⟨e1,e2,e3,e4⟩=>?_
   ·unfold F61
    exact n6 (t62 ht hf h13 h14 hx a8 a9 a10 a11 a12 hw a15 c o g1 (by omega)) fun c o m2 q2 hm2 hq2=>wS ⟨rfl,rfl,hm2,hq2⟩
   ·subst e1;subst e2
    exact wM (yS rows g0 c' o' q2 m' e3 b1 b2 b3 b4 b5 b6 b7 b8 b9 b10 b11 b12 b13 b14 b15 b16) fun r hr=>⟨hr.1,hr.2.1,by have:=hr.2.2;omega⟩)
 unfold F60
 exact wL (h1 0 (Nat.zero_le _) [] c o q m (fun x hx=>by cases hx) hm (by simp))
end
def VK (l:List D) (x:D):Prop:=∃s vs,x= .agg (.str s::.int .u8 3::.str s::vs)∧JJ (.int .u8 3::.str s::vs)∧.agg (.int .u8 3::.str s::vs)∈l
theorem VK.map {l m:List D}(h:∀x∈m,VK l x):Ap JJ m:=fun x hx=>by
 obtain⟨s,vs,e,h1,_⟩:=h x hx
 exact⟨s,_,e,h1⟩
theorem Zr {l:List D}{s:ByteArray}{vs:List D}(hv:JJ (.int .u8 3::.str s::vs)) (hl: .agg (.int .u8 3::.str s::vs)∈l):∀{m r:List D},(∀x∈m,VK l x)→Kb (.str s) (.int .u8 3::.str s::vs) m=some r→∀x∈r,VK l x
 | [],r,_,h,x,hx=>by cases h;rw[List.mem_singleton.1 hx];exact⟨s,vs,rfl,hv,hl⟩
 | y::m,r,hm,h,x,hx=>by
  obtain⟨k,us,rfl,_⟩:=hm y (List.mem_cons_self ..)
  unfold Kb at h
  simp only[YE]at h
  split at h
  ·cases h
   rcases List.mem_cons.1 hx with rfl | hx
   ·exact⟨s,vs,rfl,hv,hl⟩
   simp_all
  ·split at h
   ·rename_i r' hr'
    cases h
    rcases List.mem_cons.1 hx with rfl | hx
    ·simp_all
    ·exact Zr hv hl (fun z hz=>hm z (List.mem_cons_of_mem _ hz)) hr' x hx
   ·cases h
  ·cases h
theorem t55 {l:List D}(hl:AB Ac 56 l) (hlen:l.length≤1000000000):W3 (fun n=>F55 n l [] []) fun t f a=>Ap JJ t∧(∀x∈f,VK l x)∧(∀x∈a,∃b,x=D.bool b)∧a.length=l.length:=by
 have a:∀i,i≤l.length→∀t f a,Ap JJ t→(∀x∈f,VK l x)→(∀x∈a,∃b,x=D.bool b)→a.length=i→W3 (fun n=>O8 n l l.length i t f a) fun t f a=>Ap JJ t∧(∀x∈f,VK l x)∧(∀x∈a,∃b,x=D.bool b)∧a.length=l.length:=Al _ fun i hi ih t f a ht hf ha hal=>wU (by
  have happ:∀b:Bool,(∀x∈a++[D.bool b],∃b,x=D.bool b)∧(a++[D.bool b]).length=i+1:=fun b=>⟨fun x hx=>by
   grind,by simp[hal]⟩
  simp only[O8]
  refine wI (fun h=>oM hl (by omega) fun k s l3 z4 s5 l6 l7 z8 z9 s10 s11 s12 l13 l14 z15 z16 hx _ _ _ _ _ _ _ _ _ _ _ _ _ _ _ _ _=>?_) fun _=>wS ⟨ht,hf,ha,by dsimp only;omega⟩
  have hrow:=hl.mem hx
  have hmem:=List.mem_of_getElem? hx
  refine wI (fun hk=>?_) fun hk=>?_
  ·subst hk
   have h3:∀b f',(∀x∈f',VK l x)→W3 (fun n=>TD n l l.length i t a b f') fun t f a=>Ap JJ t∧(∀x∈f,VK l x)∧(∀x∈a,∃b,x=D.bool b)∧a.length=l.length:=fun b f' hf'=>wU (by
    simp only[TD]
    exact wX (wA (ap (by simp;omega) (by omega)) (wi (by omega) (ih (by omega) t f' _ ht hf' (happ b).1 (happ b).2))))
   have h2:∀b,W3 (fun n=>TC n l l.length i t f a 3 s l3 z4 s5 l6 l7 z8 z9 s10 s11 s12 l13 l14 z15 z16 b) fun t f a=>Ap JJ t∧(∀x∈f,VK l x)∧(∀x∈a,∃b,x=D.bool b)∧a.length=l.length:=fun b=>wU (by
    simp only[TC]
    refine wB (wI (fun _=>?_) fun _=>h3 _ _ hf)
    obtain⟨r,h1,_,_⟩:=MI (s:=s) (ws:=[.int .u8 3,.str s,.list true 4 l3,.int .u8 z4,.str s5,.list true 3 l6,.list true 15 l7,.int .u8 z8,.int .i64 z9,.str s10,.str s11,.str s12,.list false 1 l13,.list true 8 l14,.int .i64 z15,.int .i64 z16]) (V:=JJ) hrow (VK.map hf)
    have h4:=Zr hrow hmem hf h1
    simp only[CO,h1]
    exact h3 _ _ h4)
   exact wF (VK.map hf) (fun vs hv=>d56 hv fun _ _ _ _ _ _ _ _ _ _ _ _ _ _ _ _ _ _ _ _ _ _ _ _ _ _ _ _ _ _ _ _ _=>h2 _) (h2 _)
  ·have h5:∀b t',Ap JJ t'→W3 (fun n=>TF n l l.length i f a b t') fun t f a=>Ap JJ t∧(∀x∈f,VK l x)∧(∀x∈a,∃b,x=D.bool b)∧a.length=l.length:=fun b t' ht'=>wU (by
    simp only[TF]
    exact wX (wA (ap (by simp;omega) (by omega)) (wi (by omega) (ih (by omega) t' f _ ht' hf (happ b).1 (happ b).2))))
   have h4:∀b,W3 (fun n=>TE n l l.length i t f a k s l3 z4 s5 l6 l7 z8 z9 s10 s11 s12 l13 l14 z15 z16 b) fun t f a=>Ap JJ t∧(∀x∈f,VK l x)∧(∀x∈a,∃b,x=D.bool b)∧a.length=l.length:=fun b=>wU (by
    simp only[TE]
    exact wB (wI (fun _=>wP ht hrow fun r hr _=>h5 _ r hr) fun _=>h5 _ _ ht))
   exact wF ht (fun vs hv=>d56 hv fun _ _ _ _ _ _ _ _ _ _ _ _ _ _ _ _ _ _ _ _ _ _ _ _ _ _ _ _ _ _ _ _ _=>h4 _) (h4 _))
 unfold F55
 exact wL (a 0 (Nat.zero_le _) [] [] [] .nil (fun x hx=>by cases hx) (fun x hx=>by cases hx) rfl)
end Go.Proofs.YtjfmnfncmfepnaaGreatDoor
end
set_option linter.unusedVariables false
noncomputable section
namespace Go.Proofs.YtjfmnfncmfepnaaGreatDoor
open Go Go.AM
def Mn (l:List D):Prop:=∃vs,D.agg (.int .u8 3::.str E4::vs)∈l
theorem bsq:∀{a b:ByteArray},(a==b)=true→a=b
 | ⟨a⟩,⟨b⟩,h=>by rw[eq_of_beq (show (a==b)=true from h)]
theorem PE {e:Bool}{s:ByteArray}{y:D}:∀{l:List D},GC e (.str s) l=some (some y)→∃vs,D.agg (.str s::vs)∈l
 | [],h=>by cases h
 | x::l,h=>by
  unfold GC at h
  split at h
  ·cases h
  ·rename_i k vs r e1
   cases e1
   split at h
   ·rename_i hk
    cases k<;>simp only[YE]at hk<;>try (cases hk;done)
    rw[bsq (Option.some.inj hk)]
    simp_all
   ·obtain⟨vs,hv⟩:=PE h
    grind
   ·cases h
  ·cases h
theorem t63 {l t f q:List D}(hf:∀x∈f,VK l x) (hq:q.length+1≤1000000000):W3 (fun n=>F63 n t f q) fun _ _ q'=>q'=[]→Mn l:=by
 have e:W3 (fun n=>Bm n false 62 0 t f q) fun _ _ q'=>q'=[]→Mn l:=by
  unfold Bm
  exact wB (wI (fun _=>wX (wA (ap (by simp;omega) (by omega)) (wS (by simp)))) fun h=>absurd rfl h)
 have e':W3 (fun n=>EK (Bm n false 62 0 t f q) fun a b c=>some (a,b,c)) fun _ _ q'=>q'=[]→Mn l:=c3 e fun _ _ _ h=>wS h
 obtain⟨r,h1,h2⟩:=Je (e:=true) (s:=E4) (VK.map hf)
 unfold F63
 simp only[findF,h1]
 cases r with
 | none=>exact e'
 | some y=>
  obtain⟨vs,hv,rfl⟩:=h2 y rfl
  have hm:Mn l:=by
   obtain⟨ws,h⟩:=PE h1
   obtain⟨s,us,e,_,h2⟩:=hf _ h
   cases e
   exact⟨us,h2⟩
  exact d56 hv fun _ _ _ _ _ _ _ _ _ _ _ _ _ _ _ _ _ _ _ _ _ _ _ _ _ _ _ _ _ _ _ _ _=>wL (wI (fun _=>wI (fun _=>c3 (t56 _ _ _ t f hq) fun _ _ _ _=>wS fun _=>hm) fun _=>e') fun _=>e')
theorem dQ {γ:Type}{P:γ→Prop}{b:Bool}{k:Nat→Bool→Option γ}(h:Wp (fun n=>k n b) P):Wp (fun n=>Iv (.bool b) (k n)) P:=h
theorem t20 {l:List D}(hl:AB Ac 56 l) (hw:AU l≤20000) (hlen:l.length≤1000000000):Wp (fun n=>F20 n l) fun q=>q=[]→(∀x∈l,iQ x)∧Mn l:=by
 unfold F20
 refine c1 (t54 hl) fun b hb=>wB (wI (fun _=>wX (wS (by simp))) fun hb2=>?_)
 have hb:=hb (by simpa using hb2)
 refine c3 (t55 hl hlen) fun t f a ⟨ht,hf,ha,hal⟩=>wL ?_
 have h1:∀i,i≤l.length→∀q,q.length+AU (l.drop i)≤20000→Wp (fun n=>NG n l a l.length i t f q) fun q=>q=[]→(∀x∈l,iQ x)∧Mn l:=Al _ fun i hi ih q hq=>wU (by
  simp only[NG]
  refine wI (fun h=>oM hl (by omega) fun k s l3 z4 s5 l6 l7 z8 z9 s10 s11 s12 l13 l14 z15 z16 hx hw _ _ h3 _ _ h6 h7 _ _ _ _ _ h13 h14 _ _=>wN (by omega) (wK (by omega) fun x hx2=>?_)) fun _=>c3 (t63 hf (by omega)) fun _ _ _ h=>wS fun e=>⟨hb,h e⟩
  obtain⟨b,rfl⟩:=ha x (List.mem_of_getElem? hx2)
  have hrow:=hb _ (List.mem_of_getElem? hx)
  refine dQ (wB (c3 (t56 _ _ _ t f (by omega)) fun t1 f1 q1 ⟨e1,e2,e3⟩=>?_))
  subst e1;subst e2
  refine c3 (t57 ht h3 _ _ _ _ _ _ _ _ _ _ _ _ _ _ _ _ _ (by omega)) fun t1 f1 q2 ⟨e1,e2,e4⟩=>?_
  subst e1;subst e2
  refine wI (fun hk=>?_) fun _=>wi (by omega) (ih (by omega) q2 (by omega))
  subst hk
  obtain⟨w1,w2,w3⟩:=hrow rfl
  refine c3 (t58 ht h6 _ _ _ _ _ (by omega)) fun t1 f1 q3 ⟨e1,e2,e5⟩=>?_
  subst e1;subst e2
  unfold yH
  refine c3 (Q:=fun a b c=>a=t1∧b=f1∧c=q3) (wS ⟨rfl,rfl,rfl⟩) fun a1 a2 a3 ⟨e1,e2,e6⟩=>?_
  subst e1;subst e2;subst e6
  have h2:∀j,j≤l3.length→∀m,Ap Vb m→Wp (fun n=>TM n l a l.length i 3 s l3 z4 s5 l6 l7 z8 z9 s10 s11 s12 l13 l14 z15 z16 a1 a2 a3 l3.length j l3 m) fun q=>q=[]→(∀x∈l,iQ x)∧Mn l:=Al _ fun j hj ih2 m hm=>wU (by
   have:=h3.le
   simp only[TM]
   refine wI (fun h=>XF h3 (by omega) fun _ _ _ _ _ _ _ _ _ _=>wP hm ⟨_,rfl⟩ fun r hr _=>wi (by omega) (ih2 (by omega) r hr)) fun _=>wL (c22 (t60 ht (VK.map hf) h7 w3 h13 h14 w2 3 s l3 z4 s5 l6 l7 z8 z9 s10 s11 s12 w1 z15 z16 _ _ hm (by omega)) fun _ _ _ _ _ _ _ _ _ _ _ _ _ _ _ _ _ _ _ _ _ q4 ⟨e1,e2,e6⟩=>?_)
   subst e1;subst e2
   exact wI (fun _=>c3 (t56 _ _ _ _ _ (by omega)) fun _ _ q5 ⟨e1,e2,e7⟩=>by
    subst e1;subst e2
    exact wi (by omega) (ih (by omega) q5 (by omega))) fun _=>c3 (t56 _ _ _ _ _ (by omega)) fun _ _ q5 ⟨e1,e2,e7⟩=>by
    subst e1;subst e2
    exact wi (by omega) (ih (by omega) q5 (by omega)))
  exact wL (h2 0 (Nat.zero_le _) [] .nil))
 exact h1 0 (Nat.zero_le _) [] (by simpa using hw)
end Go.Proofs.YtjfmnfncmfepnaaGreatDoor
end
set_option maxRecDepth 100000
set_option maxHeartbeats 40000000
set_option linter.unusedVariables false
noncomputable section
namespace Go.Proofs.YtjfmnfncmfepnaaGreatDoor
open Go Go.AM
def uS (n:Nat) (g:BA) (h:LD) (i:Int) (j:BA) (k:Int) (l:Int) (m:LD) (o:LD) (p:LD) (b:LD) (c:LD):Option (Int×LD×Int×BA×Int×Int×LD×LD×LD×LD×LD):=
 AW (IntKind.wrap .i64 (l+1)) fun a=>AW (IntKind.wrap .i64 (a - 1)) fun d=>CO (.str g) [.int .i64 d] c fun e=>AW (IntKind.wrap .i64 (a - 1)) fun f=>some (f,h,i,j,k,a,e,m,o,p,b)
noncomputable def X65:AH:=⟨65,Tryz.f65,true,[.p (.ext 0) 0,.s],[.c [.q 16,.ow (.ext 1),.z,.ow (.ext 2),.ow (.ext 3),.str,.z,.z,.ow (.ext 4),.ow (.ext 5)],.l true 4,.l true 16,.t .flat true 2,.l true 9,.t (.fmap false) true 2],[⟨.one (.z),[.c [.q 16,.ow (.loc 0),.z,.ow (.loc 1),.ow (.loc 2),.str,.z,.z,.ow (.loc 3),.ow (.ext 5)],.gone,.gone,.gone,.gone,.t (.fmap false) true 2],[.l true 4,.l true 16,.t .flat true 2,.l true 9]⟩],Int×LD×Int×BA×Int×Int×LD×LD×LD×LD×LD,ii,uS,.g [.move (.ext 1),.move (.ext 2),.move (.ext 3),.move (.ext 4)] [] .e,[],none,[]⟩
noncomputable def k65:Kz:=sg X65 [] Tryz.func65
def B7 (n:Nat) (l:Int) (m:Int) (o:Int) (p:Int) (q:Int) (r:BA) (s:LD) (t:Int) (u:BA) (b:Int) (c:Int) (d:LD) (e:LD) (f:LD) (g:LD) (h:LD):Option (Int×LD×Int×BA×Int×Int×LD×LD×LD×LD×LD):=
 Hs [.agg [.int .u8 l,.int .i64 m,.int .i64 o,.int .i64 p,.list false 1 [],.list false 1 [],.int .i64 q,.str r,.list false 1 []]] fun i=>DH 128 g i fun a=>AP a fun j=>AW (IntKind.wrap .i64 (j - 1)) fun k=>some (k,s,t,u,b,c,h,d,e,f,a)
noncomputable def yT:AH:=⟨69,Tryz.f69,true,[.p (.ext 0) 0,.mix [.y,.z,.z,.z,.nils false 1,.nils false 1,.z,.str,.nils false 1]],[.c [.q 16,.ow (.ext 1),.z,.ow (.ext 2),.ow (.ext 3),.str,.z,.z,.ow (.ext 4),.ow (.ext 5)],.l true 4,.l true 16,.t .flat true 2,.l true 9,.t (.fmap false) true 2],[⟨.one (.z),[.c [.q 16,.ow (.loc 0),.z,.ow (.loc 1),.ow (.loc 2),.str,.z,.z,.ow (.loc 3),.ow (.ext 5)],.gone,.gone,.gone,.gone,.t (.fmap false) true 2],[.l true 4,.l true 16,.t .flat true 2,.l true 9]⟩],Int×LD×Int×BA×Int×Int×LD×LD×LD×LD×LD,ii,B7,.g [.move (.ext 1),.move (.ext 2),.move (.ext 3)] [] .e,[],none,[]⟩
noncomputable def GF:Kz:=sg yT [] Tryz.func69
theorem pF (n:Nat):∀⦃m o p q r s t u w a b e f g i j x y z A B C E F G k l⦄,B7 n m o p q r s t u w a b e f g i j=some (x,y,z,A,B,C,E,F,G,k,l)->
  Ct Tryz.prog inv 69 [.c (.ptr (.ext 0) 0),.agg [.d (.int .u8 m),.d (.int .i64 o),.d (.int .i64 p),.d (.int .i64 q),.nils false 1,.nils false 1,.d (.int .i64 r),.d (.str s),.nils false 1]] [.cells [.d (.list true 16 t),.ow (.ext 1),.d (.int .i64 u),.ow (.ext 2),.ow (.ext 3),.d (.str w),.d (.int .i64 a),.d (.int .i64 b),.ow (.ext 4),.ow (.ext 5)],.tree .row true 4 e none,.tree .row true 16 f none,.tree .flat true 2 g none,.tree .row true 9 i none,.tree (.fmap false) true 2 j none] (.v (.d (.int .i64 x))) [.cells [.d (.list true 16 y),.ow (.loc 0),.d (.int .i64 z),.ow (.loc 1),.ow (.loc 2),.d (.str A),.d (.int .i64 B),.d (.int .i64 C),.ow (.loc 3),.ow (.ext 5)],.gone,.gone,.gone,.gone,.tree (.fmap false) true 2 E none] [.tree .row true 4 F none,.tree .row true 16 G none,.tree .flat true 2 k none,.tree .row true 9 l none]:=fun m o p q r s t u w a b e f g i j x y z A B C E F G k l h=>GF.ok n [.I m,.I o,.I p,.I q,.I r,.S s,.L t,.I u,.S w,.I a,.I b,.L e,.L f,.L g,.L i,.L j] _ h _ _ _ _ _ _ rfl rfl rfl rfl _ rfl
def Qw (n:Nat) (J:BA) (K:LD) (L:Int) (M:BA) (N:Int) (O:Int) (P:LD) (Q:LD) (R:LD) (b:LD) (c:LD):Option (LD×Int×BA×Int×Int×LD×LD×LD×LD×LD):=
 BW (uS n J K L M N O P Q R b c) fun a d e f g h i j k l m=>BW (B7 n 1 a 0 0 0 ByteArray.empty d e f g h j k l m i) fun S o p q r s t u v w x=>BW (B7 n 7 a 0 0 0 ByteArray.empty o p q r s u v w x t) fun T y z A B C E F G H I=>some (y,z,A,B,C,E,F,G,H,I)
noncomputable def AFe:AH:=⟨155,Tryz.f155,true,[.p (.ext 0) 0,.s],[.c [.q 16,.ow (.ext 1),.z,.ow (.ext 2),.ow (.ext 3),.str,.z,.z,.ow (.ext 4),.ow (.ext 5)],.l true 4,.l true 16,.t .flat true 2,.l true 9,.t (.fmap false) true 2],[⟨.tup [],[.c [.q 16,.ow (.loc 0),.z,.ow (.loc 1),.ow (.loc 2),.str,.z,.z,.ow (.loc 3),.ow (.ext 5)],.gone,.gone,.gone,.gone,.t (.fmap false) true 2],[.l true 4,.l true 16,.t .flat true 2,.l true 9]⟩],LD×Int×BA×Int×Int×LD×LD×LD×LD×LD,ii,Qw,.n 0 (.w (.w .e)),[],none,[]⟩
noncomputable def AFf:Kz:=sg AFe [GF,k65] Tryz.func155
def Zs (n:Nat) (a:LD):Option LD:=
 (Wu a (some ([]:LD)) (Bs (Iq a=true) (DH 16 ([]:LD) a fun b=>some b)))
noncomputable def AFg:AH:=⟨220,Tryz.f220,true,[.f 1],[],[⟨.one (.w (.loc 0)),[],[.l false 1]⟩],LD,ii,Zs,.b (.g [.treeS 2 false 1] [] .e) .e,[],none,[]⟩
noncomputable def AFh:Kz:=sg AFg [] Tryz.func220
def NH (n:Nat) (i:Int) (r:BA) (j:LD) (k:LD) (l:Int) (m:BA) (o:Int) (p:Int) (q:LD) (b:LD) (c:LD) (d:LD) (a:LD):Option (Int×Int×LD×Int×BA×Int×Int×LD×LD×LD×LD×LD×LD):=
 (findF false (.str r) a (fun e=>CH e fun f=>Av (Zs n j) fun g=>some (i,f,k,l,m,o,p,q,b,c,d,a,g)) (Av (Zs n j) fun h=>some (i,0,k,l,m,o,p,q,b,c,d,a,h)))
noncomputable def AFi:AH:=⟨156,Tryz.f156,true,[.p (.ext 0) 0,.y,.agg [.str,.f 1]],[.c [.q 16,.ow (.ext 1),.z,.ow (.ext 2),.ow (.ext 3),.str,.z,.z,.ow (.ext 4),.ow (.ext 5)],.l true 4,.l true 16,.t .flat true 2,.l true 9,.t (.fmap false) true 2],[⟨.one (.mix [.y,.z,.k 0,.k 0,.ow (.loc 0),.ow (.loc 1),.k 0,.cs ByteArray.empty,.ow (.loc 2)]),[.c [.q 16,.ow (.ext 1),.z,.ow (.ext 2),.ow (.ext 3),.str,.z,.z,.ow (.ext 4),.ow (.ext 5)],.l true 4,.l true 16,.t .flat true 2,.l true 9,.t (.fmap false) true 2],[.te .row false 1,.l false 1,.te .row false 1]⟩],Int×Int×LD×Int×BA×Int×Int×LD×LD×LD×LD×LD×LD,ii,NH,.n 0 (.g [.treeC (.loc 32) 4 false 1,.treeC (.loc 32) 8 false 1] [] .e),[],none,[]⟩
noncomputable def uA:Kz:=sg AFi [AFh] Tryz.func156
def TN (n:Nat) (o:Int) (p:LD) (q:Int) (r:BA) (s:Int) (t:Int) (u:LD) (v:LD) (w:LD) (a:LD) (b:LD):Option (Int×LD×Int×BA×Int×Int×LD×LD×LD×LD×LD):=
 BW (B7 n o 0 0 0 0 ByteArray.empty p q r s t u v w a b) fun c d e f g h i j k l m=>some (c,d,e,f,g,h,i,j,k,l,m)
noncomputable def AFj:AH:=⟨221,Tryz.f221,true,[.p (.ext 0) 0,.y],[.c [.q 16,.ow (.ext 1),.z,.ow (.ext 2),.ow (.ext 3),.str,.z,.z,.ow (.ext 4),.ow (.ext 5)],.l true 4,.l true 16,.t .flat true 2,.l true 9,.t (.fmap false) true 2],[⟨.one (.fz 247 [.p (.ext 0),.d (.z)]),[.c [.q 16,.ow (.loc 0),.z,.ow (.loc 1),.ow (.loc 2),.str,.z,.z,.ow (.loc 3),.ow (.ext 5)],.gone,.gone,.gone,.gone,.t (.fmap false) true 2],[.l true 4,.l true 16,.t .flat true 2,.l true 9]⟩],Int×LD×Int×BA×Int×Int×LD×LD×LD×LD×LD,ii,TN,.w (.g [.cloz 4] [] .e),[],none,[]⟩
noncomputable def AFk:Kz:=sg AFj [GF] Tryz.func221
def J2:Nat->Int->BA->LD->Int->BA->Int->Int->LD->LD->LD->LD->LD->Int->Int->LD->Option (LD×LD×Int×BA×Int×Int×LD×LD×LD×LD×LD)
 | 0,_,_,_,_,_,_,_,_,_,_,_,_,_,_,_=>none
 | n+1,m,o,p,g,h,i,j,k,l,a,b,c,f,d,e=>
  (if d<f then An p d fun q=>Bo q fun r s t w x y z A B C E F G H I J=>(if r=m then (if s=o then some (t,e,g,h,i,j,k,l,a,b,c)else AW (IntKind.wrap .i64 (d+1)) fun u=>J2 n m o p g h i j k l a b c f u e)else AW (IntKind.wrap .i64 (d+1)) fun v=>J2 n m o p g h i j k l a b c f v e)else some (([]:LD),e,g,h,i,j,k,l,a,b,c))
def Zt (n:Nat) (f:Int) (g:BA) (a:LD) (h:Int) (i:BA) (j:Int) (k:Int) (l:LD) (m:LD) (b:LD) (c:LD) (d:LD):Option (LD×LD×Int×BA×Int×Int×LD×LD×LD×LD×LD):=
 AP a fun e=>J2 n f g a h i j k l m b c d e 0 a
noncomputable def AFl:AH:=⟨225,Tryz.f225,false,[.p (.ext 0) 0,.y,.s],[.c [.q 16,.ow (.ext 1),.z,.ow (.ext 2),.ow (.ext 3),.str,.z,.z,.ow (.ext 4),.ow (.ext 5)],.l true 4,.l true 16,.t .flat true 2,.l true 9,.t (.fmap false) true 2],[⟨.one (.q 4),[.c [.q 16,.ow (.ext 1),.z,.ow (.ext 2),.ow (.ext 3),.str,.z,.z,.ow (.ext 4),.ow (.ext 5)],.l true 4,.l true 16,.t .flat true 2,.l true 9,.t (.fmap false) true 2],[]⟩],LD×LD×Int×BA×Int×Int×LD×LD×LD×LD×LD,ii,Zt,.e,[⟨26,[1,2,6,13,14,15],[.ext 0,.ext 1,.ext 2,.ext 3,.ext 4,.ext 5],256,[.y,.s,.one (.nils true 4),.q 16,.z,.z],[.c [.q 16,.ow (.ext 1),.z,.ow (.ext 2),.ow (.ext 3),.str,.z,.z,.ow (.ext 4),.ow (.ext 5)],.l true 4,.l true 16,.t .flat true 2,.l true 9,.t (.fmap false) true 2],fun n i j k a b d m o r u v w f g h=>J2 n i j k m o r u v w f g h a b d,.e⟩],none,[]⟩
noncomputable def yU:Kz:=sg AFl [] Tryz.func225
def VL (n:Nat) (b:Int) (p:LD) (q:Int) (r:BA) (s:Int) (t:Int) (u:LD) (v:LD) (w:LD) (a:LD) (c:LD):Option (LD×Int×BA×Int×Int×LD×LD×LD×LD×LD):=
 AP a fun d=>Bs (0<=b/\b.toNat<a.length) (EJ a (b.toNat) fun e=>Ef e fun f x g h i j k l m=>SE a (b.toNat) (.agg [.int .u8 f,.int .i64 d,.int .i64 g,.int .i64 h,.list false 1 i,.list false 1 j,.int .i64 k,.str l,.list false 1 m]) fun o=>some (p,q,r,s,t,c,u,v,w,o))
noncomputable def AFm:AH:=⟨247,Tryz.f247,true,[.one (.fb (.ext 0)),.rp [.z]],[.c [.q 16,.ow (.ext 1),.z,.ow (.ext 2),.ow (.ext 3),.str,.z,.z,.ow (.ext 4),.ow (.ext 5)],.l true 4,.l true 16,.t .flat true 2,.l true 9,.t (.fmap false) true 2],[⟨.tup [],[.c [.q 16,.ow (.loc 0),.z,.ow (.loc 1),.ow (.loc 2),.str,.z,.z,.ow (.loc 3),.ow (.ext 5)],.gone,.gone,.gone,.gone,.t (.fmap false) true 2],[.l true 4,.l true 16,.t .flat true 2,.l true 9]⟩],LD×Int×BA×Int×Int×LD×LD×LD×LD×LD,ii,VL,.g [.move (.ext 1),.move (.ext 2),.move (.ext 3),.close (.ext 4),.move (.ext 4)] [] .e,[],none,[]⟩
noncomputable def AFn:Kz:=sg AFm [] Tryz.func247
def NI:Nat->Int->LD->Int->BA->Int->Int->LD->LD->LD->LD->LD->Int->Option (LD×Int×BA×Int×Int×LD×LD×LD×LD×LD)
 | 0,_,_,_,_,_,_,_,_,_,_,_,_=>none
 | n+1,w,x,a,b,c,d,e,f,g,h,i,j=>
  AW (IntKind.wrap .i64 j) fun k=>BW (B7 n 3 k 0 0 w ByteArray.empty x a b c d e f g h i) fun y l m o p q r s t u v=>some (l,m,o,p,q,r,s,t,u,v)
def mG (n:Nat) (r:Int) (p:Int) (s:BA) (t:BA) (u:BA) (v:LD) (w:LD) (x:Int) (q:LD) (a:Int) (b:BA) (c:Int) (d:Int) (e:LD) (f:LD) (g:LD) (h:LD) (i:LD):Option (LD×Int×BA×Int×Int×LD×LD×LD×LD×LD):=
 CO (.int .u8 1) [.int .u8 1] [] fun j=>CO (.int .u8 2) [.int .u8 2] j fun k=>CO (.int .u8 3) [.int .u8 3] k fun l=>(findF false (.int .u8 r) l (fun m=>KO m fun o=>NI n p q a b c d e f g h i o) (NI n p q a b c d e f g h i 0))
noncomputable def AFo:AH:=⟨158,Tryz.f158,true,[.p (.ext 0) 0,.agg [.y,.z,.str,.str,.str,.f 1,.q 8,.z]],[.c [.q 16,.ow (.ext 1),.z,.ow (.ext 2),.ow (.ext 3),.str,.z,.z,.ow (.ext 4),.ow (.ext 5)],.l true 4,.l true 16,.t .flat true 2,.l true 9,.t (.fmap false) true 2],[⟨.tup [],[.c [.q 16,.ow (.loc 0),.z,.ow (.loc 1),.ow (.loc 2),.str,.z,.z,.ow (.loc 3),.ow (.ext 5)],.gone,.gone,.gone,.gone,.t (.fmap false) true 2],[.l true 4,.l true 16,.t .flat true 2,.l true 9]⟩],LD×Int×BA×Int×Int×LD×LD×LD×LD×LD,ii,mG,.e,[⟨7,[0,3,4],[.ext 0,.ext 1,.ext 2,.ext 3,.ext 4,.ext 5,.loc 0],320,[.p (.ext 0) 0,.p (.loc 0) 0,.y],[.c [.q 16,.ow (.ext 1),.z,.ow (.ext 2),.ow (.ext 3),.str,.z,.z,.ow (.ext 4),.ow (.ext 5)],.l true 4,.l true 16,.t .flat true 2,.l true 9,.t (.fmap false) true 2,.c [.y,.z,.str,.str,.str,.f 1,.q 8,.z]],fun n a r b d g h i j k m o _ s _ _ _ _ _ _=>NI n s r b d g h i j k m o a,.w .e⟩],none,[]⟩
noncomputable def AFp:Kz:=sg AFo [GF] Tryz.func158
def Zu (n:Nat) (o:Int) (p:Int) (q:Int) (r:Int) (s:Int) (t:BA) (u:LD) (v:Int) (w:BA) (b:Int) (c:Int) (d:LD) (e:LD) (f:LD) (g:LD) (h:LD) (i:LD) (j:LD) (k:LD):Option (Int×LD×Int×BA×Int×Int×LD×LD×LD×LD×LD):=
 DH 128 g ([.agg [.int .u8 o,.int .i64 p,.int .i64 q,.int .i64 r,.list false 1 i,.list false 1 j,.int .i64 s,.str t,.list false 1 k]]) fun a=>AP a fun l=>AW (IntKind.wrap .i64 (l - 1)) fun m=>some (m,u,v,w,b,c,h,d,e,f,a)
noncomputable def X69:AH:=⟨69,Tryz.f69,true,[.p (.ext 0) 0,.mix [.y,.z,.z,.z,.ow (.ext 6),.ow (.ext 7),.z,.str,.ow (.ext 8)]],[.c [.q 16,.ow (.ext 1),.z,.ow (.ext 2),.ow (.ext 3),.str,.z,.z,.ow (.ext 4),.ow (.ext 5)],.l true 4,.l true 16,.t .flat true 2,.l true 9,.t (.fmap false) true 2,.l false 1,.l false 1,.l false 1],[⟨.one (.z),[.c [.q 16,.ow (.loc 0),.z,.ow (.loc 1),.ow (.loc 2),.str,.z,.z,.ow (.loc 3),.ow (.ext 5)],.gone,.gone,.gone,.gone,.t (.fmap false) true 2,.gone,.gone,.gone],[.l true 4,.l true 16,.t .flat true 2,.l true 9]⟩],Int×LD×Int×BA×Int×Int×LD×LD×LD×LD×LD,ii,Zu,.g [.move (.ext 1),.move (.ext 2),.move (.ext 3)] [] .e,[],none,[]⟩
noncomputable def k69:Kz:=sg X69 [] Tryz.func69
def NJ:Nat->BA->LD->LD->Int->BA->Int->Int->LD->LD->LD->LD->LD->Int->Option (LD×Int×BA×Int×Int×LD×LD×LD×LD×LD)
 | 0,_,_,_,_,_,_,_,_,_,_,_,_,_=>none
 | n+1,J,K,L,a,b,c,d,e,f,g,h,i,j=>
  MA (NH n j J K L a b c d e f g h i) fun k l m o p q r s t u v w x=>BW (Zu n k l 0 0 0 ByteArray.empty m o p q r s t u v w ([]:LD) x ([]:LD)) fun M y z A B C E F G H I=>some (y,z,A,B,C,E,F,G,H,I)
def mH (n:Nat) (s:Int) (t:Int) (u:BA) (v:BA) (p:BA) (q:LD) (w:LD) (x:Int) (r:LD) (a:Int) (b:BA) (c:Int) (d:Int) (e:LD) (f:LD) (g:LD) (h:LD) (i:LD):Option (LD×Int×BA×Int×Int×LD×LD×LD×LD×LD):=
 CO (.int .u8 4) [.int .u8 4] [] fun j=>CO (.int .u8 5) [.int .u8 5] j fun k=>CO (.int .u8 6) [.int .u8 6] k fun l=>(findF false (.int .u8 s) l (fun m=>KO m fun o=>NJ n p q r a b c d e f g h i o) (NJ n p q r a b c d e f g h i 0))
noncomputable def AFr:AH:=⟨159,Tryz.f159,true,[.p (.ext 0) 0,.agg [.y,.z,.str,.str,.str,.f 1,.q 8,.z]],[.c [.q 16,.ow (.ext 1),.z,.ow (.ext 2),.ow (.ext 3),.str,.z,.z,.ow (.ext 4),.ow (.ext 5)],.l true 4,.l true 16,.t .flat true 2,.l true 9,.t (.fmap false) true 2],[⟨.tup [],[.c [.q 16,.ow (.loc 0),.z,.ow (.loc 1),.ow (.loc 2),.str,.z,.z,.ow (.loc 3),.ow (.ext 5)],.gone,.gone,.gone,.gone,.t (.fmap false) true 2],[.l true 4,.l true 16,.t .flat true 2,.l true 9]⟩],LD×Int×BA×Int×Int×LD×LD×LD×LD×LD,ii,mH,.e,[⟨7,[0,3,4],[.ext 0,.ext 1,.ext 2,.ext 3,.ext 4,.ext 5,.loc 0],320,[.p (.ext 0) 0,.p (.loc 0) 0,.y],[.c [.q 16,.ow (.ext 1),.z,.ow (.ext 2),.ow (.ext 3),.str,.z,.z,.ow (.ext 4),.ow (.ext 5)],.l true 4,.l true 16,.t .flat true 2,.l true 9,.t (.fmap false) true 2,.c [.y,.z,.str,.str,.str,.f 1,.q 8,.z]],fun n a r b d g h i j k m o _ _ _ _ s u _ _=>NJ n s u r b d g h i j k m o a,.n 0 (.w .e)⟩],none,[]⟩
noncomputable def AFs:Kz:=sg AFr [uA,k69] Tryz.func159
def mI (n:Nat) (v:Int) (y:Int) (z:BA) (A:BA) (B:BA) (C:LD) (E:LD) (F:Int) (w:LD) (a:Int) (b:BA) (c:Int) (d:Int) (e:LD) (f:LD) (g:LD) (h:LD) (i:LD):Option (LD×Int×BA×Int×Int×LD×LD×LD×LD×LD):=
 AW (IntKind.wrap .i64 v) fun j=>BW (B7 n 9 j 0 0 0 ByteArray.empty w a b c d e f g h i) fun x k l m o p q r s t u=>some (k,l,m,o,p,q,r,s,t,u)
noncomputable def AFt:AH:=⟨160,Tryz.f160,true,[.p (.ext 0) 0,.agg [.y,.z,.str,.str,.str,.f 1,.q 8,.z]],[.c [.q 16,.ow (.ext 1),.z,.ow (.ext 2),.ow (.ext 3),.str,.z,.z,.ow (.ext 4),.ow (.ext 5)],.l true 4,.l true 16,.t .flat true 2,.l true 9,.t (.fmap false) true 2],[⟨.tup [],[.c [.q 16,.ow (.loc 0),.z,.ow (.loc 1),.ow (.loc 2),.str,.z,.z,.ow (.loc 3),.ow (.ext 5)],.gone,.gone,.gone,.gone,.t (.fmap false) true 2],[.l true 4,.l true 16,.t .flat true 2,.l true 9]⟩],LD×Int×BA×Int×Int×LD×LD×LD×LD×LD,ii,mI,.w .e,[],none,[]⟩
noncomputable def AFu:Kz:=sg AFt [GF] Tryz.func160
def mJ (n:Nat) (v:Int) (y:Int) (z:BA) (A:BA) (B:BA) (C:LD) (E:LD) (F:Int) (w:LD) (a:Int) (b:BA) (c:Int) (d:Int) (e:LD) (f:LD) (g:LD) (h:LD) (i:LD):Option (LD×Int×BA×Int×Int×LD×LD×LD×LD×LD):=
 AW (IntKind.wrap .i64 v) fun j=>BW (B7 n 10 j 0 0 0 ByteArray.empty w a b c d e f g h i) fun x k l m o p q r s t u=>some (k,l,m,o,p,q,r,s,t,u)
noncomputable def AFv:AH:=⟨161,Tryz.f161,true,[.p (.ext 0) 0,.agg [.y,.z,.str,.str,.str,.f 1,.q 8,.z]],[.c [.q 16,.ow (.ext 1),.z,.ow (.ext 2),.ow (.ext 3),.str,.z,.z,.ow (.ext 4),.ow (.ext 5)],.l true 4,.l true 16,.t .flat true 2,.l true 9,.t (.fmap false) true 2],[⟨.tup [],[.c [.q 16,.ow (.loc 0),.z,.ow (.loc 1),.ow (.loc 2),.str,.z,.z,.ow (.loc 3),.ow (.ext 5)],.gone,.gone,.gone,.gone,.t (.fmap false) true 2],[.l true 4,.l true 16,.t .flat true 2,.l true 9]⟩],LD×Int×BA×Int×Int×LD×LD×LD×LD×LD,ii,mJ,.w .e,[],none,[]⟩
noncomputable def AFw:Kz:=sg AFv [GF] Tryz.func161
def NK:Nat->LD->Int->BA->Int->Int->LD->LD->LD->LD->LD->Int->LD->Option (LD×Int×BA×Int×Int×LD×LD×LD×LD×LD)
 | 0,_,_,_,_,_,_,_,_,_,_,_,_=>none
 | n+1,x,a,b,c,d,e,f,g,h,i,j,k=>
  AP x fun l=>BW (B7 n 17 j l 0 0 ByteArray.empty k a b c d e f g h i) fun y m o p q r s t u v w=>some (m,o,p,q,r,s,t,u,v,w)
mutual
def J3:Nat->BA->LD->LD->Int->BA->Int->Int->LD->LD->LD->LD->LD->Int->Int->Int->LD->Option (LD×Int×BA×Int×Int×LD×LD×LD×LD×LD)
 | 0,_,_,_,_,_,_,_,_,_,_,_,_,_,_,_,_=>none
 | n+1,q,p,r,a,b,c,d,e,f,g,h,i,m,j,k,l=>
  (if k<m then An r k fun s=>Bo s fun o t x y z A B C E F G H I J K L=>(if o=3 then (if t=q then NK n p a b c d e f g h i j l else NL n q p r a b c d e f g h i m j k l o)else NL n q p r a b c d e f g h i m j k l o)else NK n p a b c d e f g h i j l)
def NL:Nat->BA->LD->LD->Int->BA->Int->Int->LD->LD->LD->LD->LD->Int->Int->Int->LD->Int->Option (LD×Int×BA×Int×Int×LD×LD×LD×LD×LD)
 | 0,_,_,_,_,_,_,_,_,_,_,_,_,_,_,_,_,_=>none
 | n+1,q,p,r,a,b,c,d,e,f,g,h,i,m,j,k,l,o=>
  (if o=3 then AW (IntKind.wrap .i64 (j+1)) fun u=>AW (IntKind.wrap .i64 (k+1)) fun v=>J3 n q p r a b c d e f g h i m u v l else AW (IntKind.wrap .i64 (k+1)) fun w=>J3 n q p r a b c d e f g h i m j w l)
end
def mK (n:Nat) (o:Int) (p:Int) (l:BA) (q:BA) (r:BA) (s:LD) (m:LD) (t:Int) (a:LD) (b:Int) (c:BA) (d:Int) (e:Int) (f:LD) (g:LD) (h:LD) (i:LD) (j:LD):Option (LD×Int×BA×Int×Int×LD×LD×LD×LD×LD):=
 AP a fun k=>J3 n l m a b c d e f g h i j k 0 0 a
noncomputable def AFx:AH:=⟨162,Tryz.f162,true,[.p (.ext 0) 0,.agg [.y,.z,.str,.str,.str,.f 1,.q 8,.z]],[.c [.q 16,.ow (.ext 1),.z,.ow (.ext 2),.ow (.ext 3),.str,.z,.z,.ow (.ext 4),.ow (.ext 5)],.l true 4,.l true 16,.t .flat true 2,.l true 9,.t (.fmap false) true 2],[⟨.tup [],[.c [.q 16,.ow (.loc 0),.z,.ow (.loc 1),.ow (.loc 2),.str,.z,.z,.ow (.loc 3),.ow (.ext 5)],.gone,.gone,.gone,.gone,.t (.fmap false) true 2],[.l true 4,.l true 16,.t .flat true 2,.l true 9]⟩],LD×Int×BA×Int×Int×LD×LD×LD×LD×LD,ii,mK,.e,[⟨58,[0,3,4,11,12,13],[.ext 0,.ext 1,.ext 2,.ext 3,.ext 4,.ext 5,.loc 0],288,[.p (.ext 0) 0,.p (.loc 0) 0,.z,.q 16,.z,.z],[.c [.q 16,.ow (.ext 1),.z,.ow (.ext 2),.ow (.ext 3),.str,.z,.z,.ow (.ext 4),.ow (.ext 5)],.l true 4,.l true 16,.t .flat true 2,.l true 9,.t (.fmap false) true 2,.c [.y,.z,.str,.str,.str,.f 1,.q 8,.z]],fun n o x r s u a b d g h i j k m _ _ A _ _ _ v _=>J3 n A v x a b d g h i j k m r o s u,.e⟩,
 ⟨7475,[0,3,4,6,11,12,13],[.ext 0,.ext 1,.ext 2,.ext 3,.ext 4,.ext 5,.loc 0,.loc 384],768,[.p (.ext 0) 0,.p (.loc 0) 0,.z,.p (.loc 384) 0,.q 16,.z,.z],[.c [.q 16,.ow (.ext 1),.z,.ow (.ext 2),.ow (.ext 3),.str,.z,.z,.ow (.ext 4),.ow (.ext 5)],.l true 4,.l true 16,.t .flat true 2,.l true 9,.t (.fmap false) true 2,.c [.y,.z,.str,.str,.str,.f 1,.q 8,.z],.c [.y,.str,.q 4,.y,.str,.q 3,.q 15,.y,.z,.str,.str,.str,.f 1,.q 8,.z,.z]],fun n o x r s u a b d g h i j k m _ _ A _ _ _ v _ B _ _ _ _ _ _ _ _ _ _ _ _ _ _ _=>NL n A v x a b d g h i j k m r o s u B,.e⟩,
 ⟨15,[0,3,4],[.ext 0,.ext 1,.ext 2,.ext 3,.ext 4,.ext 5,.loc 0],768,[.p (.ext 0) 0,.p (.loc 0) 0,.z],[.c [.q 16,.ow (.ext 1),.z,.ow (.ext 2),.ow (.ext 3),.str,.z,.z,.ow (.ext 4),.ow (.ext 5)],.l true 4,.l true 16,.t .flat true 2,.l true 9,.t (.fmap false) true 2,.c [.y,.z,.str,.str,.str,.f 1,.q 8,.z]],fun n C E a b d g h i j k m _ _ _ _ _ _ v _=>NK n v a b d g h i j k m C E,.w .e⟩],none,[]⟩
noncomputable def AFy:Kz:=sg AFx [GF] Tryz.func162
def uB (n:Nat) (i:BA) (j:Int) (k:BA) (l:LD) (e:Int) (f:Int) (g:BA) (d:BA) (h:BA) (a:LD) (b:LD) (c:Int):Option (Bool×Int×Int×BA×BA×BA×LD×LD×Int):=
 (if i=d then some (true,e,f,g,d,h,a,b,c)else some (false,e,f,g,d,h,a,b,c))
noncomputable def AFz:AH:=⟨226,Tryz.f226,false,[.agg [.str,.y,.str,.q 3],.p (.ext 0) 0],[.c [.y,.z,.str,.str,.str,.f 1,.q 8,.z]],[⟨.one (.b),[.c [.y,.z,.str,.str,.str,.f 1,.q 8,.z]],[]⟩],Bool×Int×Int×BA×BA×BA×LD×LD×Int,ii,uB,.e,[],none,[]⟩
noncomputable def AGa:Kz:=sg AFz [] Tryz.func226
def NM:Nat->LD->Int->Int->Int->Int->BA->BA->BA->LD->LD->Int->Option (Int×Int×Int×BA×BA×BA×LD×LD×Int)
 | 0,_,_,_,_,_,_,_,_,_,_,_=>none
 | n+1,A,b,a,c,d,e,f,g,h,i,j=>
  (if a<b then An A a fun t=>Co t fun u v w x=>kB (uB n u v w x c d e f g h i j) fun y k l m o p q r s=>(if y=true then some (a,k,l,m,o,p,q,r,s)else AW (IntKind.wrap .i64 (a+1)) fun z=>NM n A b z k l m o p q r s)else some ((-1),c,d,e,f,g,h,i,j))
def mL (n:Nat) (b:LD) (c:Int) (d:Int) (e:BA) (f:BA) (g:BA) (h:LD) (i:LD) (j:Int):Option (Int×Int×Int×BA×BA×BA×LD×LD×Int):=
 AP b fun a=>NM n b a 0 c d e f g h i j
noncomputable def AGb:AH:=⟨224,Tryz.f224,false,[.q 4,.one (.fn 226 [.ext 0])],[.c [.y,.z,.str,.str,.str,.f 1,.q 8,.z]],[⟨.one (.z),[.c [.y,.z,.str,.str,.str,.f 1,.q 8,.z]],[]⟩],Int×Int×Int×BA×BA×BA×LD×LD×Int,ii,mL,.e,[⟨26,[0,1,4,7,8],[.ext 0],128,[.q 4,.one (.fn 226 [.ext 0]),.k 0,.z,.z],[.c [.y,.z,.str,.str,.str,.f 1,.q 8,.z]],NM,.e⟩],none,[]⟩
noncomputable def AGc:Kz:=sg AGb [AGa] Tryz.func224
def mM (n:Nat) (W:Int) (Z:Int) (j:BA) (s4:BA) (s5:BA) (l6:LD) (X:LD) (z8:Int) (Y:LD) (a:Int) (b:BA) (c:Int) (d:Int) (e:LD) (f:LD) (g:LD) (h:LD) (i:LD):Option (LD×Int×BA×Int×Int×LD×LD×LD×LD×LD):=
 (if W=19 then AP X fun k=>BW (B7 n 11 0 k 0 0 j Y a b c d e f g h i) fun ae l m o p q r s t u v=>some (l,m,o,p,q,r,s,t,u,v)else BW (Zt n 2 j Y a b c d e f g h i) fun w x y z A B C E F G H=>kB (mL n w W Z j s4 s5 l6 X z8) fun I af ag J ah ai aj K ak=>AP K fun L=>BW (B7 n 12 I L 0 0 J x y z A B C E F G H) fun al M N O P Q R S T U V=>some (M,N,O,P,Q,R,S,T,U,V))
noncomputable def AGd:AH:=⟨163,Tryz.f163,true,[.p (.ext 0) 0,.agg [.y,.z,.str,.str,.str,.f 1,.q 8,.z]],[.c [.q 16,.ow (.ext 1),.z,.ow (.ext 2),.ow (.ext 3),.str,.z,.z,.ow (.ext 4),.ow (.ext 5)],.l true 4,.l true 16,.t .flat true 2,.l true 9,.t (.fmap false) true 2],[⟨.tup [],[.c [.q 16,.ow (.loc 0),.z,.ow (.loc 1),.ow (.loc 2),.str,.z,.z,.ow (.loc 3),.ow (.ext 5)],.gone,.gone,.gone,.gone,.t (.fmap false) true 2],[.l true 4,.l true 16,.t .flat true 2,.l true 9]⟩],LD×Int×BA×Int×Int×LD×LD×LD×LD×LD,ii,mM,.b (.w .e) (.n 1 (.w .e)),[],none,[]⟩
noncomputable def AGe:Kz:=sg AGd [GF,AGc,yU] Tryz.func163
def NN:Nat->LD->Int->BA->Int->Int->LD->LD->LD->LD->LD->Int->Option (LD×Int×BA×Int×Int×LD×LD×LD×LD×LD)
 | 0,_,_,_,_,_,_,_,_,_,_,_=>none
 | n+1,w,a,b,c,d,e,f,g,h,i,j=>
  AW (IntKind.wrap .i64 j) fun k=>BW (B7 n 19 k 0 0 0 ByteArray.empty w a b c d e f g h i) fun x l m o p q r s t u v=>some (l,m,o,p,q,r,s,t,u,v)
def mN (n:Nat) (t:Int) (u:Int) (v:BA) (w:BA) (x:BA) (y:LD) (z:LD) (A:Int) (s:LD) (a:Int) (b:BA) (c:Int) (d:Int) (e:LD) (f:LD) (g:LD) (h:LD) (i:LD):Option (LD×Int×BA×Int×Int×LD×LD×LD×LD×LD):=
 CO (.int .u8 21) [.int .u8 6] [] fun j=>CO (.int .u8 23) [.int .u8 7] j fun k=>CO (.int .u8 26) [.int .u8 8] k fun l=>CO (.int .u8 27) [.int .u8 9] l fun m=>CO (.int .u8 29) [.int .u8 10] m fun o=>CO (.int .u8 31) [.int .u8 11] o fun p=>(findF false (.int .u8 t) p (fun q=>KO q fun r=>NN n s a b c d e f g h i r) (NN n s a b c d e f g h i 0))
noncomputable def AGf:AH:=⟨164,Tryz.f164,true,[.p (.ext 0) 0,.agg [.y,.z,.str,.str,.str,.f 1,.q 8,.z]],[.c [.q 16,.ow (.ext 1),.z,.ow (.ext 2),.ow (.ext 3),.str,.z,.z,.ow (.ext 4),.ow (.ext 5)],.l true 4,.l true 16,.t .flat true 2,.l true 9,.t (.fmap false) true 2],[⟨.tup [],[.c [.q 16,.ow (.loc 0),.z,.ow (.loc 1),.ow (.loc 2),.str,.z,.z,.ow (.loc 3),.ow (.ext 5)],.gone,.gone,.gone,.gone,.t (.fmap false) true 2],[.l true 4,.l true 16,.t .flat true 2,.l true 9]⟩],LD×Int×BA×Int×Int×LD×LD×LD×LD×LD,ii,mN,.e,[⟨7,[0,4],[.ext 0,.ext 1,.ext 2,.ext 3,.ext 4,.ext 5],416,[.p (.ext 0) 0,.y],[.c [.q 16,.ow (.ext 1),.z,.ow (.ext 2),.ow (.ext 3),.str,.z,.z,.ow (.ext 4),.ow (.ext 5)],.l true 4,.l true 16,.t .flat true 2,.l true 9,.t (.fmap false) true 2],fun n a r b d g h i j k m o=>NN n r b d g h i j k m o a,.w .e⟩],none,[]⟩
noncomputable def AGg:Kz:=sg AGf [GF] Tryz.func164
def NP:Nat->LD->Int->BA->Int->Int->LD->LD->LD->LD->LD->Int->Option (LD×Int×BA×Int×Int×LD×LD×LD×LD×LD)
 | 0,_,_,_,_,_,_,_,_,_,_,_=>none
 | n+1,w,a,b,c,d,e,f,g,h,i,j=>
  AW (IntKind.wrap .i64 j) fun k=>BW (B7 n 20 k 0 0 0 ByteArray.empty w a b c d e f g h i) fun x l m o p q r s t u v=>some (l,m,o,p,q,r,s,t,u,v)
def mO (n:Nat) (k:Int) (l:Int) (m:BA) (o:BA) (p:BA) (q:LD) (r:LD) (s:Int) (j:LD) (a:Int) (b:BA) (c:Int) (d:Int) (e:LD) (f:LD) (g:LD) (h:LD) (i:LD):Option (LD×Int×BA×Int×Int×LD×LD×LD×LD×LD):=
 (if k=30 then NP n j a b c d e f g h i 10 else NP n j a b c d e f g h i 6)
noncomputable def AGh:AH:=⟨165,Tryz.f165,true,[.p (.ext 0) 0,.agg [.y,.z,.str,.str,.str,.f 1,.q 8,.z]],[.c [.q 16,.ow (.ext 1),.z,.ow (.ext 2),.ow (.ext 3),.str,.z,.z,.ow (.ext 4),.ow (.ext 5)],.l true 4,.l true 16,.t .flat true 2,.l true 9,.t (.fmap false) true 2],[⟨.tup [],[.c [.q 16,.ow (.loc 0),.z,.ow (.loc 1),.ow (.loc 2),.str,.z,.z,.ow (.loc 3),.ow (.ext 5)],.gone,.gone,.gone,.gone,.t (.fmap false) true 2],[.l true 4,.l true 16,.t .flat true 2,.l true 9]⟩],LD×Int×BA×Int×Int×LD×LD×LD×LD×LD,ii,mO,.e,[⟨15,[0,4],[.ext 0,.ext 1,.ext 2,.ext 3,.ext 4,.ext 5],192,[.p (.ext 0) 0,.y],[.c [.q 16,.ow (.ext 1),.z,.ow (.ext 2),.ow (.ext 3),.str,.z,.z,.ow (.ext 4),.ow (.ext 5)],.l true 4,.l true 16,.t .flat true 2,.l true 9,.t (.fmap false) true 2],fun n a r b d g h i j k m o=>NP n r b d g h i j k m o a,.w .e⟩],none,[]⟩
noncomputable def AGi:Kz:=sg AGh [GF] Tryz.func165
def NQ:Nat->BA->LD->LD->Int->BA->Int->Int->LD->LD->LD->LD->LD->Int->Bool->Option (LD×Int×BA×Int×Int×LD×LD×LD×LD×LD)
 | 0,_,_,_,_,_,_,_,_,_,_,_,_,_,_=>none
 | n+1,L,M,K,a,b,c,d,e,f,g,h,i,j,k=>
  (if k=true then MA (NH n j L M K a b c d e f g h i) fun l m o p q r s t u v w x y=>BW (Zu n l m 0 0 0 ByteArray.empty o p q r s t u v w x ([]:LD) y ([]:LD)) fun N z A B C E F G H I J=>some (z,A,B,C,E,F,G,H,I,J)else some (K,a,b,c,d,i,e,f,g,h))
def mP (n:Nat) (x:Int) (y:Int) (z:BA) (A:BA) (u:BA) (v:LD) (B:LD) (C:Int) (w:LD) (a:Int) (b:BA) (c:Int) (d:Int) (e:LD) (f:LD) (g:LD) (h:LD) (i:LD):Option (LD×Int×BA×Int×Int×LD×LD×LD×LD×LD):=
 CO (.int .u8 24) [.int .u8 22] [] fun j=>CO (.int .u8 25) [.int .u8 23] j fun k=>CO (.int .u8 28) [.int .u8 21] k fun l=>CO (.int .u8 32) [.int .u8 24] l fun m=>CO (.int .u8 33) [.int .u8 25] m fun o=>CO (.int .u8 34) [.int .u8 26] o fun p=>CO (.int .u8 35) [.int .u8 28] p fun q=>CO (.int .u8 36) [.int .u8 29] q fun r=>(findF false (.int .u8 x) r (fun s=>KO s fun t=>NQ n u v w a b c d e f g h i t true) (NQ n u v w a b c d e f g h i 0 false))
noncomputable def AGj:AH:=⟨166,Tryz.f166,true,[.p (.ext 0) 0,.agg [.y,.z,.str,.str,.str,.f 1,.q 8,.z]],[.c [.q 16,.ow (.ext 1),.z,.ow (.ext 2),.ow (.ext 3),.str,.z,.z,.ow (.ext 4),.ow (.ext 5)],.l true 4,.l true 16,.t .flat true 2,.l true 9,.t (.fmap false) true 2],[⟨.tup [],[.c [.q 16,.ow (.loc 0),.z,.ow (.loc 1),.ow (.loc 2),.str,.z,.z,.ow (.loc 3),.ow (.ext 5)],.gone,.gone,.gone,.gone,.t (.fmap false) true 2],[.l true 4,.l true 16,.t .flat true 2,.l true 9]⟩],LD×Int×BA×Int×Int×LD×LD×LD×LD×LD,ii,mP,.e,[⟨7,[0,3,4,5],[.ext 0,.ext 1,.ext 2,.ext 3,.ext 4,.ext 5,.loc 0],608,[.p (.ext 0) 0,.p (.loc 0) 0,.y,.b],[.c [.q 16,.ow (.ext 1),.z,.ow (.ext 2),.ow (.ext 3),.str,.z,.z,.ow (.ext 4),.ow (.ext 5)],.l true 4,.l true 16,.t .flat true 2,.l true 9,.t (.fmap false) true 2,.c [.y,.z,.str,.str,.str,.f 1,.q 8,.z]],fun n a d v h i j k m o r s u _ _ _ _ x A _ _=>NQ n x A v h i j k m o r s u a d,.b (.n 0 (.w .e)) (.g [.move (.ext 1),.move (.ext 2),.move (.ext 3),.move (.ext 4)] [] .e)⟩],none,[]⟩
noncomputable def AGk:Kz:=sg AGj [uA,k69] Tryz.func166
mutual
def TO:Nat->Int->Int->BA->BA->BA->LD->LD->Int->Int->Int->LD->Int->BA->Int->Int->LD->LD->LD->LD->LD->LD->Option (LD×Int×BA×Int×Int×LD×LD×LD×LD×LD)
 | 0,_,_,_,_,_,_,_,_,_,_,_,_,_,_,_,_,_,_,_,_,_=>none
 | n+1,a,m,o,p,q,r,v,s,t,u,b,c,d,e,f,g,l,h,i,j,k=>
  (if u<t then An v u fun ao=>CQ ao fun aq ar au av aw ax ay az=>BO (pG n aq ar au av aw ax ay az b c d e f h i j k g) fun aA aB aC aD aE aF aG aH aI aJ=>AW (IntKind.wrap .i64 (u+1)) fun aK=>TO n a m o p q r v s t aK aA aB aC aD aE aF l aG aH aI aJ else vX (rN n) (AW (IntKind.wrap .i64 a) fun aL=>(if aL<37 then Bs (0<=a/\a<37) ((if Ej [0,24,25,28,32,33,34,35,36] a.toNat=true then BO (mP n a m o p q r l s b c d e f h i j k g) fun aM aN aO aP aQ aR aS aT aU aV=>some (aM,aN,aO,aP,aQ,aR,aS,aT,aU,aV)else (if Ej [1,2,3] a.toNat=true then BO (mG n a m o p q r l s b c d e f h i j k g) fun aW aX aY aZ a0 a1 a2 a3 a4 a5=>some (aW,aX,aY,aZ,a0,a1,a2,a3,a4,a5)else (if Ej [4,5,6] a.toNat=true then BO (mH n a m o p q r l s b c d e f h i j k g) fun a6 a7 a8 a9 ba bb bc bd be bf=>some (a6,a7,a8,a9,ba,bb,bc,bd,be,bf)else (if Ej [7,8] a.toNat=true then BO (mI n a m o p q r l s b c d e f h i j k g) fun bg bh bi bj bl bm bn bo bp bq=>some (bg,bh,bi,bj,bl,bm,bn,bo,bp,bq)else (if Ej [9,10,11,12,13,14,15,16,17] a.toNat=true then BO (mJ n a m o p q r l s b c d e f h i j k g) fun br bs bt bu bv bw bx w x y=>some (br,bs,bt,bu,bv,bw,bx,w,x,y)else (if Ej [18] a.toNat=true then BO (mK n a m o p q r l s b c d e f h i j k g) fun z A B C E F G H I J=>some (z,A,B,C,E,F,G,H,I,J)else (if Ej [19,20] a.toNat=true then BO (mM n a m o p q r l s b c d e f h i j k g) fun K L M N O P Q R S T=>some (K,L,M,N,O,P,Q,R,S,T)else (if Ej [21,23,26,27,29,31] a.toNat=true then BO (mN n a m o p q r l s b c d e f h i j k g) fun U V W X Y Z aa ab ac ad=>some (U,V,W,X,Y,Z,aa,ab,ac,ad)else (if Ej [22,30] a.toNat=true then BO (mO n a m o p q r l s b c d e f h i j k g) fun ae af ag ah ai aj ak al am an=>some (ae,af,ag,ah,ai,aj,ak,al,am,an)else none))))))))))else some (b,c,d,e,f,g,h,i,j,k))))
def pG:Nat->Int->Int->BA->BA->BA->LD->LD->Int->LD->Int->BA->Int->Int->LD->LD->LD->LD->LD->Option (LD×Int×BA×Int×Int×LD×LD×LD×LD×LD)
 | 0,_,_,_,_,_,_,_,_,_,_,_,_,_,_,_,_,_,_=>none
 | n+1,a,m,o,p,q,r,v,s,l9,bz,bA,bB,bC,bD,bE,bF,bG,bH=>
  AP v fun t=>TO n a m o p q r v s t 0 l9 bz bA bB bC bH v bD bE bF bG
end
noncomputable def X67:AH:=⟨67,Tryz.f67,true,[.p (.ext 0) 0,.agg [.y,.z,.str,.str,.str,.f 1,.q 8,.z]],[.c [.q 16,.ow (.ext 1),.z,.ow (.ext 2),.ow (.ext 3),.str,.z,.z,.ow (.ext 4),.ow (.ext 5)],.l true 4,.l true 16,.t .flat true 2,.l true 9,.t (.fmap false) true 2],[⟨.tup [],[.c [.q 16,.ow (.loc 0),.z,.ow (.loc 1),.ow (.loc 2),.str,.z,.z,.ow (.loc 3),.ow (.ext 5)],.gone,.gone,.gone,.gone,.t (.fmap false) true 2],[.l true 4,.l true 16,.t .flat true 2,.l true 9]⟩],LD×Int×BA×Int×Int×LD×LD×LD×LD×LD,ii,pG,.g [.move (.ext 1),.move (.ext 2),.move (.ext 3),.move (.ext 4)] [] .e,[⟨26,[0,3,8,9,10],[.ext 0,.ext 1,.ext 2,.ext 3,.ext 4,.ext 5,.loc 0,.loc 160,.loc 192,.loc 224,.loc 256],288,[.p (.ext 0) 0,.p (.loc 0) 0,.q 8,.z,.z],[.c [.q 16,.ow (.loc 160),.z,.ow (.loc 192),.ow (.loc 224),.str,.z,.z,.ow (.loc 256),.ow (.ext 5)],.gone,.gone,.gone,.gone,.t (.fmap false) true 2,.c [.y,.z,.str,.str,.str,.f 1,.q 8,.z],.l true 4,.l true 16,.t .flat true 2,.l true 9],fun n A a d h i j k m o B C E F G H r I s u v x=>TO n B C E F G H A I a d h i j k m o r s u v x,.b (.n 0 (.g [] [(512,160),(513,192),(514,224),(515,256)] .e)) (.n 0 (.b (.b (.w .e) .e) .e))⟩],none,[]⟩
theorem K67:Be Tryz.prog inv (EB [X67]):=gr [ABq,AFp,AFs,AFu,AFw,AFy,AGe,AGg,AGi,AGk] ⟨ge Tryz.func67,trivial⟩
noncomputable def k67:Kz:=⟨X67.c,K67.1⟩
def mQ (n:Nat) (a:LD):Option LD:=
 some a
noncomputable def AGl:AH:=⟨111,Tryz.f111,true,[.f 1],[],[⟨.one (.one (.fn 167 [.loc 0])),[],[.c [.f 1]]⟩],LD,ii,mQ,.e,[],none,[]⟩
noncomputable def AGm:Kz:=sg AGl [] Tryz.func111
theorem AGn (n:Nat):∀⦃a b⦄,mQ n a=some b->
  Ct Tryz.prog inv 111 [.d (.list false 1 a)] [] (.v (.c (.fn 167 [.loc 0]))) [] [.cells [.d (.list false 1 b)]]:=fun a b h=>AGm.ok n [.L a] _ h _ _ _ _ _ _ rfl rfl rfl rfl _ rfl
def V8 (n:Nat) (L:Int) (I:BA) (A:LD) (B:Int) (C:BA) (E:Int) (F:Int) (G:LD) (H:LD) (b:LD) (c:LD) (a:LD):Option (LD×Int×BA×Int×Int×LD×LD×LD×LD×LD):=
 (findF false (.str I) a (fun d=>CH d fun e=>BW (B7 n 2 e 0 0 0 ByteArray.empty A B C E F G H b c a) fun J f g h i j k l m o p=>some (f,g,h,i,j,k,l,m,o,p)) (BW (B7 n 2 0 0 0 0 ByteArray.empty A B C E F G H b c a) fun K q r s t u v w x y z=>some (q,r,s,t,u,v,w,x,y,z)))
theorem yV (n:Nat):∀⦃f g i k l m o q r a b e r1 r2 r3 r4 r5 r6 r7 r8 r9 r10⦄,V8 n f g i k l m o q r a b e=some (r1,r2,r3,r4,r5,r6,r7,r8,r9,r10)->
  E2 Tryz.prog inv (Pr ()) [(2,.v (.c (.ptr (.ext 0) 0)))] [.d (.int .i64 f),.d (.str g)] [.cells [.ptr (.ext 1) 0],.cells [.d (.list true 16 i),.ow (.ext 2),.d (.int .i64 k),.ow (.ext 3),.ow (.ext 4),.d (.str l),.d (.int .i64 m),.d (.int .i64 o),.ow (.ext 5),.ow (.ext 6)],.tree .row true 4 q none,.tree .row true 16 r none,.tree .flat true 2 a none,.tree .row true 9 b none,.tree (.fmap false) true 2 e none] fun j p n=>j=none/\p=[.cells [.ptr (.ext 1) 0],.cells [.d (.list true 16 r1),.ow (.loc 0),.d (.int .i64 r2),.ow (.loc 1),.ow (.loc 2),.d (.str r3),.d (.int .i64 r4),.d (.int .i64 r5),.ow (.loc 3),.ow (.ext 6)],.gone,.gone,.gone,.gone,.tree (.fmap false) true 2 r6 none]/\n=[.tree .row true 4 r7 none,.tree .row true 16 r8 none,.tree .flat true 2 r9 none,.tree .row true 9 r10 none]:=by
 intro f g i k l m o q r a b e r1 r2 r3 r4 r5 r6 r7 r8 r9 r10 h
 unfold V8 at h
 refine E2.of' Fq Er oH rfl rfl rfl rfl rfl (by kernel_rfl) (fun M hM hI=>?_)
 try cbv
 replace h:=Oe h
 rcases h with⟨s,hz,h⟩ | ⟨hz,h⟩
 ·replace h:=Hv h
  obtain⟨t,rfl,h⟩:=h
  refine⟨some _,(M.lock_iff _).2 hz,?_⟩
  clear hz
  try cbv
  replace h:=SI h
  obtain⟨u,w,x,y,z,A,B,C,E,F,G,hr,h⟩:=h
  first | refine .inr (.inl ⟨[],?_⟩) | refine .inl ⟨[],?_⟩
  try cbv
  refine⟨false,?_⟩
  try cbv
  refine JY hM hI [.ext 1,.ext 2,.ext 3,.ext 4,.ext 5,.ext 6] (pF _ hr) rfl (by simp) ⟨rfl,⟨rfl,⟨rfl,⟨rfl,⟨rfl,⟨rfl,trivial⟩⟩⟩⟩⟩⟩ ⟨trivial,⟨trivial,⟨trivial,⟨trivial,⟨trivial,⟨trivial,trivial⟩⟩⟩⟩⟩⟩ (by simp) ?_
  clear hr
  try cbv
  refine drawn ?_ ?_
  ·show _=true
   kernel_rfl
  try cbv
  obtain⟨rfl,rfl,rfl,rfl,rfl,rfl,rfl,rfl,rfl,rfl⟩:=Vh h
  refine⟨_,_,⟨rfl,rfl,rfl⟩,[],?_⟩
  try cbv
  exact⟨[.loc 288,.loc 289,.loc 290,.loc 291],rfl,⟨rfl,⟨rfl,⟨rfl,trivial⟩⟩⟩,⟨rfl,⟨rfl,⟨rfl,⟨rfl,trivial⟩⟩⟩⟩,trivial⟩
 ·refine⟨none,(M.lock_iff _).2 hz,?_⟩
  clear hz
  try cbv
  replace h:=SI h
  obtain⟨H,I,J,K,L,N,O,P,Q,R,S,hr,h⟩:=h
  first | refine .inr (.inl ⟨[],?_⟩) | refine .inl ⟨[],?_⟩
  try cbv
  refine⟨false,?_⟩
  try cbv
  refine JY hM hI [.ext 1,.ext 2,.ext 3,.ext 4,.ext 5,.ext 6] (pF _ hr) rfl (by simp) ⟨rfl,⟨rfl,⟨rfl,⟨rfl,⟨rfl,⟨rfl,trivial⟩⟩⟩⟩⟩⟩ ⟨trivial,⟨trivial,⟨trivial,⟨trivial,⟨trivial,⟨trivial,trivial⟩⟩⟩⟩⟩⟩ (by simp) ?_
  clear hr
  try cbv
  refine drawn ?_ ?_
  ·show _=true
   kernel_rfl
  try cbv
  obtain⟨rfl,rfl,rfl,rfl,rfl,rfl,rfl,rfl,rfl,rfl⟩:=Vh h
  refine⟨_,_,⟨rfl,rfl,rfl⟩,[],?_⟩
  try cbv
  exact⟨[.loc 288,.loc 289,.loc 290,.loc 291],rfl,⟨rfl,⟨rfl,⟨rfl,trivial⟩⟩⟩,⟨rfl,⟨rfl,⟨rfl,⟨rfl,trivial⟩⟩⟩⟩,trivial⟩
mutual
def FD:Nat->LD->Int->LD->Int->BA->Int->Int->LD->LD->LD->LD->LD->Option (LD×Int×BA×Int×Int×LD×LD×LD×LD×LD)
 | 0,_,_,_,_,_,_,_,_,_,_,_,_=>none
 | n+1,b,a,c,d,e,f,g,h,i,j,k,l=>
  (if 0<=a then F7 n b a c d e f g h i j k l true else F7 n b a c d e f g h i j k l false)
def F7:Nat->LD->Int->LD->Int->BA->Int->Int->LD->LD->LD->LD->LD->Bool->Option (LD×Int×BA×Int×Int×LD×LD×LD×LD×LD)
 | 0,_,_,_,_,_,_,_,_,_,_,_,_,_=>none
 | n+1,b,a,c,d,e,f,g,h,i,j,k,l,m=>
  (if m=true then An b a fun o=>CG o fun p=>BO (V8 n a p c d e f g i j k l h) fun q r s t u v w x y z=>AW (IntKind.wrap .i64 (a - 1)) fun A=>FD n b A q r s t u v w x y z else some (c,d,e,f,g,h,i,j,k,l))
end
def Zv (n:Nat) (e:LD) (f:Int) (g:BA) (h:Int) (i:Int) (j:LD) (k:LD) (l:LD) (m:LD) (b:LD) (a:LD):Option (LD×Int×BA×Int×Int×LD×LD×LD×LD×LD):=
 AP a fun c=>AW (IntKind.wrap .i64 (c - 1)) fun d=>FD n a d e f g h i b j k l m
theorem AGo (n:Nat):∀⦃B C E F G H I J K u a r1 r2 r3 r4 r5 r6 r7 r8 r9 r10⦄,Zv n B C E F G H I J K u a=some (r1,r2,r3,r4,r5,r6,r7,r8,r9,r10)->
    Ct Tryz.prog inv 167 [.c (.yl (.ext 0)),.c (.ptr (.ext 8) 0)] [.rnd Pr [(2,.v (.c (.ptr (.ext 1) 0)))],.cells [.ptr (.ext 2) 0],.cells [.d (.list true 16 B),.ow (.ext 3),.d (.int .i64 C),.ow (.ext 4),.ow (.ext 5),.d (.str E),.d (.int .i64 F),.d (.int .i64 G),.ow (.ext 6),.ow (.ext 7)],.tree .row true 4 H none,.tree .row true 16 I none,.tree .flat true 2 J none,.tree .row true 9 K none,.tree (.fmap false) true 2 u none,.cells [.d (.list false 1 a)]] (.t []) [.rnd Pr [(2,.v (.c (.ptr (.ext 1) 0)))],.cells [.ptr (.ext 2) 0],.cells [.d (.list true 16 r1),.ow (.loc 0),.d (.int .i64 r2),.ow (.loc 1),.ow (.loc 2),.d (.str r3),.d (.int .i64 r4),.d (.int .i64 r5),.ow (.loc 3),.ow (.ext 7)],.gone,.gone,.gone,.gone,.tree (.fmap false) true 2 r6 none,.cells [.d (.list false 1 a)]] [.tree .row true 4 r7 none,.tree .row true 16 r8 none,.tree .flat true 2 r9 none,.tree .row true 9 r10 none]:=by
 intro B C E F G H I J K u a r1 r2 r3 r4 r5 r6 r7 r8 r9 r10 h
 unfold Zv at h
 refine Ct.of Fq Er oH Tryz.func167 rfl (by kernel_rfl) rfl rfl rfl (fun M hM hI=>?_)
 try cbv
 refine Ja ?_
 try cbv
 replace h:=Ge M h
 obtain⟨L,hz,h⟩:=h
 refine⟨L,hz,?_⟩
 clear hz
 try cbv
 replace h:=L7 h
 obtain⟨y,hz,h⟩:=h
 refine⟨y,hz,?_⟩
 clear hz
 try cbv
 refine W0 (T:=Nat×Int×LD×Int×BA×Int×Int×LD×LD×LD×LD×LD) [.move (.ext 3),.move (.ext 4),.move (.ext 5),.move (.ext 6)] [] [0,1,3] [.ext 0,.ext 1,.ext 2,.ext 3,.ext 4,.ext 5,.ext 6,.ext 7,.ext 8,.loc 128,.loc 160,.loc 192,.loc 224] 256 (fun t=>⟨[(0,.v (.c (.yl (.ext 0)))),sE 1 8,sI 3 t.2.1],[(.ext 0,.rnd Pr [sE 2 1]),(.ext 1,.cells [.ptr (.ext 2) 0]),(.ext 2,.cells [.d (.list true 16 t.2.2.1),.ow (.loc 128),.d (.int .i64 t.2.2.2.1),.ow (.loc 160),.ow (.loc 192),.d (.str t.2.2.2.2.1),.d (.int .i64 t.2.2.2.2.2.1),.d (.int .i64 t.2.2.2.2.2.2.1),.ow (.loc 224),.ow (.ext 7)]),(.ext 3,.gone),(.ext 4,.gone),(.ext 5,.gone),(.ext 6,.gone),(.ext 7,.tree (.fmap false) true 2 t.2.2.2.2.2.2.2.1 none),(.ext 8,.cells [.d (.list false 1 a)]),(.loc 128,.tree .row true 4 t.2.2.2.2.2.2.2.2.1 none),(.loc 160,.tree .row true 16 t.2.2.2.2.2.2.2.2.2.1 none),(.loc 192,.tree .flat true 2 t.2.2.2.2.2.2.2.2.2.2.1 none),(.loc 224,.tree .row true 9 t.2.2.2.2.2.2.2.2.2.2.2 none)],256⟩)
   (fun t=>t.1<=n/\FD t.1 a t.2.1 t.2.2.1 t.2.2.2.1 t.2.2.2.2.1 t.2.2.2.2.2.1 t.2.2.2.2.2.2.1 t.2.2.2.2.2.2.2.1 t.2.2.2.2.2.2.2.2.1 t.2.2.2.2.2.2.2.2.2.1 t.2.2.2.2.2.2.2.2.2.2.1 t.2.2.2.2.2.2.2.2.2.2.2=some (r1,r2,r3,r4,r5,r6,r7,r8,r9,r10)) (fun t=>t.1) (n,(y,B,C,E,F,G,u,H,I,J,K)) ⟨Nat.le_refl _,h⟩ (by cbv) ?_
 clear h
 rintro⟨w,f,g,i,j,k,l,o,p,q,r,s⟩ ⟨hm1,h⟩
 replace hm1:w<=n:=hm1
 obtain _ | w:=w
 ·replace h:FD 0 a f g i j k l o p q r s=some (r1,r2,r3,r4,r5,r6,r7,r8,r9,r10):=h
  rw[FD]at h
  cases h
 replace h:FD (w+1) a f g i j k l o p q r s=some (r1,r2,r3,r4,r5,r6,r7,r8,r9,r10):=h
 rw[FD]at h
 try cbv
 refine Ja ?_
 try cbv
 refine XA 8 [0,1,3,8] [.ext 0,.ext 1,.ext 2,.ext 3,.ext 4,.ext 5,.ext 6,.ext 7,.ext 8,.loc 128,.loc 160,.loc 192,.loc 224] 320 (fun m b=>m<=w/\F7 m a f g i j k l o p q r s b=some (r1,r2,r3,r4,r5,r6,r7,r8,r9,r10)) ?_ ?_
 ·try cbv
  refine jR (fun e=>?_) (fun e=>?_)
  ·replace h:=vV e h
   clear e
   try cbv
   exact Og (w,true) [0,1,3,8] [.ext 0,.ext 1,.ext 2,.ext 3,.ext 4,.ext 5,.ext 6,.ext 7,.ext 8,.loc 128,.loc 160,.loc 192,.loc 224] 320 ⟨by omega,h⟩ (by cbv)
  replace h:=vW (Int.not_le.2 e) h
  clear e
  try cbv
  exact Og (w,false) [0,1,3,8] [.ext 0,.ext 1,.ext 2,.ext 3,.ext 4,.ext 5,.ext 6,.ext 7,.ext 8,.loc 128,.loc 160,.loc 192,.loc 224] 320 ⟨by omega,h⟩ (by cbv)
 clear h
 rintro⟨z,x⟩ ⟨hm2,h⟩
 try cbv
 replace hm2:z<=w:=hm2
 obtain _ | z:=z
 ·replace h:F7 0 a f g i j k l o p q r s x=some (r1,r2,r3,r4,r5,r6,r7,r8,r9,r10):=h
  rw[F7]at h
  cases h
 replace h:F7 (z+1) a f g i j k l o p q r s x=some (r1,r2,r3,r4,r5,r6,r7,r8,r9,r10):=h
 rw[F7]at h
 try cbv
 cases x
 ·replace h:=itF h
  try cbv
  obtain⟨rfl,rfl,rfl,rfl,rfl,rfl,rfl,rfl,rfl,rfl⟩:=Vh h
  refine Yk ?_
  try cbv
  exact⟨[.loc 128,.loc 160,.loc 192,.loc 224],rfl,rfl,⟨rfl,⟨rfl,⟨rfl,⟨rfl,⟨rfl,trivial⟩⟩⟩⟩⟩,⟨rfl,⟨rfl,⟨rfl,⟨rfl,trivial⟩⟩⟩⟩,trivial⟩
 replace h:=itT h
 try cbv
 refine Ja ?_
 try cbv
 refine Ja ?_
 try cbv
 replace h:=L8 h
 obtain⟨N,⟨hx0,hx⟩,h⟩:=h
 refine⟨N,hx0,hx,?_⟩
 clear hx0 hx
 replace h:=MD h
 obtain⟨Z,rfl,h⟩:=h
 try cbv
 replace h:=SH h
 obtain⟨O,P,Q,R,S,U,V,W,X,Y,hr,h⟩:=h
 refine kG hM hI [.ext 1,.ext 2,.loc 128,.loc 160,.loc 192,.loc 224,.ext 7] (sl0:=[(2,.v (.c (.ptr (.ext 0) 0)))]) rfl rfl rfl rfl (yV _ hr) rfl rfl rfl (by simp) ⟨rfl,⟨rfl,⟨rfl,⟨rfl,⟨rfl,⟨rfl,⟨rfl,trivial⟩⟩⟩⟩⟩⟩⟩ ⟨trivial,⟨trivial,⟨trivial,⟨trivial,⟨trivial,⟨trivial,⟨trivial,trivial⟩⟩⟩⟩⟩⟩⟩ (by simp) ?_
 clear hr
 try cbv
 refine⟨false,rfl,?_⟩
 try cbv
 replace h:=L7 h
 obtain⟨A,hz,h⟩:=h
 refine⟨A,hz,?_⟩
 clear hz
 try cbv
 refine UO (z,(A,O,P,Q,R,S,U,V,W,X,Y)) [] [(512,128),(513,160),(514,192),(515,224)] [0,1,3] [.ext 0,.ext 1,.ext 2,.ext 3,.ext 4,.ext 5,.ext 6,.ext 7,.ext 8,.loc 512,.loc 513,.loc 514,.loc 515] 256 ⟨by omega,h⟩ (Nat.lt_succ_of_le (by omega)) ?_
 try cbv
def Xq (n:Nat) (o:LD) (p:LD) (q:Int) (r:BA) (s:Int) (t:Int) (u:LD) (v:LD) (w:LD) (a:LD) (b:LD):Option (LD×Int×BA×Int×Int×LD×LD×LD×LD×LD):=
 Av (mQ n o) fun c=>BO (Zv n p q r s t u v w a b c) fun d e f g h i j k l m=>some (d,e,f,g,h,i,j,k,l,m)
theorem T68 (n:Nat):∀⦃e f g i j k l m o a b r1 r2 r3 r4 r5 r6 r7 r8 r9 r10⦄,Xq n e f g i j k l m o a b=some (r1,r2,r3,r4,r5,r6,r7,r8,r9,r10)->
    Ct Tryz.prog inv 68 [.c (.ptr (.ext 0) 0),.d (.list false 1 e)] [.cells [.d (.list true 16 f),.ow (.ext 1),.d (.int .i64 g),.ow (.ext 2),.ow (.ext 3),.d (.str i),.d (.int .i64 j),.d (.int .i64 k),.ow (.ext 4),.ow (.ext 5)],.tree .row true 4 l none,.tree .row true 16 m none,.tree .flat true 2 o none,.tree .row true 9 a none,.tree (.fmap false) true 2 b none] (.t []) [.cells [.d (.list true 16 r1),.ow (.loc 0),.d (.int .i64 r2),.ow (.loc 1),.ow (.loc 2),.d (.str r3),.d (.int .i64 r4),.d (.int .i64 r5),.ow (.loc 3),.ow (.ext 5)],.gone,.gone,.gone,.gone,.tree (.fmap false) true 2 r6 none] [.tree .row true 4 r7 none,.tree .row true 16 r8 none,.tree .flat true 2 r9 none,.tree .row true 9 r10 none]:=by
 intro e f g i j k l m o a b r1 r2 r3 r4 r5 r6 r7 r8 r9 r10 h
 unfold Xq at h
 refine Ct.of Fq Er oH Tryz.func68 rfl (by kernel_rfl) rfl rfl rfl (fun M hM hI=>?_)
 try cbv
 refine Ja ?_
 try cbv
 refine Ja ?_
 try cbv
 replace h:=jY h
 obtain⟨p,hr,h⟩:=h
 refine jS rfl rfl ?_
 try cbv
 refine⟨true,?_⟩
 try cbv
 refine JY hM hI [] (AGn _ hr) rfl (by simp) trivial trivial (by simp) ?_
 clear hr
 try cbv
 replace h:=SH h
 obtain⟨q,r,s,u,w,x,y,z,A,B,hr,h⟩:=h
 refine UR hM hI [.loc 96,.loc 0,.ext 0,.ext 1,.ext 2,.ext 3,.ext 4,.ext 5,.loc 64] [(2,.v (.c (.ptr (.loc 0) 0)))] rfl ⟨rfl,trivial⟩ (AGo _ hr) rfl (by simp) ⟨rfl,⟨rfl,⟨rfl,⟨rfl,⟨rfl,⟨rfl,⟨rfl,⟨rfl,⟨rfl,trivial⟩⟩⟩⟩⟩⟩⟩⟩⟩ ⟨trivial,⟨trivial,⟨trivial,⟨trivial,⟨trivial,⟨trivial,⟨trivial,⟨trivial,⟨trivial,trivial⟩⟩⟩⟩⟩⟩⟩⟩⟩ (by simp) ?_
 clear hr
 try cbv
 obtain⟨rfl,rfl,rfl,rfl,rfl,rfl,rfl,rfl,rfl,rfl⟩:=Vh h
 refine Yk ?_
 try cbv
 exact⟨[.loc 128,.loc 129,.loc 130,.loc 131],rfl,rfl,⟨rfl,⟨rfl,trivial⟩⟩,⟨rfl,⟨rfl,⟨rfl,⟨rfl,trivial⟩⟩⟩⟩,trivial⟩
noncomputable def c68:BC:=⟨68,[.p (.ext 0) 0,.f 1],[.c [.q 16,.ow (.ext 1),.z,.ow (.ext 2),.ow (.ext 3),.str,.z,.z,.ow (.ext 4),.ow (.ext 5)],.l true 4,.l true 16,.t .flat true 2,.l true 9,.t (.fmap false) true 2],[⟨.tup [],[.c [.q 16,.ow (.loc 0),.z,.ow (.loc 1),.ow (.loc 2),.str,.z,.z,.ow (.loc 3),.ow (.ext 5)],.gone,.gone,.gone,.gone,.t (.fmap false) true 2],[.l true 4,.l true 16,.t .flat true 2,.l true 9]⟩],LD×Int×BA×Int×Int×LD×LD×LD×LD×LD,ii,Xq⟩
noncomputable def k68:Kz:=⟨c68,fun n=>Ma fun a b k l m o q r s c d p h t u v w a b e f g i xs j=>by cases e;cases f;cases j;cases g;cases i;exact T68 n h⟩
def V9 (n:Nat) (l:Int) (m:Int) (o:Int) (p:Int) (q:Int) (r:BA) (s:LD) (t:Int) (u:BA) (b:Int) (c:Int) (d:LD) (e:LD) (f:LD) (g:LD) (h:LD) (i:LD):Option (Int×LD×Int×BA×Int×Int×LD×LD×LD×LD×LD):=
 DH 128 g ([.agg [.int .u8 l,.int .i64 m,.int .i64 o,.int .i64 p,.list false 1 i,.list false 1 [],.int .i64 q,.str r,.list false 1 []]]) fun a=>AP a fun j=>AW (IntKind.wrap .i64 (j - 1)) fun k=>some (k,s,t,u,b,c,h,d,e,f,a)
noncomputable def yW:AH:=⟨69,Tryz.f69,true,[.p (.ext 0) 0,.mix [.y,.z,.z,.z,.ow (.ext 6),.nils false 1,.z,.str,.nils false 1]],[.c [.q 16,.ow (.ext 1),.z,.ow (.ext 2),.ow (.ext 3),.str,.z,.z,.ow (.ext 4),.ow (.ext 5)],.l true 4,.l true 16,.t .flat true 2,.l true 9,.t (.fmap false) true 2,.l false 1],[⟨.one (.z),[.c [.q 16,.ow (.loc 0),.z,.ow (.loc 1),.ow (.loc 2),.str,.z,.z,.ow (.loc 3),.ow (.ext 5)],.gone,.gone,.gone,.gone,.t (.fmap false) true 2,.gone],[.l true 4,.l true 16,.t .flat true 2,.l true 9]⟩],Int×LD×Int×BA×Int×Int×LD×LD×LD×LD×LD,ii,V9,.g [.move (.ext 1),.move (.ext 2),.move (.ext 3)] [] .e,[],none,[]⟩
noncomputable def yX:Kz:=sg yW [] Tryz.func69
mutual
def NR:Nat->LD->Int->LD->Int->BA->Int->Int->LD->LD->LD->LD->LD->Option (LD×Int×BA×Int×Int×LD×LD×LD×LD×LD)
 | 0,_,_,_,_,_,_,_,_,_,_,_,_=>none
 | n+1,l1,z2,l3,z4,s5,z6,z7,l8,l9,i,j,b=>
  BW (uT n l1 z2 l3 z4 s5 z6 z7 l8 l9 i j b) fun C aZ hc a hd he hf cw a4 f g=>BO (Xq n hf C aZ hc a hd cw a4 f g he) fun c hg hh q W r cU hi hj a5=>some (c,hg,hh,q,W,r,cU,hi,hj,a5)
def J4:Nat->LD->Int->LD->Int->Int->Int->LD->Int->BA->Int->Int->LD->LD->LD->LD->LD->LD->Option (LD×Int×BA×Int×Int×LD×LD×LD×LD×LD)
 | 0,_,_,_,_,_,_,_,_,_,_,_,_,_,_,_,_,_=>none
 | n+1,d,a,s,e,E,X,O,P,aL,Q,aM,R,p,S,T,w,cx=>
  (if X<E then An d X fun hk=>EA hk fun a6 aN U=>AP s fun V=>J5 n d a s e E X O P aL Q aM R p S T w a6 aN U V s 0 cx else AP p fun L=>NS n p L 0 O P aL Q aM R S T w cx)
def J5:Nat->LD->Int->LD->Int->Int->Int->LD->Int->BA->Int->Int->LD->LD->LD->LD->LD->BA->BA->LD->Int->LD->Int->LD->Option (LD×Int×BA×Int×Int×LD×LD×LD×LD×LD)
 | 0,_,_,_,_,_,_,_,_,_,_,_,_,_,_,_,_,_,_,_,_,_,_,_=>none
 | n+1,d,a,s,e,E,X,O,P,aL,Q,aM,R,p,S,T,w,a6,aN,U,V,a0,Y,F=>
  (if Y<V then An a0 Y fun hl=>Co hl fun hm dD dE cE=>(if hm=a6 then EJ F (e.toNat) fun dF=>Ef dF fun a7 Z a8 dG G aa dH dI a9=>Bs (0<=e/\e.toNat<F.length) (gd (e.toNat) (e.toNat) (AP F fun ab=>Bs (0<=Y/\Y.toNat<G.length) (EJ G (Y.toNat) fun dJ=>CH dJ fun cF=>AW (IntKind.wrap .i64 (Y+1)) fun aR=>SE G (Y.toNat) (.int .i64 ab) fun ac=>SE F (e.toNat) (.agg [.int .u8 a7,.int .i64 Z,.int .i64 a8,.int .i64 dG,.list false 1 ac,.list false 1 aa,.int .i64 dH,.str dI,.list false 1 a9]) fun ba=>J5 n d a s e E X O P aL Q aM R p S T w a6 aN U V a0 aR ba)))else EJ F (e.toNat) fun dK=>Ef dK fun dL bb bc dM ad ae bd be bf=>AW (IntKind.wrap .i64 (Y+1)) fun dN=>SE F (e.toNat) (.agg [.int .u8 dL,.int .i64 bb,.int .i64 bc,.int .i64 dM,.list false 1 ad,.list false 1 ae,.int .i64 bd,.str be,.list false 1 bf]) fun bg=>J5 n d a s e E X O P aL Q aM R p S T w a6 aN U V a0 dN bg)else (if aN=ByteArray.empty then BO (NR n U a O P aL Q aM S T w F R) fun bh bi dO dP bj bl af ag bm ah=>BO (Xq n ([]:LD) bh bi dO dP bj af ag bm ah bl) fun bn dR dT bo bp bq ai aj ak al=>BW (TN n 14 bn dR dT bo bp ai aj ak al bq) fun br dU bs dV dX bt bu am an ao aq=>DH 8 p ([.int .i64 br]) fun bv=>AW (IntKind.wrap .i64 (X+1)) fun cG=>J4 n d a s e E cG dU bs dV dX bt bu bv am an ao aq else BO (Qw n aN O P aL Q aM S T w F R) fun bw cH dY bx d0 bz d1 bA ar bB=>Hs [.str aN] fun bC=>BO (NR n U a bw cH dY bx d0 d1 bA ar bB bz) fun bD au bE bF bG av aw ax bH bI=>BO (Xq n bC bD au bE bF bG aw ax bH bI av) fun bJ bK bL bM ay bN az aA aB aC=>BW (TN n 14 bJ bK bL bM ay az aA aB aC bN) fun d2 d3 bO d4 cI bP d5 bQ bR bT aD=>DH 8 p ([.int .i64 d2]) fun aE=>AW (IntKind.wrap .i64 (X+1)) fun d6=>J4 n d a s e E d6 d3 bO d4 cI bP d5 aE bQ bR bT aD))
def NS:Nat->LD->Int->Int->LD->Int->BA->Int->Int->LD->LD->LD->LD->LD->Option (LD×Int×BA×Int×Int×LD×LD×LD×LD×LD)
 | 0,_,_,_,_,_,_,_,_,_,_,_,_,_=>none
 | n+1,p,L,aF,cJ,aS,cK,cM,aT,aU,M,N,aV,aW=>
  (if aF<L then Bs (0<=aF/\aF.toNat<p.length) (EJ p (aF.toNat) fun d7=>CH d7 fun aX=>BO (VL n aX cJ aS cK cM aT M N aV aW aU) fun aG bU bV bW bX aH bY bZ b0 b1=>AW (IntKind.wrap .i64 (aF+1)) fun b2=>NS n p L b2 aG bU bV bW bX aH bY bZ b0 b1)else some (cJ,aS,cK,cM,aT,aU,M,N,aV,aW))
def mR:Nat->Int->BA->BA->LD->Int->BA->LD->Int->BA->LD->LD->LD->LD->LD->Int->Int->LD->Int->BA->Int->Int->LD->LD->LD->LD->LD->Option (LD×Int×BA×Int×Int×LD×LD×LD×LD×LD)
 | 0,_,_,_,_,_,_,_,_,_,_,_,_,_,_,_,_,_,_,_,_,_,_,_,_,_,_=>none
 | n+1,H,s2,s3,l4,z5,s6,l7,z8,s9,i,j,b,C,d,aK,a,x,k,y,z,A,f,g,c,h,B=>
  MA (NH n 4 s2 ([]:LD) x k y z A f g c h B) fun q W r I J t K u aO l m o v=>BW (Zu n q W 0 0 0 ByteArray.empty r I J t K u aO l m o ([]:LD) v ([]:LD)) fun ir hn b4 cV ho cW b5 aP cX aQ cY=>BW (Zt n 2 s3 hn b4 cV ho cW aP cX aQ cY b5) fun s cZ b6 hp hq da b7 b8 db dd b9=>AP s fun a1=>Oa 8 (.int .i64 0) a1 a1 fun de=>BW (V9 n 16 0 0 0 0 s3 cZ b6 hp hq da b7 b8 db dd b9 de) fun e ca hr hs dg dh di dj ht hu cb=>AP d fun E=>J4 n d a s e E 0 ca hr hs dg dh di ([]:LD) dj ht hu cb
def mS:Nat->Int->BA->BA->LD->Int->BA->LD->Int->BA->LD->LD->LD->LD->LD->Int->Int->LD->Int->BA->Int->Int->LD->LD->LD->LD->LD->Option (LD×Int×BA×Int×Int×LD×LD×LD×LD×LD)
 | 0,_,_,_,_,_,_,_,_,_,_,_,_,_,_,_,_,_,_,_,_,_,_,_,_,_,_=>none
 | n+1,H,s2,s3,l4,z5,s6,l7,z8,s9,i,j,b,C,d,aK,a,x,k,y,z,A,f,g,c,h,B=>
  (if H=6 then BW (TN n 15 x k y z A f g c h B) fun q hv hw hx dk t a5 u aO l m=>BO (NR n b a hv hw hx dk t u aO l m a5) fun o hy hz cc b4 hA hB hC b5 aP=>BW (TN n 14 o hy hz cc b4 hB hC b5 aP hA) fun dl aQ dm dn dp b6 a2 ce dq b7 b8=>BO (VL n q aQ dm dn dp b6 ce dq b7 b8 a2) fun db dr hD a1 hE ds ca dt du dv=>BO (NR n C a db dr hD a1 hE ca dt du dv ds) fun dw hF hG dx d8 cb hH hI O hJ=>BO (VL n dl dw hF hG dx d8 hH hI O hJ cb) fun dy Q hK hL hM S T w cx hN=>some (dy,Q,hK,hL,hM,S,T,w,cx,hN)else (if H=7 then AP h fun cz=>An j 0 fun hO=>CQ hO fun hP V hQ hR hS cA cB dD=>BO (pG n hP V hQ hR hS cA cB dD x k y z A f g c h B) fun hT d9 ea a7 Z eb cf G aa cg=>BW (TN n 15 hT d9 ea a7 Z cf G aa cg eb) fun ec a9 ab ed cF ch ee ef eg ci ad=>BO (NR n b a a9 ab ed cF ch ef eg ci ad ee) fun ae bd be eh aR ac ba ei bg bw=>BW (B7 n 14 cz 0 0 0 ByteArray.empty ae bd be eh aR ba ei bg bw ac) fun cH cj bx ej ek ck bA ar bB bC bh=>BO (VL n ec cj bx ej ek ck ar bB bC bh bA) fun el em en bj eo af ag bm ah bn=>some (el,em,en,bj,eo,af,ag,bm,ah,bn)else (if H=8 then BO (mR n H s2 s3 l4 z5 s6 l7 z8 s9 i j b C d aK a x k y z A f g c h B) fun ep cl eq bp er ai aj ak al es=>some (ep,cl,eq,bp,er,ai,aj,ak,al,es)else (if H=9 then BW (B7 n 32 0 0 0 0 ByteArray.empty x k y z A f g c h B) fun il et cm eu bt ev am an ao aq bv=>BO (NR n b a et cm eu bt ev an ao aq bv am) fun bD au bE bF bG av aw ax bH bI=>BW (B7 n 34 0 0 0 0 ByteArray.empty bD au bE bF bG aw ax bH bI av) fun im ew ex ey ay ez az aA aB aC cn=>some (ew,ex,ey,ay,ez,az,aA,aB,aC,cn)else (if H=10 then AP c fun cS=>AW (IntKind.wrap .i64 (a+cS)) fun bO=>AP l4 fun co=>BW (B7 n 33 bO co 0 0 ByteArray.empty x k y z A f g c h B) fun cI eA cp eB eC eD aD aE eE cq eF=>DH 48 cq ([.agg [.list false 1 l4,.list true 15 b]]) fun eG=>some (eA,cp,eB,eC,eD,aD,aE,eE,eG,eF)else (if H=11 then BW (uS n s2 x k y z A f g c h B) fun aY eH eI eJ aT eK M N aV aW eL=>BW (B7 n 1 aY 0 0 0 ByteArray.empty eH eI eJ aT eK N aV aW eL M) fun aX aG bU bV bW bX aH bY bZ b0 b1=>MA (NH n 30 s9 i aG bU bV bW bX bY bZ b0 b1 aH) fun b2 eM cr eN eO eP eQ eR eS eT eU cs ct=>BW (Zu n b2 eM aY 0 0 ByteArray.empty cr eN eO eP eQ eR eS eT eU cs ([]:LD) ct ([]:LD)) fun io cu eV eW eX eY eZ e0 e1 e2 e3=>BO (NR n b a cu eV eW eX eY e0 e1 e2 e3 eZ) fun e4 e5 e6 e7 e8 e9 fa fb fc fe=>BW (B7 n 31 0 0 0 0 ByteArray.empty e4 e5 e6 e7 e8 fa fb fc fe e9) fun ip ff fg fh fi fj fk fl fm fn fo=>Hs [.str s2] fun fq=>BO (Xq n fq ff fg fh fi fj fl fm fn fo fk) fun fr fs ft fu fv fw fx fy fz fA=>some (fr,fs,ft,fu,fv,fw,fx,fy,fz,fA)else (if H=13 then BO (NR n b a x k y z A f g c h B) fun fB fC fD fE fF fG fH fI fJ fK=>some (fB,fC,fD,fE,fF,fG,fH,fI,fJ,fK)else some (x,k,y,z,A,B,f,g,c,h))))))))
def J6:Nat->Int->BA->BA->LD->Int->BA->LD->Int->BA->LD->LD->LD->LD->LD->Int->Int->Int->Int->LD->Int->BA->Int->Int->LD->LD->LD->LD->LD->LD->Option (((LD×Int×BA×Int×Int×LD×LD×LD×LD×LD×LD) ⊕ (LD×LD×Int×BA×Int×Int×LD×LD×LD×LD×LD)))
 | 0,_,_,_,_,_,_,_,_,_,_,_,_,_,_,_,_,_,_,_,_,_,_,_,_,_,_,_,_,_=>none
 | n+1,H,s2,s3,l4,z5,s6,l7,z8,s9,i,j,b,C,d,aK,a,q,W,r,I,J,t,K,u,aO,l,m,o,v=>
  (if W<q then An j W fun hU=>CQ hU fun cc b4 cV dz hV b5 aP dl=>(if H=7 then AW (IntKind.wrap .i64 (W+1)) fun dA=>J6 n H s2 s3 l4 z5 s6 l7 z8 s9 i j b C d aK a q dA r I J t K u aO l m o v else BO (pG n cc b4 cV dz hV b5 aP dl r I J t K l m o v u) fun aQ dm dn dp b6 a2 ce dq b7 b8=>AW (IntKind.wrap .i64 (W+1)) fun dr=>J6 n H s2 s3 l4 z5 s6 l7 z8 s9 i j b C d aK a q dr aQ dm dn dp b6 a2 aO ce dq b7 b8)else (if H=1 then BO (Qw n s2 r I J t K l m o v u) fun b9 a1 hW e hX dt du dv dw di=>Hs [.str s2] fun dj=>some (.inl (b9,a1,hW,e,hX,dt,dj,du,dv,dw,di))else (if H=2 then AP l4 fun dx=>BW (B7 n 13 0 dx 0 0 s2 r I J t K l m o v u) fun d8 cb E hY hZ P dy h0 h1 R p=>AP l4 fun cC=>NT n l4 cC 0 cb E hY hZ P dy H l4 h0 h1 R p else (if H=3 then MA (NH n 8 s9 i r I J t K l m o v u) fun ab fL fM ch fN bb bc ci ad ae fO fP bf=>BW (Zu n ab fL 0 0 0 ByteArray.empty fM ch fN bb bc ci ad ae fO fP ([]:LD) bf ([]:LD)) fun aR ac fQ fR fS fT fU cj fV fW bz=>MA (NH n 7 s9 i ac fQ fR fS fT cj fV fW bz fU) fun ck fX ar fY fZ f0 bi f1 f2 f3 bl af ag=>BW (Zu n ck fX 0 0 0 ByteArray.empty ar fY fZ f0 bi f1 f2 f3 bl af ([]:LD) ag ([]:LD)) fun iq ah f4 f5 cl bo f6 bq ai aj ak=>some (.inl (ah,f4,f5,cl,bo,f6,([]:LD),bq,ai,aj,ak))else (if H=4 then BO (Qw n ByteArray.empty r I J t K l m o v u) fun al br f7 bs cm f8 f9 bu am an=>Hs [.str ByteArray.empty] fun ao=>BO (Xq n ao al br f7 bs cm f9 bu am an f8) fun aq ga gb au gc gg gj av aw ax=>some (.inl (aq,ga,gb,au,gc,gg,([]:LD),gj,av,aw,ax))else (if H=5 then MA (NH n 8 s2 ([]:LD) r I J t K l m o v u) fun gl gm bJ bK bL bM ay bN az aA aB aC cn=>BW (Zu n gl gm 0 0 0 ByteArray.empty bJ bK bL bM ay bN az aA aB aC ([]:LD) cn ([]:LD)) fun cS gn co go bP cp bQ bR bT aD aE=>some (.inl (gn,co,go,bP,cp,bQ,([]:LD),bR,bT,aD,aE))else (if H=12 then BW (B7 n 27 0 0 0 z8 ByteArray.empty r I J t K l m o v u) fun cG cq L gp aY aS gq gt gu aU M=>BO (Qw n s3 cq L gp aY aS gt gu aU M gq) fun N gv gw gx aX aG gy gz gA gB=>BO (Qw n s2 N gv gw gx aX gy gz gA gB aG) fun aH gC gD gE gF gG gH cr gI gJ=>Hs [.str s3,.str s2] fun gK=>some (.inl (aH,gC,gD,gE,gF,gG,gK,gH,cr,gI,gJ))else BO (mS n H s2 s3 l4 z5 s6 l7 z8 s9 i aO b C d aK a r I J t K l m o v u) fun gL gM gN gO gP cs ct gQ cu gS=>some (.inl (gL,gM,gN,gO,gP,cs,([]:LD),ct,gQ,cu,gS)))))))))
def NT:Nat->LD->Int->Int->LD->Int->BA->Int->Int->LD->Int->LD->LD->LD->LD->LD->Option (((LD×Int×BA×Int×Int×LD×LD×LD×LD×LD×LD) ⊕ (LD×LD×Int×BA×Int×Int×LD×LD×LD×LD×LD)))
 | 0,_,_,_,_,_,_,_,_,_,_,_,_,_,_,_=>none
 | n+1,l4,cC,dC,w,gT,gU,cz,gV,U,V,a0,gW,F,cA,cB=>
  (if dC<cC then An l4 dC fun h2=>CG h2 fun dE=>BO (Qw n dE w gT gU cz gV gW F cA cB U) fun cE gX gY Z a8 cf G aa cg gZ=>AW (IntKind.wrap .i64 (dC+1)) fun g0=>NT n l4 cC g0 cE gX gY Z a8 cf V a0 G aa cg gZ else some (.inr (a0,w,gT,gU,cz,gV,U,gW,F,cA,cB)))
def mT:Nat->Int->BA->BA->LD->Int->BA->LD->Int->BA->LD->LD->LD->LD->LD->Int->Int->LD->Int->BA->Int->Int->LD->LD->LD->LD->LD->Option (((LD×Int×BA×Int×Int×LD×LD×LD×LD×LD×LD) ⊕ (LD×LD×Int×BA×Int×Int×LD×LD×LD×LD×LD)))
 | 0,_,_,_,_,_,_,_,_,_,_,_,_,_,_,_,_,_,_,_,_,_,_,_,_,_,_=>none
 | n+1,H,s2,s3,l4,z5,s6,l7,z8,s9,i,j,b,C,d,aK,a,x,k,y,z,A,f,g,c,h,B=>
  AP j fun q=>J6 n H s2 s3 l4 z5 s6 l7 z8 s9 i j b C d aK a q 0 x k y z A B j f g c h
def PF:Nat->LD->Int->Int->Int->LD->Int->BA->Int->Int->LD->LD->LD->LD->LD->LD->Option (LD×Int×BA×Int×Int×LD×LD×LD×LD×LD×LD)
 | 0,_,_,_,_,_,_,_,_,_,_,_,_,_,_,_=>none
 | n+1,l1,z2,cv,aZ,g1,a,g2,k,g3,cw,a4,f,g,c,h=>
  (if aZ<cv then An l1 aZ fun h3=>Cp h3 fun q h4 h5 cU dk h6 a5 h7 h8 l m o v h9 cc=>bS (mT n q h4 h5 cU dk h6 a5 h7 h8 l m o v h9 cc z2 g1 a g2 k g3 f g c h cw) (fun ia=>BW (some ia) fun ib ic dz cW id aP cX aQ cY s cZ=>DH 16 a4 cX fun ie=>AW (IntKind.wrap .i64 (aZ+1)) fun dg=>PF n l1 z2 cv dg ib ic dz cW id aP ie aQ cY s cZ) (fun ig=>BW (some ig) fun a2 ce da ih ij dA dd b9 ik de ds=>Bs (Iq a2=true) (DH 16 a4 a2 fun ca=>AW (IntKind.wrap .i64 (aZ+1)) fun dh=>PF n l1 z2 cv dh ce da ih ij dA dd ca b9 ik de ds))else some (g1,a,g2,k,g3,cw,a4,f,g,c,h))
def uT:Nat->LD->Int->LD->Int->BA->Int->Int->LD->LD->LD->LD->LD->Option (LD×Int×BA×Int×Int×LD×LD×LD×LD×LD×LD)
 | 0,_,_,_,_,_,_,_,_,_,_,_,_=>none
 | n+1,l1,z2,l3,z4,s5,z6,z7,l8,l9,i,j,b=>
  AP l1 fun cv=>PF n l1 z2 cv 0 l3 z4 s5 z6 z7 b ([]:LD) l8 l9 i j
end
noncomputable def AGp:AH:=⟨222,Tryz.f222,true,[.p (.ext 0) 0,.q 15,.z],[.c [.q 16,.ow (.ext 1),.z,.ow (.ext 2),.ow (.ext 3),.str,.z,.z,.ow (.ext 4),.ow (.ext 5)],.l true 4,.l true 16,.t .flat true 2,.l true 9,.t (.fmap false) true 2],[⟨.tup [],[.c [.q 16,.ow (.loc 0),.z,.ow (.loc 1),.ow (.loc 2),.str,.z,.z,.ow (.loc 3),.ow (.ext 5)],.gone,.gone,.gone,.gone,.t (.fmap false) true 2],[.l true 4,.l true 16,.t .flat true 2,.l true 9]⟩],LD×Int×BA×Int×Int×LD×LD×LD×LD×LD,ii,NR,.n 0 (.g [.freeze (.loc 128)] [] .e),[],none,[]⟩
noncomputable def AGq:AH:=⟨223,Tryz.f223,true,[.p (.ext 0) 0,.agg [.y,.str,.str,.f 1,.y,.str,.q 3,.z,.str,.f 1,.q 8,.q 15,.q 15,.q 3,.z],.z],[.c [.q 16,.ow (.ext 1),.z,.ow (.ext 2),.ow (.ext 3),.str,.z,.z,.ow (.ext 4),.ow (.ext 5)],.l true 4,.l true 16,.t .flat true 2,.l true 9,.t (.fmap false) true 2],[⟨.tup [],[.c [.q 16,.ow (.loc 0),.z,.ow (.loc 1),.ow (.loc 2),.str,.z,.z,.ow (.loc 3),.ow (.ext 5)],.gone,.gone,.gone,.gone,.t (.fmap false) true 2],[.l true 4,.l true 16,.t .flat true 2,.l true 9]⟩],LD×Int×BA×Int×Int×LD×LD×LD×LD×LD,ii,mR,.n 0 (.w (.n 0 (.w (.g [.fnlS 8 247 [.p (.ext 0),.h]] [] .e)))),[⟨506,[0,2,6,7,8,36,37,38],[.ext 0,.ext 1,.ext 2,.ext 3,.ext 4,.ext 5,.loc 864,.loc 640,.loc 641,.loc 642,.loc 643],896,[.p (.ext 0) 0,.z,.q 4,.z,.w (.loc 864),.q 3,.z,.z],[.c [.q 16,.ow (.loc 640),.z,.ow (.loc 641),.ow (.loc 642),.str,.z,.z,.ow (.loc 643),.ow (.ext 5)],.gone,.gone,.gone,.gone,.t (.fmap false) true 2,.n 247 [.p (.ext 0),.h],.l true 4,.l true 16,.t .flat true 2,.l true 9],fun n d i j k m r s u v x A B a C E F S=>J4 n k d i j m r s u v x A B a C E F S,.e⟩,
 ⟨259274,[0,2,6,7,8,10,36,37,38,42,43,44],[.ext 0,.ext 1,.ext 2,.ext 3,.ext 4,.ext 5,.loc 864,.loc 992,.loc 640,.loc 641,.loc 642,.loc 643],1152,[.p (.ext 0) 0,.z,.q 4,.z,.w (.loc 864),.p (.loc 992) 0,.q 3,.z,.z,.q 4,.z,.z],[.c [.q 16,.ow (.loc 640),.z,.ow (.loc 641),.ow (.loc 642),.str,.z,.z,.ow (.loc 643),.ow (.ext 5)],.gone,.gone,.gone,.gone,.t (.fmap false) true 2,.n 247 [.p (.ext 0),.h],.c [.str,.str,.q 15],.l true 4,.l true 16,.t .flat true 2,.l true 9],fun n d i j k m r T U V s u v x A B a W X Y C E F Z=>J5 n k d i j m r s u v x A B a C E F W X Y U T V Z,.b (.b (.b (.o (.loc 643) 7 44 (.n 0 (.g [.close (.loc 1540),.close (.loc 643)] [] .e))) (.o (.loc 643) 7 44 (.g [.close (.loc 643)] [] .e))) .e) (.b .e (.b (.n 3 (.g [] [(1696,864),(1632,640),(1633,641),(1634,642),(1635,643)] .e)) (.n 1 (.g [.freeze (.loc 1504)] [] (.n 1 (.g [] [(1952,864),(1888,640),(1889,641),(1890,642),(1891,643)] .e))))))⟩,
 ⟨510,[96,97,98],[.ext 0,.ext 1,.ext 2,.ext 3,.ext 4,.ext 5,.loc 864,.loc 640,.loc 641,.loc 642,.loc 643],1024,[.w (.loc 864),.z,.z],[.c [.q 16,.ow (.loc 640),.z,.ow (.loc 641),.ow (.loc 642),.str,.z,.z,.ow (.loc 643),.ow (.ext 5)],.gone,.gone,.gone,.gone,.t (.fmap false) true 2,.n 247 [.p (.ext 0),.h],.l true 4,.l true 16,.t .flat true 2,.l true 9],fun n G H I J K L M N a O P Q R=>NS n a G H I J K L M N O P Q R,.b (.n 1 (.g [] [(1184,640),(1185,641),(1186,642),(1187,643)] .e)) .e⟩],none,[]⟩
noncomputable def AGr:AH:=⟨157,Tryz.f157,true,[.p (.ext 0) 0,.agg [.y,.str,.str,.f 1,.y,.str,.q 3,.z,.str,.f 1,.q 8,.q 15,.q 15,.q 3,.z],.z],[.c [.q 16,.ow (.ext 1),.z,.ow (.ext 2),.ow (.ext 3),.str,.z,.z,.ow (.ext 4),.ow (.ext 5)],.l true 4,.l true 16,.t .flat true 2,.l true 9,.t (.fmap false) true 2],[⟨.tup [],[.c [.q 16,.ow (.loc 0),.z,.ow (.loc 1),.ow (.loc 2),.str,.z,.z,.ow (.loc 3),.ow (.ext 5)],.gone,.gone,.gone,.gone,.t (.fmap false) true 2],[.l true 4,.l true 16,.t .flat true 2,.l true 9]⟩],LD×Int×BA×Int×Int×LD×LD×LD×LD×LD,ii,mS,.b .e (.b .e (.b (.n 2 (.w .e)) (.b .e (.b .e (.b .e (.b (.w (.n 0 (.w .e))) (.b .e (.b (.w .e) (.b .e (.b (.n 0 (.w (.n 0 (.w (.n 0 (.w (.g [.freeze (.loc 1504)] [] .e))))))) (.b .e (.b .e (.g [.move (.ext 1),.move (.ext 2),.move (.ext 3),.move (.ext 4)] [] .e))))))))))))),[],none,[]⟩
noncomputable def AGs:AH:=⟨109,Tryz.f109,true,[.p (.ext 0) 0,.agg [.y,.str,.str,.f 1,.y,.str,.q 3,.z,.str,.f 1,.q 8,.q 15,.q 15,.q 3,.z],.z],[.c [.q 16,.ow (.ext 1),.z,.ow (.ext 2),.ow (.ext 3),.str,.z,.z,.ow (.ext 4),.ow (.ext 5)],.l true 4,.l true 16,.t .flat true 2,.l true 9,.t (.fmap false) true 2],[⟨.one (.w (.loc 0)),[.c [.q 16,.ow (.loc 1),.z,.ow (.loc 2),.ow (.loc 3),.str,.z,.z,.ow (.loc 4),.ow (.ext 5)],.gone,.gone,.gone,.gone,.t (.fmap false) true 2],[.l false 1,.l true 4,.l true 16,.t .flat true 2,.l true 9]⟩,⟨.one (.f 1),[.c [.q 16,.ow (.loc 0),.z,.ow (.loc 1),.ow (.loc 2),.str,.z,.z,.ow (.loc 3),.ow (.ext 5)],.gone,.gone,.gone,.gone,.t (.fmap false) true 2],[.l true 4,.l true 16,.t .flat true 2,.l true 9]⟩],((LD×Int×BA×Int×Int×LD×LD×LD×LD×LD×LD) ⊕ (LD×LD×Int×BA×Int×Int×LD×LD×LD×LD×LD)),ii,mT,.g [.move (.ext 1),.move (.ext 2),.move (.ext 3),.move (.ext 4)] [] .e,[⟨26,[0,2,4,6,12,13,14],[.ext 0,.ext 1,.ext 2,.ext 3,.ext 4,.ext 5,.loc 0,.loc 192,.loc 224,.loc 256,.loc 288],320,[.p (.ext 0) 0,.z,.p (.loc 0) 0,.one (.nils false 1),.q 8,.z,.z],[.c [.q 16,.ow (.loc 192),.z,.ow (.loc 224),.ow (.loc 256),.str,.z,.z,.ow (.loc 288),.ow (.ext 5)],.gone,.gone,.gone,.gone,.t (.fmap false) true 2,.c [.y,.str,.str,.f 1,.y,.str,.q 3,.z,.str,.f 1,.q 8,.q 15,.q 15,.q 3,.z],.l true 4,.l true 16,.t .flat true 2,.l true 9],fun n a d h i j k m o r s X Y Z u z5 s6 l7 z8 s9 v x A B C E F G H I=>J6 n X Y Z u z5 s6 l7 z8 s9 v d A B C E a h i j k m o r s x F G H I,.b (.b (.b .e (.n 0 (.g [] [(640,192),(641,224),(642,256),(643,288)] .e))) .e) (.b .e (.b .e (.b .e (.b (.w .e) (.b .e (.b (.n 0 (.w (.n 0 (.w (.g [.treeS 6 false 1] [] .e))))) (.b .e (.b (.n 0 (.g [.freeze (.loc 768)] [] (.g [.treeS 6 false 1] [] .e))) (.b .e (.b (.n 0 (.w (.g [.treeS 6 false 1] [] .e))) (.b .e (.b (.w .e) (.n 0 (.g [.treeS 6 false 1] [] .e))))))))))))))⟩,
 ⟨15082,[0,2,4,6,26,51,52,53],[.ext 0,.ext 1,.ext 2,.ext 3,.ext 4,.ext 5,.loc 0,.loc 768,.loc 769,.loc 770,.loc 771],928,[.p (.ext 0) 0,.z,.p (.loc 0) 0,.one (.nils false 1),.y,.f 1,.z,.z],[.c [.q 16,.ow (.loc 768),.z,.ow (.loc 769),.ow (.loc 770),.str,.z,.z,.ow (.loc 771),.ow (.ext 5)],.gone,.gone,.gone,.gone,.t (.fmap false) true 2,.c [.y,.str,.str,.f 1,.y,.str,.q 3,.z,.str,.f 1,.q 8,.q 15,.q 15,.q 3,.z],.l true 4,.l true 16,.t .flat true 2,.l true 9],fun n _ _ u J K L M N O P Q R _ _ S _ _ _ _ _ _ _ _ _ _ _ T U V W=>NT n u J K L M N O P Q R S T U V W,.b (.n 0 (.g [] [(1120,768),(1121,769),(1122,770),(1123,771)] .e)) .e⟩],none,[]⟩
noncomputable def X66:AH:=⟨66,Tryz.f66,true,[.p (.ext 0) 0,.q 15,.z],[.c [.q 16,.ow (.ext 1),.z,.ow (.ext 2),.ow (.ext 3),.str,.z,.z,.ow (.ext 4),.ow (.ext 5)],.l true 4,.l true 16,.t .flat true 2,.l true 9,.t (.fmap false) true 2],[⟨.one (.w (.loc 0)),[.c [.q 16,.ow (.loc 1),.z,.ow (.loc 2),.ow (.loc 3),.str,.z,.z,.ow (.loc 4),.ow (.ext 5)],.gone,.gone,.gone,.gone,.t (.fmap false) true 2],[.l false 1,.l true 4,.l true 16,.t .flat true 2,.l true 9]⟩],LD×Int×BA×Int×Int×LD×LD×LD×LD×LD×LD,ii,uT,.g [.treeS 7 false 1,.move (.ext 1),.move (.ext 2),.move (.ext 3),.move (.ext 4)] [] .e,[⟨58,[0,2,6,7,10,11,12],[.ext 0,.ext 1,.ext 2,.ext 3,.ext 4,.ext 5,.loc 160,.loc 192,.loc 224,.loc 256,.loc 288],320,[.p (.ext 0) 0,.z,.one (.nils false 1),.w (.loc 160),.q 15,.z,.z],[.c [.q 16,.ow (.loc 192),.z,.ow (.loc 224),.ow (.loc 256),.str,.z,.z,.ow (.loc 288),.ow (.ext 5)],.gone,.gone,.gone,.gone,.t (.fmap false) true 2,.l false 1,.l true 4,.l true 16,.t .flat true 2,.l true 9],fun n x y a d f h i j k m o r s u v=>PF n y x a d f h i j k m o r s u v,.b (.n 0 (.b (.n 0 (.g [] [(640,160),(609,192),(610,224),(611,256),(612,288)] .e)) (.n 0 (.g [] [(640,160),(608,192),(609,224),(610,256),(611,288)] .e)))) .e⟩],none,[]⟩
theorem AGt:Be Tryz.prog inv (EB [AGp,AGq,AGr,AGs,X66]):=gr [GF,yX,AFf,uA,AFk,yU,AFn,k65,k67,k68,k69] ⟨ge Tryz.func222,ge Tryz.func223,ge Tryz.func157,ge Tryz.func109,ge Tryz.func66,trivial⟩
noncomputable def k66:Kz:=⟨X66.c,AGt.2.2.2.2.1⟩
def TP:Nat->LD->LD->Int->Int->BA->BA->BA->LD->LD->Int->Int->Int->LD->Int->LD->Int->BA->Int->Int->LD->LD->LD->LD->LD->Option (LD×Int×BA×Int×Int×LD×LD×LD×LD)
 | 0,_,_,_,_,_,_,_,_,_,_,_,_,_,_,_,_,_,_,_,_,_,_,_,_=>none
 | n+1,l2,l3,z4,z5,s6,s7,s8,l9,b,c,d,e,f,a,g,h,i,j,k,l,m,o,p,q=>
  (if a<e then An f a fun w=>CG w fun x=>BW (uS n x g h i j k l m o p q) fun aQ y z A B C E F G H I=>AW (IntKind.wrap .i64 (a+1)) fun J=>TP n l2 l3 z4 z5 s6 s7 s8 l9 b c d e f J y z A B C F G H I E else BW (uT n l3 d g h i j k l m o p q) fun K L M N O P Q R S T U=>BO (pG n z4 z5 s6 s7 s8 l9 b c K L M N O R S T U P) fun V W X Y Z aa ab ac ad ae=>BO (Xq n Q V W X Y Z ab ac ad ae aa) fun af ag ah ai aj ak al am an ao=>BO (Xq n l2 af ag ah ai aj al am an ao ak) fun aq ar au av aw ax ay az aA aB=>BW (B7 n 18 0 0 0 0 ByteArray.empty aq ar au av aw ay az aA aB ax) fun aR aC aD r s t aE aF aG aH u=>DH 56 aF ([.agg [.str r,.int .i64 s,.int .i64 t,.list true 9 u]]) fun v=>some (aC,aD,r,s,t,v,aG,aH,aE))
def yY (n:Nat) (l:BA) (a:LD) (m:LD) (o:Int) (p:Int) (q:BA) (r:BA) (s:BA) (t:LD) (b:LD) (c:Int) (d:Int) (e:LD) (f:Int) (u:BA) (v:Int) (w:Int) (g:LD) (h:LD) (i:LD):Option (LD×Int×BA×Int×Int×LD×LD×LD×LD):=
 AP a fun j=>AP a fun k=>TP n a m o p q r s t b c d k a 0 e f l j 0 g h i ([]:LD) ([]:LD)
noncomputable def X22:AH:=⟨22,Tryz.f22,true,[.p (.ext 0) 0,.s,.f 1,.q 15,.agg [.y,.z,.str,.str,.str,.f 1,.q 8,.z],.z],[.c [.q 16,.ow (.ext 1),.z,.ow (.ext 2),.ow (.ext 3),.str,.z,.z,.un,.un],.l true 4,.l true 16,.t .flat true 2],[⟨.tup [],[.c [.q 16,.ow (.loc 0),.z,.ow (.loc 1),.ow (.loc 2),.str,.z,.z,.ow (.loc 3),.ow (.loc 4)],.gone,.gone,.gone],[.l true 4,.l true 16,.t .flat true 2,.gone,.t (.fmap false) true 2]⟩],LD×Int×BA×Int×Int×LD×LD×LD×LD,ii,yY,.g [.treeC (.ext 0) 8 true 9,.move (.ext 1),.move (.ext 2),.move (.ext 3)] [] .e,[⟨58,[0,2,3,5,10,26,27,28],[.ext 0,.ext 1,.ext 2,.ext 3,.loc 0,.loc 576,.loc 608,.loc 640,.loc 544,.loc 224],672,[.p (.ext 0) 0,.f 1,.q 15,.z,.p (.loc 0) 0,.f 1,.z,.z],[.c [.q 16,.ow (.loc 576),.z,.ow (.loc 608),.ow (.loc 640),.str,.z,.z,.ow (.loc 544),.ow (.loc 224)],.gone,.gone,.gone,.c [.y,.z,.str,.str,.str,.f 1,.q 8,.z],.l true 4,.l true 16,.t .flat true 2,.l true 9,.t (.fmap false) true 2],fun n F G a d h i j k m o r H I J K L M u v x A B C E=>TP n F G H I J K L M u v a h d i j k m o r x A B C E,.b (.n 0 (.g [] [(864,576),(865,608),(866,640),(867,544)] .e)) (.n 1 (.g [.freeze (.loc 800)] [] (.n 0 (.w .e))))⟩],none,[]⟩
noncomputable def k22:Kz:=sg X22 [GF,k65,k66,k67,k68] Tryz.func22
end Go.Proofs.YtjfmnfncmfepnaaGreatDoor
end
set_option linter.unusedVariables false
noncomputable section
namespace Go.Proofs.YtjfmnfncmfepnaaGreatDoor
open Go Go.AM
theorem nx {p:D→Prop}:∀y∈([]:List D),p y:=fun y h=>by cases h
def Cd (x:D):Prop:=∃(op a b c z:Int) (s:ByteArray) (ks ps vs:List D),x= .agg [.int .u8 op,.int .i64 a,.int .i64 b,.int .i64 c,.list false 1 ks,.list false 1 ps,.int .i64 z,.str s,.list false 1 vs]∧0≤op∧op≤255∧(∀y∈ks,∃z,y=D.int .i64 z)∧∀y∈ps,∃s,y=D.str s
def kl:D→Nat
 | .agg [_,_,_,_,.list _ _ ks,_,_,_,_]=>ks.length
 | _=>0
def Cx (c c':List D):Prop:=(∀x∈c',Cd x)∧c.map kl<+:c'.map kl
section
variable {c:List D}
theorem Cx.len {c':List D}(h:Cx c c'):c.length≤c'.length:=by
 have:=h.2.length_le
 simpa using this
variable {a b:List D}
theorem Cx.trans (h:Cx a b) (h2:Cx b c):Cx a c:=⟨h2.1,h.2.trans h2.2⟩
theorem Cx.refl (h:∀x∈a,Cd x):Cx a a:=⟨h,List.prefix_refl _⟩
theorem Cx.app (h:Cx a b) {x:D}(hx:Cd x):Cx a (b++[x]):=⟨fun y hy=>by
 rcases List.mem_append.1 hy with hy | hy
 ·exact h.1 y hy
 simp_all,h.2.trans (by simp_all)⟩
theorem Cx.kl (h:Cx a b) {i:Nat}(hi:i<a.length):(b.map kl)[i]?=(a.map kl)[i]?:=by
 obtain⟨t,e⟩:=h.2
 grind
theorem Cx.set (h:Cx a b) {i:Nat}{x:D}(hx:Cd x) (hk:(b.map YtjfmnfncmfepnaaGreatDoor.kl)[i]?=some (YtjfmnfncmfepnaaGreatDoor.kl x)):Cx a (b.set i x):=by
 refine⟨fun y hy=>?_,?_⟩
 ·rcases List.mem_or_eq_of_mem_set hy with hy | rfl
  ·exact h.1 y hy
  ·exact hx
 ·obtain⟨hi,e⟩:=List.getElem?_eq_some_iff.1 hk
  rw[List.map_set,←e,List.set_getElem_self]
  exact h.2
def Lf (x:D):Prop:=∃ns body,x= .agg [.list false 1 ns,.list true 15 body]∧AB Ac 9 ns∧AB Ac 90 body∧(∃d,DN d body)∧AU ns+AU body≤20000
mutual
/-- How many spawns there are. -/
def sp:D→Nat
 | .agg [.int _ op,_,_,_,_,_,_,_,_,_,_,.list _ _ body,.list _ _ els,.list _ _ arms,_]=>(if op=10 then 1 else 0)+CJ body+CJ els+CJ arms
 | .agg [_,_,.list _ _ b]=>CJ b
 | _=>0
def CJ:List D→Nat
 | []=>0
 | x::l=>sp x+CJ l
end
def lwr:D→Nat
 | .agg [_,.list _ _ b]=>1+CJ b
 | _=>0
def lw:List D→Nat
 | []=>0
 | x::l=>lwr x+lw l
theorem Qx (a b:List D):lw (a++b)=lw a+lw b:=by
 induction a with
 | nil=>simp[lw]
 | cons x a ih=>simp only[List.cons_append,lw,ih];omega
theorem Qy (h:∀x∈a,Lf x):a.length≤lw a:=by
 induction a with
 | nil=>exact Nat.le_refl _
 | cons x a ih=>
  obtain⟨ns,b,rfl,_⟩:=h x (List.mem_cons_self ..)
  have:=ih fun y hy=>h y (List.mem_cons_of_mem _ hy)
  simp only[lw,lwr,List.length_cons];omega
def Lo (a:List D) (k:Nat) (b:List D):Prop:=∃e,b=a++e∧(∀x∈e,Lf x)∧lw e=k
theorem Lo.refl:Lo a 0 a:=⟨[],by simp,nx,rfl⟩
theorem Lo.trans {j k m:Nat}(h:Lo a j b) (h2:Lo b k c) (e:m=j+k):Lo a m c:=by
 obtain⟨x,rfl,h3,h4⟩:=h
 obtain⟨y,rfl,h5,h6⟩:=h2
 exact⟨x++y,by simp,fun z hz=>(List.mem_append.1 hz).elim (h3 z) (h5 z),by rw[Qx];omega⟩
theorem Lo.len {k:Nat}(h:Lo a k b):b.length≤a.length+k:=by
 obtain⟨x,rfl,h3,h4⟩:=h
 have:=Qy h3
 simp_all
theorem Lo.one {ns:List D}(h1:AB Ac 9 ns) (h2:AB Ac 90 b) (h3:∃d,DN d b) (h4:AU ns+AU b≤20000):Lo a (1+CJ b) (a++[.agg [.list false 1 ns,.list true 15 b]]):=
 ⟨_,rfl,fun x hx=>by rw[List.mem_singleton.1 hx];exact⟨ns,b,rfl,h1,h2,h3,h4⟩,by simp[lw,lwr]⟩
end
section
variable {γ:Type}{P:γ→Prop}{it fu ki lf co mp c0:List D}{mn pr z:Int}{nm:ByteArray}{w k:Nat}
def Se (it:List D) (mn:Int) (nm:ByteArray) (pr:Int) (fu ki lf co:List D) (w:Nat):List D→Int→ByteArray→Int→Int→List D→List D→List D→List D→List D→Prop:=fun it' mn' nm' pr' _ mp' fu' ki' lf' co'=>it'=it∧mn'=mn∧nm'=nm∧pr'=pr∧fu'=fu∧ki'=ki∧lf'=lf∧Ap Vi mp'∧Cx co co'∧co'.length≤co.length+w
def St (it:List D) (mn:Int) (nm:ByteArray) (pr:Int) (fu ki lf co:List D) (w k:Nat):List D→Int→ByteArray→Int→Int→List D→List D→List D→List D→List D→Prop:=fun it' mn' nm' pr' _ mp' fu' ki' lf' co'=>it'=it∧mn'=mn∧nm'=nm∧pr'=pr∧fu'=fu∧ki'=ki∧Lo lf k lf'∧Ap Vi mp'∧Cx co co'∧co'.length≤co.length+w
section
variable {co':List D}
theorem se (hm:Ap Vi mp) (hc:Cx co co') (hl:co'.length≤co.length+w):Se it mn nm pr fu ki lf co w it mn nm pr z mp fu ki lf co':=⟨rfl,rfl,rfl,rfl,rfl,rfl,rfl,hm,hc,hl⟩
theorem st {lf':List D}(ho:Lo lf k lf') (hm:Ap Vi mp) (hc:Cx co co') (hl:co'.length≤co.length+w):St it mn nm pr fu ki lf co w k it mn nm pr z mp fu ki lf' co':=⟨rfl,rfl,rfl,rfl,rfl,rfl,ho,hm,hc,hl⟩
theorem mU (hm:Ap Vi mp) (hc:Cx co co') (hl:co'.length≤co.length+w):DJ (fun _=>some (it,mn,nm,pr,z,mp,fu,ki,lf,co')) (Se it mn nm pr fu ki lf co w):=wS (se hm hc hl)
theorem iT {lf':List D}(ho:Lo lf k lf') (hm:Ap Vi mp) (hc:Cx co co') (hl:co'.length≤co.length+w):DJ (fun _=>some (it,mn,nm,pr,z,mp,fu,ki,lf',co')) (St it mn nm pr fu ki lf co w k):=wS (st ho hm hc hl)
variable {A:Nat→Option _}{K:Nat→List D→Int→ByteArray→Int→Int→List D→List D→List D→List D→List D→Option γ}
theorem Nc (h:DJ A (Se it mn nm pr fu ki lf co w)) (hc:Cx c0 co) (hk:∀z mp co',Ap Vi mp→Cx c0 co'→co.length≤co'.length∧co'.length≤co.length+w→Wp (fun n=>K n it mn nm pr z mp fu ki lf co') P):Wp (fun n=>BO (A n) (K n)) P:=
 Y6 h fun _ _ _ _ z mp _ _ _ co' ⟨e1,e2,e3,e4,e5,e6,e7,h1,h2,h3⟩=>by
  subst e1;subst e2;subst e3;subst e4;subst e5;subst e6;subst e7
  exact hk z mp co' h1 (hc.trans h2) ⟨h2.len,h3⟩
theorem t10 (h:DJ A (St it mn nm pr fu ki lf co w k)) (hc:Cx c0 co) (hk:∀z mp lf' co',Ap Vi mp→Lo lf k lf'→Cx c0 co'→co.length≤co'.length∧co'.length≤co.length+w→Wp (fun n=>K n it mn nm pr z mp fu ki lf' co') P):Wp (fun n=>BO (A n) (K n)) P:=
 Y6 h fun _ _ _ _ z mp _ _ lf' co' ⟨e1,e2,e3,e4,e5,e6,ho,h1,h2,h3⟩=>by
  subst e1;subst e2;subst e3;subst e4;subst e5;subst e6
  exact hk z mp lf' co' h1 ho (hc.trans h2) ⟨h2.len,h3⟩
variable {op a b c v:Int}{s:ByteArray}{ks ps:List D}
theorem cd {vs:List D}(ho:0≤op∧op≤255) (h1:∀y∈ks,∃z,y=D.int .i64 z) (h2:∀y∈ps,∃s,y=D.str s):Cd (.agg [.int .u8 op,.int .i64 a,.int .i64 b,.int .i64 c,.list false 1 ks,.list false 1 ps,.int .i64 v,.str s,.list false 1 vs]):=⟨op,a,b,c,v,s,ks,ps,vs,rfl,ho.1,ho.2,h1,h2⟩
abbrev yZ (γ:Type):=Nat→Int→List D→Int→ByteArray→Int→Int→List D→List D→List D→List D→List D→Option γ
theorem uU {K:yZ γ}{vs:List D}(hc:Cx c0 co) (hl:co.length+1≤1000000000) (h1:∀y∈ks,∃z,y=D.int .i64 z) (h2:∀y∈ps,∃s,y=D.str s) (hk:∀co',Cx c0 co'→co'.length=co.length+1→Wp (fun n=>K n co.length it mn nm pr z mp fu ki lf co') P) (ho:0≤op∧op≤255:=by omega):Wp (fun n=>BW (Zu n op a b c v s it mn nm pr z fu ki lf co mp ks ps vs) (K n)) P:=by
 unfold Zu
 exact rA (Q:=fun i it' mn' nm' pr' z' mp' fu' ki' lf' co'=>(i,it',mn',nm',pr',z',mp',fu',ki',lf',co')=((co.length:Int),it,mn,nm,pr,z,mp,fu,ki,lf,co++[_])) (wA (ap (by simp;omega) (by omega)) (wL (wW (x:=co.length) (by simp) (by omega) (wS rfl)))) fun _ _ _ _ _ _ _ _ _ _ _ e=>by
  cases e
  exact hk _ (hc.app (cd ho h1 h2)) (by simp)
theorem p1 {K:yZ γ}(hc:Cx c0 co) (hl:co.length+1≤1000000000) (hk:∀co',Cx c0 co'→co'.length=co.length+1→Wp (fun n=>K n co.length it mn nm pr z mp fu ki lf co') P) (ho:0≤op∧op≤255:=by omega):Wp (fun n=>BW (B7 n op a b c v s it mn nm pr z fu ki lf co mp) (K n)) P:=by
 unfold B7
 exact rA (Q:=fun i it' mn' nm' pr' z' mp' fu' ki' lf' co'=>(i,it',mn',nm',pr',z',mp',fu',ki',lf',co')=((co.length:Int),it,mn,nm,pr,z,mp,fu,ki,lf,co++[_])) (wX (wA (ap (by simp;omega) (by omega)) (wL (wW (x:=co.length) (by simp) (by omega) (wS rfl))))) fun _ _ _ _ _ _ _ _ _ _ _ e=>by
  cases e
  exact hk _ (hc.app (cd ho nx nx)) (by simp)
theorem p2 {K:yZ γ}(hc:Cx c0 co) (hl:co.length+1≤1000000000) (h1:∀y∈ks,∃z,y=D.int .i64 z) (hk:∀co',Cx c0 co'→co'.length=co.length+1→(co'.map kl)[co.length]?=some ks.length→Wp (fun n=>K n co.length it mn nm pr z mp fu ki lf co') P) (ho:0≤op∧op≤255:=by omega):Wp (fun n=>BW (V9 n op a b c v s it mn nm pr z fu ki lf co mp ks) (K n)) P:=by
 unfold V9
 exact rA (Q:=fun i it' mn' nm' pr' z' mp' fu' ki' lf' co'=>(i,it',mn',nm',pr',z',mp',fu',ki',lf',co')=((co.length:Int),it,mn,nm,pr,z,mp,fu,ki,lf,co++[_])) (wA (ap (by simp;omega) (by omega)) (wL (wW (x:=co.length) (by simp) (by omega) (wS rfl)))) fun _ _ _ _ _ _ _ _ _ _ _ e=>by
  cases e
  exact hk _ (hc.app (cd ho h1 nx)) (by simp) (by simp[YtjfmnfncmfepnaaGreatDoor.kl])
theorem Zw {K:yZ γ}(hc:Cx c0 co) (hl:co.length+1≤1000000000) (hk:∀co',Cx c0 co'→co'.length=co.length+1→Wp (fun n=>K n co.length it mn nm pr z mp fu ki lf co') P) (ho:0≤op∧op≤255:=by omega):Wp (fun n=>BW (TN n op it mn nm pr z fu ki lf co mp) (K n)) P:=by
 unfold TN
 exact rA (Q:=fun i it' mn' nm' pr' z' mp' fu' ki' lf' co'=>∃c,(i,it',mn',nm',pr',z',mp',fu',ki',lf',co')=((co.length:Int),it,mn,nm,pr,z,mp,fu,ki,lf,c)∧Cx c0 c∧c.length=co.length+1) (p1 hc hl (fun c h h2=>wS ⟨c,rfl,h,h2⟩) ho) fun _ _ _ _ _ _ _ _ _ _ _ ⟨c,e,h,h2⟩=>by
  simp_all
theorem p65 {K:yZ γ}(hm:Ap Vi mp) (hk:∀i z mp,Ap Vi mp→Wp (fun n=>K n i it mn nm pr z mp fu ki lf co) P):Wp (fun n=>BW (uS n s it mn nm pr z fu ki lf co mp) (K n)) P:=by
 unfold uS
 exact rA (Q:=fun i it' mn' nm' pr' z' mp' fu' ki' lf' co'=>∃m,(it',mn',nm',pr',mp',fu',ki',lf',co')=(it,mn,nm,pr,m,fu,ki,lf,co)∧Ap Vi m) (wT (wT (wP hm ⟨_,rfl⟩ fun r hr _=>wT (wS ⟨r,rfl,hr⟩)))) fun i _ _ _ _ z _ _ _ _ _ ⟨m,e,h⟩=>by
  simp_all
theorem Xg {K:Nat→Int→Int→List D→Int→ByteArray→Int→Int→List D→List D→List D→List D→List D→List D→Option γ}(hm:Ap Vi mp) (hp:AB Ac 9 ps) (hl:ps.length≤1000000000) (hk:∀i ps',(∀y∈ps',∃s,y=D.str s)→Wp (fun n=>K n op i it mn nm pr z fu ki lf co mp ps') P):Wp (fun n=>MA (NH n op s ps it mn nm pr z fu ki lf co mp) (K n)) P:=by
 have h:Wp (fun n=>Zs n ps) fun l=>∀y∈l,∃s,y=D.str s:=by
  unfold Zs
  have e:Wp (fun n=>Bs (Iq ps=true) (DH 16 [] ps fun l2=>some l2)) fun l=>∀y∈l,∃s,y=D.str s:=wN (by
   refine List.all_eq_true.2 fun x hx=>?_
   obtain⟨s,rfl,_⟩:=uP (hp.2 _ hx)
   rfl) (wA (ap (by simp;omega) (by omega)) (wS fun y hy=>by
    obtain⟨s,rfl,_⟩:=uP (hp.2 _ (by simpa using hy))
    exact⟨s,rfl⟩))
  refine Eq.mpr ?_ e
  congr 1
  funext n
  exact jV fun e=>by subst e;rfl
 unfold NH
 exact c13 (Q:=fun op' i it' mn' nm' pr' z' fu' ki' lf' co' mp' ps'=>(op',it',mn',nm',pr',z',fu',ki',lf',co',mp')=(op,it,mn,nm,pr,z,fu,ki,lf,co,mp)∧∀y∈ps',∃s,y=D.str s) (wF hm (fun vs ⟨z,e⟩=>by subst e;exact dZ (c1 h fun l hl=>wS ⟨rfl,hl⟩)) (c1 h fun l hl=>wS ⟨rfl,hl⟩)) fun _ i _ _ _ _ _ _ _ _ _ _ ps' ⟨e,h⟩=>by
  simp_all
end
end
end Go.Proofs.YtjfmnfncmfepnaaGreatDoor
end
set_option linter.unusedVariables false
noncomputable section
namespace Go.Proofs.YtjfmnfncmfepnaaGreatDoor
open Go Go.AM
section
variable {γ:Type}{P:γ→Prop}
def TQ (l:List D):Prop:=∀x∈l,∃k v:Int,x= .agg [.int .u8 k,.int .u8 v]∧0≤v∧v≤255
theorem PG {k v:Int}{l:List D}{K:Nat→List D→Option γ}(h:TQ l) (h1:∀r,TQ r→Wp (fun n=>K n r) P) (hv:0≤v∧v≤255:=by omega):Wp (fun n=>CO (.int .u8 k) [.int .u8 v] l (K n)) P:=by
 have:∀{l:List D},TQ l→∃r,Kb (.int .u8 k) [.int .u8 v] l=some r∧TQ r:=fun {l} h=>by
  induction l with
  | nil=>exact⟨_,rfl,fun x hx=>by grind⟩
  | cons x l ih=>
   obtain⟨a,b,rfl,hb⟩:=h x (List.mem_cons_self ..)
   have ht:TQ l:=fun y hy=>h y (List.mem_cons_of_mem _ hy)
   obtain⟨r,h2,h3⟩:=ih ht
   unfold Kb
   simp only[YE,decide_true]
   split
   ·exact⟨_,rfl,fun y hy=>by
     rcases List.mem_cons.1 hy with rfl | hy
     ·grind
     ·exact ht y hy⟩
   ·rw[h2]
    exact⟨_,rfl,fun y hy=>by
     rcases List.mem_cons.1 hy with rfl | hy
     ·grind
     ·exact h3 y hy⟩
   ·rename_i e;cases e
 obtain⟨r,h2,h3⟩:=this h
 simp only[CO,h2]
 exact h1 r h3
theorem wFI {k:Int}{l:List D}{K:Nat→Int→Option γ}{K0:Nat→Option γ}(h:TQ l) (h1:∀v,0≤v∧v≤255→Wp (fun n=>K n v) P) (h0:Wp K0 P):Wp (fun n=>findF false (.int .u8 k) l (fun x=>KO x (K n)) (K0 n)) P:=by
 induction l with
 | nil=>exact h0
 | cons x l ih=>
  obtain⟨a,b,rfl,hb⟩:=h x (List.mem_cons_self ..)
  have ih:=ih fun y hy=>h y (List.mem_cons_of_mem _ hy)
  simp only[findF]at ih ⊢
  unfold GC
  simp only[YE,decide_true]
  split
  ·rename_i e
   split at e
   ·cases e;exact h1 _ hb
   ·simp_all
   ·cases e
  ·simp_all
  grind
end
theorem TQ.nil:TQ []:=nx
theorem u8 {a:Int}(h:(Lit.int .u8 a).wf=true):0≤a∧a≤255:=by
 have:IntKind.u8.min≤a∧a≤IntKind.u8.max:=by simpa [Lit.wf] using h
 exact this
theorem t110:Tl rN:=⟨(),⟨38,fun n hn=>by
 obtain⟨m,rfl⟩:∃m,n=m+38:=⟨n - 38,by omega⟩
 rfl⟩,trivial⟩
section
variable {it fu ki lf co mp l6:List D}(hit:AB Ac 56 it) (h6:AB Ac 9 l6) (hn6:l6.length≤1000000000) (hm:Ap Vi mp) (hc:∀x∈co,Cd x) (hn:co.length+1≤1000000000) (mn pr z:Int) (nm:ByteArray) (z1 z2:Int) (s3 s4 s5:ByteArray) (l7:List D) (z8:Int)
include hit h6 hn6 hm hc hn
theorem o1 {op a b c v:Int}{s:ByteArray}(ho:0≤op∧op≤255):DJ (fun n=>BW (B7 n op a b c v s it mn nm pr z fu ki lf co mp) fun _ a1 a2 a3 a4 a5 a6 a7 a8 a9 a10=>some (a1,a2,a3,a4,a5,a6,a7,a8,a9,a10)) (Se it mn nm pr fu ki lf co 1):=
 p1 (Cx.refl hc) hn (fun co' h h2=>mU hm h (by omega)) ho
theorem t158:DJ (fun n=>mG n z1 z2 s3 s4 s5 l6 l7 z8 it mn nm pr z fu ki lf co mp) (Se it mn nm pr fu ki lf co 1):=by
 have h:∀v,DJ (fun n=>NI n z2 it mn nm pr z fu ki lf co mp v) (Se it mn nm pr fu ki lf co 1):=fun v=>wU (by
  simp only[NI]
  exact wT (o1 hit h6 hn6 hm hc hn mn pr z nm (by omega)))
 unfold mG
 exact PG .nil fun _ h1=>PG h1 fun _ h1=>PG h1 fun _ h1=>wFI h1 (fun v _=>h v) (h 0)
theorem o2 {op:Int}(ho:0≤op∧op≤255):DJ (fun n=>MA (NH n op s5 l6 it mn nm pr z fu ki lf co mp) fun z25 z26 l27 z28 s29 z30 z31 l32 l33 l34 l35 l36 l37=>BW (Zu n z25 z26 (0:Int) (0:Int) (0:Int) ByteArray.empty l27 z28 s29 z30 z31 l32 l33 l34 l35 l36 ([]:List D) l37 ([]:List D)) fun z38 l39 z40 s41 z42 z43 l44 l45 l46 l47 l48=>some (l39,z40,s41,z42,z43,l44,l45,l46,l47,l48)) (Se it mn nm pr fu ki lf co 1):=
 Xg hm h6 hn6 fun i ps h=>uU (Cx.refl hc) hn nx h (fun co' h h2=>mU hm h (by omega)) ho
theorem t159:DJ (fun n=>mH n z1 z2 s3 s4 s5 l6 l7 z8 it mn nm pr z fu ki lf co mp) (Se it mn nm pr fu ki lf co 1):=by
 have h:∀v,0≤v∧v≤255→DJ (fun n=>NJ n s5 l6 it mn nm pr z fu ki lf co mp v) (Se it mn nm pr fu ki lf co 1):=fun v hv=>wU (by
  simp only[NJ]
  exact o2 hit h6 hn6 hm hc hn mn pr z nm s5 hv)
 unfold mH
 exact PG .nil fun _ h1=>PG h1 fun _ h1=>PG h1 fun _ h1=>wFI h1 h (h 0 (by omega))
theorem t160:DJ (fun n=>mI n z1 z2 s3 s4 s5 l6 l7 z8 it mn nm pr z fu ki lf co mp) (Se it mn nm pr fu ki lf co 1):=by
 unfold mI
 exact wT (o1 hit h6 hn6 hm hc hn mn pr z nm (by omega))
theorem t161:DJ (fun n=>mJ n z1 z2 s3 s4 s5 l6 l7 z8 it mn nm pr z fu ki lf co mp) (Se it mn nm pr fu ki lf co 1):=by
 unfold mJ
 exact wT (o1 hit h6 hn6 hm hc hn mn pr z nm (by omega))
theorem t162:DJ (fun n=>mK n z1 z2 s3 s4 s5 l6 l7 z8 it mn nm pr z fu ki lf co mp) (Se it mn nm pr fu ki lf co 1):=by
 have h3:∀a,DJ (fun n=>NK n l7 mn nm pr z fu ki lf co mp a it) (Se it mn nm pr fu ki lf co 1):=fun a=>wU (by
  simp only[NK]
  exact wL (o1 hit h6 hn6 hm hc hn mn pr z nm (by omega)))
 have h:∀i,i≤it.length→∀a,DJ (fun n=>J3 n s3 l7 it mn nm pr z fu ki lf co mp it.length a i it) (Se it mn nm pr fu ki lf co 1):=Al _ fun i hi ih a=>wU (by
  have:=hit.le
  simp only[J3]
  refine wI (fun h=>oM hit (by omega) fun k s _ _ _ _ _ _ _ _ _ _ _ _ _ _ _ _ _ _ _ _ _ _ _ _ _ _ _ _ _ _ _ _=>?_) fun _=>h3 a
  have h2:DJ (fun n=>NL n s3 l7 it mn nm pr z fu ki lf co mp it.length a i it k) (Se it mn nm pr fu ki lf co 1):=wU (by
   simp only[NL]
   exact wI (fun _=>wT (wi (by omega) (ih (by omega) _))) fun _=>wi (by omega) (ih (by omega) _))
  exact wI (fun _=>wI (fun _=>h3 a) fun _=>h2) fun _=>h2)
 unfold mK
 exact wL (h 0 (Nat.zero_le _) 0)
omit h6 hn6 hm hc hn in
theorem zA {γ:Type}{P:γ→Prop}{K:Nat→List D→List D→Int→ByteArray→Int→Int→List D→List D→List D→List D→List D→Option γ}(hk:∀l,AB Ac 58 l→l.length≤AU it→Wp (fun n=>K n l it mn nm pr z fu ki lf co mp) P):Wp (fun n=>BW (Zt n z1 s3 it mn nm pr z fu ki lf co mp) (K n)) P:=by
 let Q:List D→List D→Int→ByteArray→Int→Int→List D→List D→List D→List D→List D→Prop:=fun l it' mn' nm' pr' z' fu' ki' lf' co' mp'=>(it',mn',nm',pr',z',fu',ki',lf',co',mp')=(it,mn,nm,pr,z,fu,ki,lf,co,mp)∧AB Ac 58 l∧l.length≤AU it
 have h:∀i,i≤it.length→uR (fun n=>J2 n z1 s3 it mn nm pr z fu ki lf co mp it.length i it) Q:=Al _ fun i hi ih=>wU (by
  have:=hit.le
  simp only[J2]
  have hd:=BN it i
  exact wI (fun h=>oM hit (by omega) fun k s l3 _ _ _ _ _ _ _ _ _ _ _ _ _ hx hw _ _ hl _ _ _ _ _ _ _ _ _ _ _ _ _=>wI (fun _=>wI (fun _=>wS ⟨rfl,hl,by
   have:l3.length≤AU l3:=by
    replace hl:=hl.2
    clear hw hx
    induction l3 with
    | nil=>exact Nat.le_refl _
    | cons y l ih=>
     obtain⟨_,_,_,_,rfl,_⟩:=kD (hl y (List.mem_cons_self ..))
     have:=ih fun y hy=>hl y (List.mem_cons_of_mem _ hy)
     simp only[AU,wt,List.length_cons];omega
   dsimp only
   omega⟩) fun _=>wi (by omega) (ih (by omega))) fun _=>wi (by omega) (ih (by omega))) fun _=>wS ⟨rfl,.nil,Nat.zero_le _⟩)
 unfold Zt
 exact rA (wL (h 0 (Nat.zero_le _))) fun l _ _ _ _ _ _ _ _ _ _ ⟨e,h,h2⟩=>by
  simp_all
theorem t163:DJ (fun n=>mM n z1 z2 s3 s4 s5 l6 l7 z8 it mn nm pr z fu ki lf co mp) (Se it mn nm pr fu ki lf co 1):=by
 unfold mM
 refine wI (fun _=>wL (o1 hit h6 hn6 hm hc hn mn pr z nm (by omega))) fun _=>zA hit mn pr z nm _ _ fun l hl _=>?_
 have h:Tl fun n=>mL n l z1 z2 s3 s4 s5 l6 l7 z8:=by
  have h:∀i,i≤l.length→∀a1 a2 a3 a4 a5 a6 a7 a8,Tl fun n=>NM n l l.length i a1 a2 a3 a4 a5 a6 a7 a8:=Al _ fun i hi ih a1 a2 a3 a4 a5 a6 a7 a8=>wU (by
   have:=hl.le
   simp only[NM,uB]
   exact wI (fun h=>XF hl (by omega) fun _ _ _ _ _ _ _ _ _ _=>u9 (wI (fun _=>wS trivial) fun _=>wS trivial) fun _ _ _ _ _ _ _ _ _=>wI (fun _=>wS trivial) fun _=>wi (by omega) (ih (by omega) _ _ _ _ _ _ _ _)) fun _=>wS trivial)
  unfold mL
  exact wL (h 0 (Nat.zero_le _) _ _ _ _ _ _ _ _)
 exact u9 h fun _ _ _ _ _ _ _ _ _=>wL (o1 hit h6 hn6 hm hc hn mn pr z nm (by omega))
theorem t164:DJ (fun n=>mN n z1 z2 s3 s4 s5 l6 l7 z8 it mn nm pr z fu ki lf co mp) (Se it mn nm pr fu ki lf co 1):=by
 have h:∀v,DJ (fun n=>NN n it mn nm pr z fu ki lf co mp v) (Se it mn nm pr fu ki lf co 1):=fun v=>wU (by
  simp only[NN]
  exact wT (o1 hit h6 hn6 hm hc hn mn pr z nm (by omega)))
 unfold mN
 exact PG .nil fun _ h1=>PG h1 fun _ h1=>PG h1 fun _ h1=>PG h1 fun _ h1=>PG h1 fun _ h1=>PG h1 fun _ h1=>wFI h1 (fun v _=>h v) (h 0)
theorem t165:DJ (fun n=>mO n z1 z2 s3 s4 s5 l6 l7 z8 it mn nm pr z fu ki lf co mp) (Se it mn nm pr fu ki lf co 1):=by
 have h:∀v,DJ (fun n=>NP n it mn nm pr z fu ki lf co mp v) (Se it mn nm pr fu ki lf co 1):=fun v=>wU (by
  simp only[NP]
  exact wT (o1 hit h6 hn6 hm hc hn mn pr z nm (by omega)))
 unfold mO
 exact wI (fun _=>h _) fun _=>h _
theorem t166:DJ (fun n=>mP n z1 z2 s3 s4 s5 l6 l7 z8 it mn nm pr z fu ki lf co mp) (Se it mn nm pr fu ki lf co 1):=by
 have h:∀v,0≤v∧v≤255→∀b,DJ (fun n=>NQ n s5 l6 it mn nm pr z fu ki lf co mp v b) (Se it mn nm pr fu ki lf co 1):=fun v hv b=>wU (by
  simp only[NQ]
  exact wI (fun _=>o2 hit h6 hn6 hm hc hn mn pr z nm s5 hv) fun _=>mU hm (Cx.refl hc) (by omega))
 unfold mP
 exact PG .nil fun _ h1=>PG h1 fun _ h1=>PG h1 fun _ h1=>PG h1 fun _ h1=>PG h1 fun _ h1=>PG h1 fun _ h1=>PG h1 fun _ h1=>PG h1 fun _ h1=>wFI h1 (fun v hv=>h v hv _) (h 0 (by omega) _)
end
end Go.Proofs.YtjfmnfncmfepnaaGreatDoor
end
set_option linter.unusedVariables false
noncomputable section
namespace Go.Proofs.YtjfmnfncmfepnaaGreatDoor
open Go Go.AM
theorem Se.tr {it fu ki lf co co1:List D}{mn pr:Int}{nm:ByteArray}{w w1:Nat}(h:Cx co co1) (hl:co1.length+w1≤co.length+w) {a1 a2 a3 a4 a5 a6 a7 a8 a9 a10}(hs:Se it mn nm pr fu ki lf co1 w1 a1 a2 a3 a4 a5 a6 a7 a8 a9 a10):Se it mn nm pr fu ki lf co w a1 a2 a3 a4 a5 a6 a7 a8 a9 a10:=by
 obtain⟨h1,h2,h3,h4,h5,h6,h7,h8,h9,h10⟩:=hs
 exact⟨h1,h2,h3,h4,h5,h6,h7,h8,h.trans h9,by omega⟩
theorem zB:∀k,k<37→Ej [0,24,25,28,32,33,34,35,36] k=true∨Ej [1,2,3] k=true∨Ej [4,5,6] k=true∨Ej [7,8] k=true∨Ej [9,10,11,12,13,14,15,16,17] k=true∨Ej [18] k=true∨Ej [19,20] k=true∨Ej [21,23,26,27,29,31] k=true∨Ej [22,30] k=true:=by decide
section
variable {it fu ki lf:List D}(hit:AB Ac 56 it) (mn pr:Int) (nm:ByteArray)
include hit
theorem AGv (l:List D):AB Ac 54 l→∀{z1:Int},0≤z1∧z1≤255→∀(z2:Int) (s3 s4 s5:ByteArray) {l6:List D},AB Ac 9 l6→∀(z8:Int),∀i,i≤l.length→∀z {mp co:List D},Ap Vi mp→(∀x∈co,Cd x)→co.length+AU l6+AU (l.drop i)+1≤1000000000→
  DJ (fun n=>TO n z1 z2 s3 s4 s5 l6 l z8 l.length i it mn nm pr z mp l fu ki lf co) (Se it mn nm pr fu ki lf co (AU (l.drop i)+1)):=by
 induction l using Hw with | H l IH
 intro hl z1 hz1 z2 s3 s4 s5 l6 h6 z8
 refine Al _ fun i hi ih z mp co hm hc hn=>wU ?_
 have:=hl.le
 have hd:=BN l i
 have hn6:=EM h6
 simp only[TO]
 refine wI (fun h=>Uh hl (by omega) fun k y2 t3 t4 t5 p q y8 hx hw hk _ _ _ _ hp hq _=>Nc (w:=AU q+1) (wU ?_) (Cx.refl hc) fun z mp co' hm hc' hl'=>wi (by omega) (wM (ih (by omega) z hm hc'.1 (by omega)) fun r hr=>hr.tr hc' (by omega))) fun h=>?_
 ·simp only[pG]
  exact wL (by simpa using IH q (by omega) hq (u8 hk) y2 t3 t4 t5 hp y8 0 (Nat.zero_le _) z hm hc (by simp;omega))
 ·refine c0 t110 fun _=>wW (x:=z1) rfl (by omega) (wI (fun h37=>wN (by omega) ?_) fun _=>mU hm (Cx.refl hc) (by omega))
  have hh:∀{A:Nat→Option _},DJ A (Se it mn nm pr fu ki lf co 1)→DJ (fun n=>BO (A n) fun a1 a2 a3 a4 a5 a6 a7 a8 a9 a10=>some (a1,a2,a3,a4,a5,a6,a7,a8,a9,a10)) (Se it mn nm pr fu ki lf co (AU (l.drop i)+1)):=fun h=>Nc h (Cx.refl hc) fun z mp co' hm hc' hl'=>mU hm hc' (by omega)
  have hN:co.length+1≤1000000000:=by omega
  have h6n:l6.length≤1000000000:=by omega
  exact wI (fun _=>hh (t166 hit h6 h6n hm hc hN _ _ _ _ _ _ _ _ _ _ _)) fun n1=>wI (fun _=>hh (t158 hit h6 h6n hm hc hN _ _ _ _ _ _ _ _ _ _ _)) fun n2=>wI (fun _=>hh (t159 hit h6 h6n hm hc hN _ _ _ _ _ _ _ _ _ _ _)) fun n3=>wI (fun _=>hh (t160 hit h6 h6n hm hc hN _ _ _ _ _ _ _ _ _ _ _)) fun n4=>wI (fun _=>hh (t161 hit h6 h6n hm hc hN _ _ _ _ _ _ _ _ _ _ _)) fun n5=>wI (fun _=>hh (t162 hit h6 h6n hm hc hN _ _ _ _ _ _ _ _ _ _ _)) fun n6=>wI (fun _=>hh (t163 hit h6 h6n hm hc hN _ _ _ _ _ _ _ _ _ _ _)) fun n7=>wI (fun _=>hh (t164 hit h6 h6n hm hc hN _ _ _ _ _ _ _ _ _ _ _)) fun n8=>wI (fun _=>hh (t165 hit h6 h6n hm hc hN _ _ _ _ _ _ _ _ _ _ _)) fun n9=>by
   rcases zB z1.toNat (by omega)with e | e | e | e | e | e | e | e | e<;>contradiction
theorem t67 {z1:Int}(hz1:(Lit.int .u8 z1).wf=true) (z2:Int) (s3 s4 s5:ByteArray) {l6 l:List D}(h6:AB Ac 9 l6) (hl:AB Ac 54 l) (z8 z:Int) {mp co:List D}(hm:Ap Vi mp) (hc:∀x∈co,Cd x) (hn:co.length+AU l6+AU l+1≤1000000000):
  DJ (fun n=>pG n z1 z2 s3 s4 s5 l6 l z8 it mn nm pr z fu ki lf co mp) (Se it mn nm pr fu ki lf co (AU l+1)):=wU (by
 simp only[pG]
 exact wL (by simpa using AGv hit mn pr nm l hl (u8 hz1) z2 s3 s4 s5 h6 z8 0 (Nat.zero_le _) z hm hc (by simpa using hn)))
omit hit in
theorem t155 (s:ByteArray) (z:Int) {mp co:List D}(hm:Ap Vi mp) (hc:∀x∈co,Cd x) (hn:co.length+2≤1000000000):DJ (fun n=>Qw n s it mn nm pr z fu ki lf co mp) (Se it mn nm pr fu ki lf co 2):=by
 unfold Qw
 exact p65 hm fun i z mp hm=>p1 (Cx.refl hc) (by omega) fun co1 h1 e1=>p1 h1 (by omega) fun co2 h2 e2=>mU hm h2 (by omega)
def Nm (l:List D):Prop:=∀x∈l,∃s,x=D.str s
omit hit in
theorem t68 {l:List D}(h:Nm l) (z:Int) {mp co:List D}(hm:Ap Vi mp) (hc:∀x∈co,Cd x) (hn:co.length+l.length≤1000000000):DJ (fun n=>Xq n l it mn nm pr z fu ki lf co mp) (Se it mn nm pr fu ki lf co l.length):=by
 have a:∀i:Nat,i≤l.length→∀z {mp co:List D},Ap Vi mp→(∀x∈co,Cd x)→co.length+i≤1000000000→DJ (fun n=>FD n l ((i:Int) - 1) it mn nm pr z mp fu ki lf co) (Se it mn nm pr fu ki lf co i):=fun i=>by
  induction i with
  | zero=>exact fun _ z mp co hm hc hn=>wU (by
    simp only[FD]
    exact wI (fun h=>by omega) fun _=>wU (by
     simp only[F7]
     exact wI (fun h=>by cases h) fun _=>mU hm (Cx.refl hc) (by omega)))
  | succ i ih=>exact fun hi z mp co hm hc hn=>wU (by
    simp only[FD]
    refine wI (fun _=>wU ?_) fun h=>by omega
    simp only[F7]
    refine wI (fun _=>wG (by omega) fun x hx=>?_) fun h=>absurd trivial h
    obtain⟨s,rfl⟩:=h x (List.mem_of_getElem? hx)
    refine dS (Nc (w:=1) ?_ (Cx.refl hc) fun z mp co' hm hc' hl'=>wW (x:=(i:Int) - 1) (by omega) (by omega) (wM (ih (by omega) z hm hc'.1 (by omega)) fun r hr=>hr.tr hc' (by omega)))
    unfold V8
    have e:∀a:Int,DJ (fun n=>BW (B7 n (2:Int) a (0:Int) (0:Int) (0:Int) ByteArray.empty it mn nm pr z fu ki lf co mp) fun _ a1 a2 a3 a4 a5 a6 a7 a8 a9 a10=>some (a1,a2,a3,a4,a5,a6,a7,a8,a9,a10)) (Se it mn nm pr fu ki lf co 1):=fun a=>p1 (Cx.refl hc) (by omega) fun co' h h2=>mU hm h (by omega)
    exact wF hm (fun vs ⟨z,e'⟩=>by subst e';exact dZ (e _)) (e _))
 have b:DJ (fun n=>Zv n it mn nm pr z fu ki lf co mp l) (Se it mn nm pr fu ki lf co l.length):=by
  unfold Zv
  exact wL (wW rfl (by omega) (a l.length (Nat.le_refl _) z hm hc hn))
 unfold Xq mQ
 exact c1 (Q:=fun l'=>l'=l) (wS rfl) fun l' e=>by
  subst e
  exact Nc b (Cx.refl hc) fun z mp co' hm hc' hl'=>mU hm hc' hl'.2
theorem mV {γ:Type}{P:γ→Prop}{c0 mp co:List D}{z z1:Int}{K:Nat→List D→Int→ByteArray→Int→Int→List D→List D→List D→List D→List D→Option γ}(i:Nat) (e:z1=i) (hc:Cx c0 co) (hi:i<co.length) (hk:∀co',Cx c0 co'→co'.length=co.length→Wp (fun n=>K n it mn nm pr z mp fu ki lf co') P):Wp (fun n=>BO (VL n z1 it mn nm pr z fu ki lf co mp) (K n)) P:=by
 subst e
 unfold VL
 refine Y6 (Q:=fun it' mn' nm' pr' z' mp' fu' ki' lf' co'=>(it',mn',nm',pr',z',mp',fu',ki',lf')=(it,mn,nm,pr,z,mp,fu,ki,lf)∧Cx c0 co'∧co'.length=co.length) (wL (wN (by omega) (wK (by omega) fun x hx=>?_))) fun _ _ _ _ _ _ _ _ _ _ ⟨e,h,h2⟩=>by
  simp_all
 obtain⟨op,a,b,c,v,s,ks,ps,vs,rfl,h1,h2,h3,h4⟩:=hc.1 x (List.mem_of_getElem? hx)
 simp only[Int.toNat_natCast]at hx
 exact wS ⟨rfl,hc.set (cd ⟨h1,h2⟩ h3 h4) (by simp[hx,kl]),by simp⟩
end
end Go.Proofs.YtjfmnfncmfepnaaGreatDoor
end
set_option linter.unusedVariables false
noncomputable section
namespace Go.Proofs.YtjfmnfncmfepnaaGreatDoor
open Go Go.AM
theorem St.tr {it fu ki lf co co1 lf1:List D}{mn pr:Int}{nm:ByteArray}{w w1 k k1 k2:Nat}(ho:Lo lf k1 lf1) (h:Cx co co1) (hl:co1.length+w1≤co.length+w) (hk:k=k1+k2) {a1 a2 a3 a4 a5 a6 a7 a8 a9 a10}(hs:St it mn nm pr fu ki lf1 co1 w1 k2 a1 a2 a3 a4 a5 a6 a7 a8 a9 a10):St it mn nm pr fu ki lf co w k a1 a2 a3 a4 a5 a6 a7 a8 a9 a10:=by
 obtain⟨h1,h2,h3,h4,h5,h6,h7,h8,h9,h10⟩:=hs
 exact⟨h1,h2,h3,h4,h5,h6,ho.trans h7 hk,h8,h.trans h9,by omega⟩
theorem Ff {l:List D}{i:Nat}{x:D}(h:l[i]?=some x):CJ (l.drop i)=sp x+CJ (l.drop (i+1)):=by
 obtain⟨hi,rfl⟩:=List.getElem?_eq_some_iff.1 h
 rw[List.drop_eq_getElem_cons hi,CJ]
theorem JF {l:List D}(h:∀x∈l,∃cs,x=D.agg cs):l.length≤AU l:=by
 induction l with
 | nil=>exact Nat.le_refl _
 | cons x l ih=>
  obtain⟨cs,rfl⟩:=h x (List.mem_cons_self ..)
  have:=ih fun y hy=>h y (List.mem_cons_of_mem _ hy)
  simp only[AU,wt,List.length_cons];omega
section
variable {γ:Type}{P:γ→Prop}
theorem wD {b m:Nat}{z:D}{k:Nat→List D→Option γ}(h1:m≤1000000000) (hb:b≤1000) (h:Wp (fun n=>k n (List.replicate m z)) P):Wp (fun n=>Oa b z (m:Int) (m:Int) (k n)) P:=by
 have:(b:Int)*(m:Int)≤281474976710656:=by
  have:b*m≤1000*1000000000:=Nat.mul_le_mul hb h1
  grind
 simp only[Oa,true_and,if_pos (show 0≤(m:Int)∧(m:Int)≤9223372036854775807∧(b:Int)*m≤281474976710656 from⟨by omega,by omega,this⟩),Int.toNat_natCast]
 exact h
theorem dc {op a b c v:Int}{s:ByteArray}{ks ps vs:List D}{k:Nat→Int→Int→Int→Int→List D→List D→Int→ByteArray→List D→Option γ}(h:Wp (fun n=>k n op a b c ks ps v s vs) P):Wp (fun n=>Ef (.agg [.int .u8 op,.int .i64 a,.int .i64 b,.int .i64 c,.list false 1 ks,.list false 1 ps,.int .i64 v,.str s,.list false 1 vs]) (k n)) P:=h
theorem wQ {l:List D}{i:Nat}{x:D}{k:Nat→List D→Option γ}(h:Wp (fun n=>k n (l.set i x)) P):Wp (fun n=>SE l i x (k n)) P:=h
end
def Bk (it:List D) (mn:Int) (nm:ByteArray) (pr:Int) (fu ki l:List D):Prop:=∀z2 z {mp lf co:List D},Ap Vi mp→(∀x∈co,Cd x)→co.length+8*AU l≤1000000000→lf.length+CJ l≤1000000000→DJ (fun n=>NR n l z2 it mn nm pr z fu ki lf co mp) (St it mn nm pr fu ki lf co (8*AU l) (CJ l))
section
variable {it fu ki:List D}(hit:AB Ac 56 it) (hiw:AU it≤20000) {mn pr:Int}{nm:ByteArray}
include hit hiw
theorem t223 {l14:List D}(h14:AB Ac 96 l14) (hb:∀{j:Nat}{s1 s2:ByteArray}{b:List D},l14[j]?=some (D.agg [.str s1,.str s2,.list true 15 b])→Bk it mn nm pr fu ki b) (z1:Int) (s2 s3:ByteArray) (l4:List D) (z5:Int) (s6:ByteArray) (l7:List D) (z8:Int) (s9:ByteArray) (l10 l11 l12 l13:List D) (z15 z16 z:Int) {mp lf co:List D}(hm:Ap Vi mp) (hc:∀x∈co,Cd x) (hn:co.length+8*AU l14+2≤1000000000) (hf:lf.length+CJ l14≤1000000000):
  DJ (fun n=>mR n z1 s2 s3 l4 z5 s6 l7 z8 s9 l10 l11 l12 l13 l14 z15 z16 it mn nm pr z fu ki lf co mp) (St it mn nm pr fu ki lf co (8*AU l14+2) (CJ l14)):=wU (by
 have hlen:l14.length≤AU l14:=JF fun x hx=>by
  obtain⟨_,_,_,rfl,_⟩:=Wy (h14.2 x hx)
  exact⟨_,rfl⟩
 simp only[mR]
 refine Xg hm .nil (by simp) fun i ps hps=>uU (Cx.refl hc) (by omega) nx hps fun co1 c1 e1=>zA hit _ _ _ _ _ _ fun fs hfs hfl=>wL (wD (by omega) (by omega) (p2 c1 (by omega) (fun y hy=>⟨0,(List.mem_replicate.1 hy).2⟩) fun co2 c2 e2 k2=>wL ?_))
 have main:∀j,j≤l14.length→∀z {mp jm lf co:List D},Ap Vi mp→(∀x∈co,Cd x)→(∀x∈jm,∃i:Nat,x= .int .i64 i∧i<co.length)→jm.length=j→co1.length<co.length→(co.map kl)[co1.length]?=some fs.length→co.length+8*AU (l14.drop j)≤1000000000→lf.length+CJ (l14.drop j)≤1000000000→
   DJ (fun n=>J4 n l14 z16 fs co1.length l14.length j it mn nm pr z mp jm fu ki lf co) (St it mn nm pr fu ki lf co (8*AU (l14.drop j)) (CJ (l14.drop j))):=Al _ fun j hj ih z mp jm lf co hm hc hjm hjl ha hka hn hf=>wU (by
  have:=h14.le
  have:=hfs.le
  simp only[J4]
  refine wI (fun h=>kM h14 (by omega) fun s1 s2 b hx hw _ _ hbl=>wL ?_) fun h=>wL ?_
  ·have hsp:=Ff hx
   simp only[sp]at hsp
   have h2:∀i,i≤fs.length→∀co',Cx co co'→co'.length=co.length→DJ (fun n=>J5 n l14 z16 fs co1.length l14.length j it mn nm pr z mp jm fu ki lf s1 s2 b fs.length fs i co') (St it mn nm pr fu ki lf co (8*AU (l14.drop j)) (CJ (l14.drop j))):=Al _ fun i hi ih2 co' c3 e3=>wU (by
    simp only[J5,Int.toNat_natCast,kO]
    refine wI (fun h=>XF hfs (by omega) fun f1 _ _ _ _ _ _ _ _ _=>wI (fun _=>wK (by omega) fun x hx=>?_) fun _=>wK (by omega) fun x hx=>?_) fun _=>wI (fun _=>?_) fun _=>?_
    ·have hk:=c3.kl ha
     rw[hka,List.getElem?_map,hx]at hk
     obtain⟨op,a,b,c,v,s,ks,ps,vs,rfl,h1,h2,h3,h4⟩:=c3.1 x (List.mem_of_getElem? hx)
     simp only[Option.map_some,kl,Option.some.injEq]at hk
     refine dc (wN (by omega) (wL (wN (by omega) (wK (by omega) fun y hy=>?_))))
     obtain⟨v,rfl⟩:=h3 y (List.mem_of_getElem? hy)
     refine dZ (wi (by omega) (wQ (wQ (ih2 (by omega) _ (c3.set (cd ⟨h1,h2⟩ (fun y hy=>?_) h4) (by simp[hx,kl])) (by simp[e3])))))
     grind
    ·obtain⟨op,a,b,c,v,s,ks,ps,vs,rfl,h1,h2,h3,h4⟩:=c3.1 x (List.mem_of_getElem? hx)
     exact dc (wi (by omega) (wQ (ih2 (by omega) _ (c3.set (cd ⟨h1,h2⟩ h3 h4) (by simp[hx,kl])) (by simp[e3]))))
    ·refine t10 (hb hx z16 z hm c3.1 (by omega) (by omega)) c3 fun z mp lf1 co4 hm o1 c4 e4=>Nc (t68 mn pr nm nx z hm c4.1 (by simp;omega)) c4 fun z mp co5 hm c5 e5=>Zw c5 (by simp at e5;omega) fun co6 c6 e6=>wA (ap (by simp;omega) (by omega)) (wi (by omega) ?_)
     simp at e5
     have:=o1.len
     refine wM (ih (by omega) z hm c6.1 (fun x hx=>?_) (by simp[hjl]) (by omega) (by rw[c6.kl ha,hka]) (by omega) (by omega)) fun r hr=>hr.tr o1 c6 (by omega) hsp
     grind
    ·refine Nc (t155 mn pr nm s2 z hm c3.1 (by omega)) c3 fun z mp co7 hm c7 e7=>wX (t10 (hb hx z16 z hm c7.1 (by omega) (by omega)) c7 fun z mp lf1 co4 hm o1 c4 e4=>Nc (t68 mn pr nm (fun x hx=>⟨_,List.mem_singleton.1 hx⟩) z hm c4.1 (by simp;omega)) c4 fun z mp co5 hm c5 e5=>Zw c5 (by simp at e5;omega) fun co6 c6 e6=>wA (ap (by simp;omega) (by omega)) (wi (by omega) ?_))
     simp at e5
     have:=o1.len
     refine wM (ih (by omega) z hm c6.1 (fun x hx=>?_) (by simp[hjl]) (by omega) (by rw[c6.kl ha,hka]) (by omega) (by omega)) fun r hr=>hr.tr o1 c6 (by omega) hsp
     grind)
   exact h2 0 (Nat.zero_le _) co (Cx.refl hc) rfl
  ·have e0:l14.drop j=[]:=List.drop_eq_nil_of_le (by omega)
   rw[e0]
   have h3:∀i,i≤jm.length→∀z {mp co':List D},Ap Vi mp→Cx co co'→co'.length=co.length→DJ (fun n=>NS n jm jm.length i it mn nm pr z mp fu ki lf co') (St it mn nm pr fu ki lf co (8*AU []) (CJ [])):=Al _ fun i hi ih3 z mp co' hm c3 e3=>wU (by
    simp only[NS,Int.toNat_natCast]
    refine wI (fun h=>wN (by omega) (wK (by omega) fun x hx=>?_)) fun _=>iT Lo.refl hm c3 (by omega)
    obtain⟨k,rfl,hk⟩:=hjm x (List.mem_of_getElem? hx)
    exact dZ (mV hit mn pr nm k rfl c3 (by omega) fun co4 c4 e4=>wi (by omega) (ih3 (by omega) _ hm c4 (by omega))))
   exact h3 0 (Nat.zero_le _) z hm (Cx.refl hc) rfl)
 exact wM (main 0 (Nat.zero_le _) z hm c2.1 nx rfl (by omega) (by simpa using k2) (by simp;omega) (by simpa using hf)) fun r hr=>hr.tr Lo.refl c2 (by simp;omega) (by simp))
end
end Go.Proofs.YtjfmnfncmfepnaaGreatDoor
end
set_option linter.unusedVariables false
noncomputable section
namespace Go.Proofs.YtjfmnfncmfepnaaGreatDoor
open Go Go.AM
def Sn (it:List D) (mn:Int) (nm:ByteArray) (pr:Int) (fu ki lf co:List D) (w k:Nat):List D→Int→ByteArray→Int→Int→List D→List D→List D→List D→List D→List D→Prop:=fun it' mn' nm' pr' _ mp' ns fu' ki' lf' co'=>it'=it∧mn'=mn∧nm'=nm∧pr'=pr∧fu'=fu∧ki'=ki∧Lo lf k lf'∧Ap Vi mp'∧Cx co co'∧Nm ns∧co'.length+ns.length≤co.length+w
def S9 (it:List D) (mn:Int) (nm:ByteArray) (pr:Int) (fu ki lf co:List D) (w k:Nat):((List D×Int×ByteArray×Int×Int×List D×List D×List D×List D×List D×List D) ⊕ (List D×List D×Int×ByteArray×Int×Int×List D×List D×List D×List D×List D))→Prop
 | .inl (a1,a2,a3,a4,a5,a6,ns,a7,a8,a9,a10)=>Sn it mn nm pr fu ki lf co w k a1 a2 a3 a4 a5 a6 ns a7 a8 a9 a10
 | .inr (ns,a1,a2,a3,a4,a5,a6,a7,a8,a9,a10)=>Sn it mn nm pr fu ki lf co w k a1 a2 a3 a4 a5 a6 ns a7 a8 a9 a10
section
variable {γ:Type}{P:γ→Prop}{it fu ki:List D}{mn pr:Int}{nm:ByteArray}
theorem n11 {lf co c0:List D}{w k:Nat}{A:Nat→Option _}{K:Nat→List D→Int→ByteArray→Int→Int→List D→List D→List D→List D→List D→List D→Option γ}(h:uR A (Sn it mn nm pr fu ki lf co w k)) (hc:Cx c0 co) (hk:∀z mp ns lf' co',Ap Vi mp→Lo lf k lf'→Cx c0 co'→Nm ns→co.length≤co'.length∧co'.length+ns.length≤co.length+w→Wp (fun n=>K n it mn nm pr z mp ns fu ki lf' co') P):Wp (fun n=>BW (A n) (K n)) P:=
 rA h fun _ _ _ _ z mp ns _ _ lf' co' ⟨e1,e2,e3,e4,e5,e6,ho,h1,h2,h4,h3⟩=>by
  subst e1;subst e2;subst e3;subst e4;subst e5;subst e6
  exact hk z mp ns lf' co' h1 ho (hc.trans h2) h4 ⟨h2.len,h3⟩
theorem VM {l m:List D}(h:Nm l) (h2:Nm m):Nm (l++m):=fun x hx=>(List.mem_append.1 hx).elim (h x) (h2 x)
theorem AGw {l:List D}(h:Nm l):Iq l=true:=List.all_eq_true.2 fun x hx=>by
 obtain⟨s,rfl⟩:=h x hx
 rfl
theorem bk {l:List D}(h:∀z2 z {mp lf co:List D},Ap Vi mp→(∀x∈co,Cd x)→co.length+8*AU l≤1000000000→lf.length+CJ l≤1000000000→uR (fun n=>uT n l z2 it mn nm pr z fu ki lf co mp) (Sn it mn nm pr fu ki lf co (8*AU l) (CJ l))):Bk it mn nm pr fu ki l:=fun z2 z mp lf co hm hc hn hf=>wU (by
 simp only[NR]
 exact n11 (h z2 z hm hc hn hf) (Cx.refl hc) fun z mp ns lf' co' hm ho h1 h2 h3=>Nc (t68 mn pr nm h2 z hm h1.1 (by omega)) h1 fun z mp co2 hm h4 h5=>iT ho hm h4 (by omega))
variable (hit:AB Ac 56 it) (hiw:AU it≤20000)
include hit hiw
theorem t157 {l4 l10 l11 l12 l13 l14:List D}(h4:AB Ac 9 l4) (h10:AB Ac 9 l10) (h11:AB Ac 54 l11) (h12:AB Ac 90 l12) (h14:AB Ac 96 l14) {z1:Int}{d:Nat}(hw:Wps d z1 l11 l12 l13 l14) (hB:Bk it mn nm pr fu ki l12) (hE:Bk it mn nm pr fu ki l13) (hb:∀{j:Nat}{s1 s2:ByteArray}{b:List D},l14[j]?=some (.agg [.str s1,.str s2,.list true 15 b])→Bk it mn nm pr fu ki b) (hsz:AU l4+AU l12≤20000) (h1n:l10.length≤1000000000) (s2 s3:ByteArray) (z5:Int) (s6:ByteArray) (l7:List D) (z8:Int) (s9:ByteArray) (z15 z16 z:Int) {mp lf co:List D}(hm:Ap Vi mp) (hc:∀x∈co,Cd x) (hn:co.length+AU l11+8*(AU l12+AU l13+AU l14)+6≤1000000000) (hf:lf.length+(if z1=10 then 1 else 0)+CJ l12+CJ l13+CJ l14≤1000000000):
  DJ (fun n=>mS n z1 s2 s3 l4 z5 s6 l7 z8 s9 l10 l11 l12 l13 l14 z15 z16 it mn nm pr z fu ki lf co mp) (St it mn nm pr fu ki lf co (AU l11+8*(AU l12+AU l13+AU l14)+6) ((if z1=10 then 1 else 0)+CJ l12+CJ l13+CJ l14)):=wU (by
 obtain⟨w1,w2,w3,w4,w5,w6,w7,w8⟩:=hw
 simp only[mS]
 refine wI (fun e=>?_) fun n6=>wI (fun e=>?_) fun n7=>wI (fun e=>?_) fun n8=>wI (fun e=>?_) fun n9=>wI (fun e=>?_) fun n10=>wI (fun e=>?_) fun n11=>wI (fun e=>?_) fun n13=>?_
 ·obtain rfl:=w4 (by omega)
  subst e
  exact Zw (Cx.refl hc) (by omega) fun co1 c1 l1=>t10 (hB z16 z hm c1.1 (by omega) (by omega)) c1 fun z mp lf1 co2 hm o1 c2 l2=>Zw c2 (by omega) fun co3 c3 l3=>mV hit mn pr nm co.length rfl c3 (by omega) fun co4 c4 l4=>t10 (hE z16 z hm c4.1 (by omega) (by have:=o1.len;simp at hf;omega)) c4 fun z mp lf2 co5 hm o2 c5 l5=>mV hit mn pr nm co2.length rfl c5 (by omega) fun co6 c6 l6=>iT (o1.trans o2 (by simp[CJ])) hm c6 (by omega)
 ·obtain rfl:=w4 (by omega)
  obtain rfl:=w3 (by omega)
  have:=w1 e
  subst e
  exact wL (Uh (i:=0) h11 (by omega) fun k y2 t3 t4 t5 p q y8 hx hw hk _ _ _ _ hp hq _=>Nc (t67 hit mn pr nm hk y2 t3 t4 t5 hp hq y8 z hm hc (by simp at hw;omega)) (Cx.refl hc) fun z mp co1 hm c1 l1=>Zw c1 (by simp at hw;omega) fun co2 c2 l2=>t10 (hB z16 z hm c2.1 (by simp at hw;omega) (by omega)) c2 fun z mp lf1 co3 hm o1 c3 l3=>p1 c3 (by simp at hw;omega) fun co4 c4 l4=>mV hit mn pr nm co1.length rfl c4 (by omega) fun co5 c5 l5=>iT (Lo.refl.trans o1 (by simp[CJ])) hm c5 (by simp at hw;omega))
 ·obtain rfl:=w2 (by omega) (by omega) (by omega) (by omega) (by omega) (by omega)
  obtain rfl:=w3 (by omega)
  subst e
  exact t10 (t223 hit hiw h14 hb _ _ _ _ _ _ _ _ _ _ _ _ _ _ _ z hm hc (by omega) (by simp at hf;omega)) (Cx.refl hc) fun z mp lf1 co1 hm o1 c1 l1=>iT (Lo.refl.trans o1 (by simp[CJ])) hm c1 (by omega)
 ·obtain rfl:=w4 (by omega)
  obtain rfl:=w3 (by omega)
  subst e
  exact p1 (Cx.refl hc) (by omega) fun co1 c1 l1=>t10 (hB z16 z hm c1.1 (by omega) (by omega)) c1 fun z mp lf1 co2 hm o1 c2 l2=>p1 c2 (by omega) fun co3 c3 l3=>iT (Lo.refl.trans o1 (by simp[CJ])) hm c3 (by omega)
 ·obtain rfl:=w4 (by omega)
  obtain rfl:=w3 (by omega)
  subst e
  simp at hf
  exact wL (wT (wL (p1 (Cx.refl hc) (by omega) fun co1 c1 l1=>wA (ap (by simp;omega) (by omega)) (iT (Lo.refl.trans (Lo.one h4 h12 ⟨_,w6⟩ hsz) (by simp[CJ])) hm c1 (by omega)))))
 ·obtain rfl:=w4 (by omega)
  obtain rfl:=w3 (by omega)
  subst e
  exact p65 hm fun i z mp hm=>p1 (Cx.refl hc) (by omega) fun co1 c1 l1=>Xg hm h10 h1n fun i ps hps=>uU c1 (by omega) nx hps fun co2 c2 l2=>t10 (hB z16 z hm c2.1 (by omega) (by omega)) c2 fun z mp lf1 co3 hm o1 c3 l3=>p1 c3 (by omega) fun co4 c4 l4=>wX (Nc (t68 mn pr nm (fun x hx=>⟨_,List.mem_singleton.1 hx⟩) z hm c4.1 (by simp;omega)) c4 fun z mp co5 hm c5 l5=>iT (Lo.refl.trans o1 (by simp[CJ])) hm c5 (by simp at l5;omega))
 ·obtain rfl:=w4 (by omega)
  obtain rfl:=w3 (by omega)
  subst e
  exact t10 (hB z16 z hm hc (by omega) (by omega)) (Cx.refl hc) fun z mp lf1 co2 hm o1 c2 l2=>iT (Lo.refl.trans o1 (by simp[CJ])) hm c2 (by omega)
 ·obtain rfl:=w4 (by omega)
  obtain rfl:=w3 (by omega)
  obtain rfl:=w2 (by omega) (by omega) (by omega) (by omega) (by omega) (by omega)
  exact iT (Lo.refl.trans Lo.refl (by simp[CJ,n10])) hm (Cx.refl hc) (by omega))
end
end Go.Proofs.YtjfmnfncmfepnaaGreatDoor
end
set_option linter.unusedVariables false
noncomputable section
namespace Go.Proofs.YtjfmnfncmfepnaaGreatDoor
open Go Go.AM
section
variable {it fu ki lf co:List D}{mn pr z:Int}{nm:ByteArray}{w k:Nat}
theorem Sn.tr {co1 lf1:List D}{w1 k1 k2:Nat}(ho:Lo lf k1 lf1) (h:Cx co co1) (hl:co1.length+w1≤co.length+w) (hk:k=k1+k2) {a1 a2 a3 a4 a5 a6 ns a7 a8 a9 a10}(hs:Sn it mn nm pr fu ki lf1 co1 w1 k2 a1 a2 a3 a4 a5 a6 ns a7 a8 a9 a10):Sn it mn nm pr fu ki lf co w k a1 a2 a3 a4 a5 a6 ns a7 a8 a9 a10:=by
 obtain⟨h1,h2,h3,h4,h5,h6,h7,h8,h9,h10,h11⟩:=hs
 exact⟨h1,h2,h3,h4,h5,h6,ho.trans h7 hk,h8,h.trans h9,h10,by omega⟩
theorem S9.tr {co1:List D}{w1:Nat}(h:Cx co co1) (hl:co1.length+w1≤co.length+w) {r}(hs:S9 it mn nm pr fu ki lf co1 w1 k r):S9 it mn nm pr fu ki lf co w k r:=by
 rcases r with r | r
 ·exact Sn.tr (a5:=0) Lo.refl h hl (by omega) hs
 ·exact Sn.tr (a5:=0) Lo.refl h hl (by omega) hs
theorem uV {mp ns lf' co':List D}(ho:Lo lf k lf') (hm:Ap Vi mp) (hc:Cx co co') (h:Nm ns) (hl:co'.length+ns.length≤co.length+w):Wp (fun _=>some (.inl (it,mn,nm,pr,z,mp,ns,fu,ki,lf',co'))) (S9 it mn nm pr fu ki lf co w k):=wS ⟨rfl,rfl,rfl,rfl,rfl,rfl,ho,hm,hc,h,hl⟩
end
section
variable {it fu ki:List D}{mn pr:Int}{nm:ByteArray}(hit:AB Ac 56 it) (hiw:AU it≤20000)
include hit hiw
theorem t109 {l4 l10 l11 l12 l13 l14:List D}(h4:AB Ac 9 l4) (h10:AB Ac 9 l10) (h11:AB Ac 54 l11) (h12:AB Ac 90 l12) (h14:AB Ac 96 l14) {z1:Int}{d:Nat}(hw:Wps d z1 l11 l12 l13 l14) (hB:Bk it mn nm pr fu ki l12) (hE:Bk it mn nm pr fu ki l13) (hb:∀{j:Nat}{s1 s2:ByteArray}{b:List D},l14[j]?=some (.agg [.str s1,.str s2,.list true 15 b])→Bk it mn nm pr fu ki b) (hsz:AU l4+AU l12≤20000) (h1n:l10.length≤1000000000) (s2 s3:ByteArray) (z5:Int) (s6:ByteArray) (l7:List D) (z8:Int) (s9:ByteArray) (z15 z16 z:Int) {mp lf co:List D}(hm:Ap Vi mp) (hc:∀x∈co,Cd x) (hn:co.length+2*AU l11+8*(AU l4+AU l12+AU l13+AU l14)+8≤1000000000) (hf:lf.length+(if z1=10 then 1 else 0)+CJ l12+CJ l13+CJ l14≤1000000000):
  Wp (fun n=>mT n z1 s2 s3 l4 z5 s6 l7 z8 s9 l10 l11 l12 l13 l14 z15 z16 it mn nm pr z fu ki lf co mp) (S9 it mn nm pr fu ki lf co (2*AU l11+8*(AU l4+AU l12+AU l13+AU l14)+8) ((if z1=10 then 1 else 0)+CJ l12+CJ l13+CJ l14)):=wU (by
 simp only[mT]
 have a:∀i,i≤l11.length→∀z {mp co:List D},Ap Vi mp→(∀x∈co,Cd x)→co.length+AU (l11.drop i)+AU l11+8*(AU l4+AU l12+AU l13+AU l14)+8≤1000000000→
   Wp (fun n=>J6 n z1 s2 s3 l4 z5 s6 l7 z8 s9 l10 l11 l12 l13 l14 z15 z16 l11.length i it mn nm pr z mp l11 fu ki lf co) (S9 it mn nm pr fu ki lf co (AU (l11.drop i)+AU l11+8*(AU l4+AU l12+AU l13+AU l14)+8) ((if z1=10 then 1 else 0)+CJ l12+CJ l13+CJ l14)):=Al _ fun i hi ih z mp co hm hc hn=>wU (by
  have:=h11.le
  simp only[J6]
  refine wI (fun h=>Uh h11 (by omega) fun y1 y2 t3 t4 t5 p q y8 hx hw hy1 _ _ _ _ hp hq _=>wI (fun _=>wi (by omega) (wM (ih (by omega) z hm hc (by omega)) fun r hr=>hr.tr (Cx.refl hc) (by omega))) fun _=>Nc (t67 hit mn pr nm hy1 y2 t3 t4 t5 hp hq y8 z hm hc (by omega)) (Cx.refl hc) fun z mp co1 hm c1 l1=>wi (by omega) (wM (ih (by omega) z hm c1.1 (by omega)) fun r hr=>hr.tr c1 (by omega))) fun _=>?_
  have k0:∀{j:Int},z1=j→j≠6∧j≠7∧j≠8∧j≠9∧j≠10∧j≠11∧j≠13→(if z1=10 then 1 else 0)+CJ l12+CJ l13+CJ l14=0:=fun e h=>by
   rw[hw.2.1 (by omega) (by omega) (by omega) (by omega) (by omega) (by omega),hw.2.2.1 (by omega),hw.2.2.2.1 (by omega),if_neg (by omega)]
   rfl
  refine wI (fun e=>?_) fun n1=>wI (fun e=>?_) fun n2=>wI (fun e=>?_) fun n3=>wI (fun e=>?_) fun n4=>wI (fun e=>?_) fun n5=>wI (fun e=>?_) fun n12=>?_
  ·rw[k0 e (by decide)]
   exact Nc (t155 mn pr nm s2 z hm hc (by omega)) (Cx.refl hc) fun z mp co1 hm c1 l1=>wX (uV Lo.refl hm c1 (fun x hx=>⟨_,List.mem_singleton.1 hx⟩) (by simp;omega))
  ·rw[k0 e (by decide)]
   have e4:=EM h4
   refine wL (p1 (Cx.refl hc) (by omega) fun co1 c1 l1=>wL ?_)
   have b:∀j,j≤l4.length→∀z {mp co':List D},Ap Vi mp→Cx co co'→co'.length+2*(l4.length - j)≤co.length+1+2*l4.length→Wp (fun n=>NT n l4 l4.length j it mn nm pr z mp z1 l4 fu ki lf co') (S9 it mn nm pr fu ki lf co (AU (l11.drop i)+AU l11+8*(AU l4+AU l12+AU l13+AU l14)+8) 0):=Al _ fun j hj ih2 z mp co' hm c2 h2=>wU (by
    have:=h4.le
    simp only[NT]
    exact wI (fun h=>gs h4 (by omega) fun s _ _ _=>Nc (t155 mn pr nm s z hm c2.1 (by omega)) c2 fun z mp co3 hm c3 l3=>wi (by omega) (ih2 (by omega) z hm c3 (by omega))) fun _=>wS ⟨rfl,rfl,rfl,rfl,rfl,rfl,Lo.refl,hm,c2,fun x hx=>by
     obtain⟨s,rfl,_⟩:=uP (h4.2 x hx)
     exact⟨s,rfl⟩,by omega⟩)
   exact b 0 (Nat.zero_le _) z hm c1 (by omega)
  ·rw[k0 e (by decide)]
   exact Xg hm h10 h1n fun i ps hps=>uU (Cx.refl hc) (by omega) nx hps fun co1 c1 l1=>Xg hm h10 h1n fun i ps hps=>uU c1 (by omega) nx hps fun co2 c2 l2=>uV Lo.refl hm c2 nx (by simp;omega)
  ·rw[k0 e (by decide)]
   exact Nc (t155 mn pr nm _ z hm hc (by omega)) (Cx.refl hc) fun z mp co1 hm c1 l1=>wX (Nc (t68 mn pr nm (fun x hx=>⟨_,List.mem_singleton.1 hx⟩) z hm c1.1 (by simp;omega)) c1 fun z mp co2 hm c2 l2=>uV Lo.refl hm c2 nx (by simp at l2 ⊢;omega))
  ·rw[k0 e (by decide)]
   exact Xg hm .nil (by simp) fun i ps hps=>uU (Cx.refl hc) (by omega) nx hps fun co1 c1 l1=>uV Lo.refl hm c1 nx (by simp;omega)
  ·rw[k0 e (by decide)]
   exact p1 (Cx.refl hc) (by omega) fun co1 c1 l1=>Nc (t155 mn pr nm s3 z hm c1.1 (by omega)) c1 fun z mp co2 hm c2 l2=>Nc (t155 mn pr nm s2 z hm c2.1 (by omega)) c2 fun z mp co3 hm c3 l3=>wX (uV Lo.refl hm c3 (fun x hx=>by grind) (by simp;omega))
  ·exact t10 (t157 hit hiw h4 h10 h11 h12 h14 hw hB hE hb hsz h1n s2 s3 z5 s6 l7 z8 s9 z15 z16 z hm hc (by omega) hf) (Cx.refl hc) fun z mp lf1 co1 hm o1 c1 l1=>uV o1 hm c1 nx (by simp;omega))
 exact wL (wM (a 0 (Nat.zero_le _) z hm hc (by simp;omega)) fun r hr=>hr.tr (Cx.refl hc) (by simp;omega)))
theorem t66 (l:List D):AB Ac 90 l→∀{d:Nat},DN d l→AU l≤20000→∀z2 z {mp lf co:List D},Ap Vi mp→(∀x∈co,Cd x)→co.length+8*AU l≤1000000000→lf.length+CJ l≤1000000000→uR (fun n=>uT n l z2 it mn nm pr z fu ki lf co mp) (Sn it mn nm pr fu ki lf co (8*AU l) (CJ l)):=by
 induction l using Hw with | H l IH
 intro hl d hd hsz z2 z mp lf co hm hc hn hf
 have a:∀i,i≤l.length→∀z {mp ns lf co:List D},Ap Vi mp→Nm ns→(∀x∈co,Cd x)→co.length+ns.length+8*AU (l.drop i)≤1000000000→lf.length+CJ (l.drop i)≤1000000000→uR (fun n=>PF n l z2 l.length i it mn nm pr z mp ns fu ki lf co) (Sn it mn nm pr fu ki lf co (ns.length+8*AU (l.drop i)) (CJ (l.drop i))):=Al _ fun i hi ih z mp ns lf co hm hns hc hn hf=>wU (by
  have:=hl.le
  have hdi:=BN l i
  simp only[PF]
  refine wI (fun h=>rB hl (by omega) fun op s1 s2 nl k s3 ty y s4 pa ex body els arms y2 hx hw _ _ _ hnl _ _ _ _ _ hpa hex hbo hel har _=>?_) fun h=>wS ⟨rfl,rfl,rfl,rfl,rfl,rfl,by rw[List.drop_eq_nil_of_le (by omega)];exact Lo.refl,hm,Cx.refl hc,hns,by dsimp only;omega⟩
  have hsp:=Ff hx
  simp only[sp]at hsp
  obtain⟨_,hps⟩:=Qu hd hx
  have hbk:∀{b:List D} {d:Nat},AB Ac 90 b→DN d b→AU b<AU l→Bk it mn nm pr fu ki b:=fun hb hd hlt=>bk (IH _ hlt hb hd (by omega))
  have hpn:=EM hpa
  refine kL (t109 hit hiw hnl hpa hex hbo har hps (hbk hbo hps.2.2.2.2.2.1 (by omega)) (hbk hel hps.2.2.2.2.2.2.1 (by omega)) (fun {j t1 t2 b} hj=>?_) (by omega) (by omega) s1 s2 k s3 ty y s4 y2 z2 z hm hc (by omega) (by omega)) (fun p hp=>?_) fun p hp=>?_
  ·have hwa:=Bz hj
   have hda:=BN arms j
   simp only[wt,AU]at hwa
   obtain⟨_,_,b',e,_,_,hb⟩:=Wy (har.mem hj)
   cases e
   exact hbk hb (Qv hps.2.2.2.2.2.2.2 hj) (by omega)
  ·obtain⟨a1,a2,a3,a4,a5,a6,n2,a7,a8,a9,a10⟩:=p
   refine n11 (A:=fun _=>some _) (wS hp) (Cx.refl hc) fun z mp n3 lf1 co1 hm o1 c1 h3 l1=>wA (ap (by omega) (by omega)) (wi (by omega) (wM (ih (by omega) z hm (VM hns h3) c1.1 (by simp;omega) (by have:=o1.len;omega)) fun r hr=>hr.tr o1 c1 (by simp;omega) hsp))
  ·obtain⟨n2,a1,a2,a3,a4,a5,a6,a7,a8,a9,a10⟩:=p
   obtain⟨e1,e2,e3,e4,e5,e6,o1,hm,c1,h3,l1⟩:=hp
   subst e1;subst e2;subst e3;subst e4;subst e5;subst e6
   have:=c1.len
   exact wN (AGw h3) (wA (ap (by dsimp only;omega) (by omega)) (wi (by omega) (wM (ih (by omega) _ hm (VM hns h3) c1.1 (by grind) (by have:=o1.len;dsimp only;omega)) fun r hr=>hr.tr o1 c1 (by grind) hsp))))
 refine wU ?_
 simp only[uT]
 exact wL (by simpa using a 0 (Nat.zero_le _) z hm nx hc (by simpa using hn) (by simpa using hf))
end
end Go.Proofs.YtjfmnfncmfepnaaGreatDoor
end
set_option linter.unusedVariables false
noncomputable section
namespace Go.Proofs.YtjfmnfncmfepnaaGreatDoor
open Go Go.AM
mutual
def TR:Nat->Int->BA->LD->Int->Int->LD->LD->Option (Int×BA×LD)
 | 0,_,_,_,_,_,_,_=>none
 | n+1,b,c,a,d,e,o,m=>
  (if e<d then An a e fun p=>Fx p fun q f g=>EK (zC n q f g) fun h i j=>DH 48 m ([.agg [.int .u8 h,.str i,.list true 3 j]]) fun k=>AW (IntKind.wrap .i64 (e+1)) fun l=>TR n b c a d l o k else some (b,c,m))
def zC:Nat->Int->BA->LD->Option (Int×BA×LD)
 | 0,_,_,_=>none
 | n+1,b,c,a=>
  AP a fun d=>TR n b c a d 0 a ([]:LD)
end
noncomputable def X64:AH:=⟨64,Tryz.f64,true,[.agg [.y,.str,.q 3]],[],[⟨.one (.mix [.y,.str,.ow (.loc 0)]),[],[.l true 3]⟩],Int×BA×LD,ii,zC,.g [.treeS 3 true 3] [] .e,[⟨58,[1,2,3,7,8,9],[.loc 0,.loc 32,.loc 224],256,[.p (.loc 0) 0,.p (.loc 32) 0,.w (.loc 224),.q 3,.z,.z],[.c [.y,.str,.q 3],.c [.ci .u8 0,.cs ByteArray.empty,.nils true 3],.l true 3],fun n a d f h i j k=>TR n h i a d f j k,.b (.n 1 (.g [] [(544,224)] .e)) .e⟩],none,[]⟩
theorem K64:Be Tryz.prog inv (EB [X64]):=gr [] ⟨ge Tryz.func64,trivial⟩
noncomputable def k64:Kz:=⟨X64.c,K64.1⟩
def TS:Nat->Int->BA->LD->Int->Int->LD->LD->Option (Int×BA×LD)
 | 0,_,_,_,_,_,_,_=>none
 | n+1,p,q,r,b,a,d,c=>
  (if a<b then An r a fun e=>Co e fun f g h i=>EK (zC n g h i) fun j k l=>DH 64 c ([.agg [.str f,.int .u8 j,.str k,.list true 3 l]]) fun m=>AW (IntKind.wrap .i64 (a+1)) fun o=>TS n p q r b o d m else some (p,q,c))
def F21 (n:Nat) (c:Int) (d:BA) (a:LD) (l:Int) (m:BA) (o:LD) (p:LD) (q:Int) (r:Int) (e:BA) (f:BA) (g:BA) (h:LD) (i:LD) (j:Int) (k:Int):Option (Int×BA×LD):=
 AP a fun b=>TS n c d a b 0 a ([]:LD)
noncomputable def X21:AH:=⟨21,Tryz.f21,true,[.agg [.y,.str,.q 4,.y,.str,.q 3,.q 15,.y,.z,.str,.str,.str,.f 1,.q 8,.z,.z]],[],[⟨.one (.mix [.y,.str,.ow (.loc 0),.ci .u8 0,.cs ByteArray.empty,.ow (.loc 1),.ow (.loc 2),.ci .u8 0,.k 0,.cs ByteArray.empty,.cs ByteArray.empty,.cs ByteArray.empty,.ow (.loc 3),.ow (.loc 4),.k 0,.k 0]),[],[.l true 4,.te .row true 3,.te .row true 15,.te .row false 1,.te .row true 8]⟩],Int×BA×LD,ii,F21,.g [.treeS 3 true 4] [] .e,[⟨58,[1,2,3,7,8,9],[.loc 0,.loc 32,.loc 224],256,[.p (.loc 0) 0,.p (.loc 32) 0,.w (.loc 224),.q 4,.z,.z],[.c [.y,.str,.q 4,.y,.str,.q 3,.q 15,.y,.z,.str,.str,.str,.f 1,.q 8,.z,.z],.c [.ci .u8 0,.cs ByteArray.empty,.nils true 4,.ci .u8 0,.cs ByteArray.empty,.nils true 3,.nils true 15,.ci .u8 0,.k 0,.cs ByteArray.empty,.cs ByteArray.empty,.cs ByteArray.empty,.nils false 1,.nils true 8,.k 0,.k 0],.l true 4],fun n j a d m o h _ _ _ _ _ _ _ _ _ _ _ _ _ i=>TS n m o j a d h i,.b (.n 0 (.g [] [(672,224)] .e)) (.g [.treeC (.loc 32) 5 true 3,.treeC (.loc 32) 6 true 15,.treeC (.loc 32) 12 false 1,.treeC (.loc 32) 13 true 8] [] .e)⟩],none,[]⟩
noncomputable def k21:Kz:=sg X21 [k64] Tryz.func21
end Go.Proofs.YtjfmnfncmfepnaaGreatDoor
end
set_option linter.unusedVariables false
noncomputable section
namespace Go.Proofs.YtjfmnfncmfepnaaGreatDoor
open Go Go.AM
def Fn (s:ByteArray) (x:D):Prop:=∃(p z:Int) (co:List D),x= .agg [.str s,.int .i64 p,.int .i64 z,.list true 9 co]∧∀y∈co,Cd y
def S22 (s:ByteArray) (it:List D) (mn:Int) (fu ki lf:List D) (k:Nat):List D→Int→ByteArray→Int→Int→List D→List D→List D→List D→Prop:=fun it' mn' _ _ _ fu' ki' lf' _=>it'=it∧mn'=mn∧ki'=ki∧Lo lf k lf'∧∃x,fu'=fu++[x]∧Fn s x
theorem t22 {it fu ki lf l2 l3 l9 l10:List D}{mn:Int}(hit:AB Ac 56 it) (hiw:AU it≤20000) (h2:Nm l2) (h2n:l2.length≤20000) (h3:AB Ac 90 l3) {d:Nat}(hd:DN d l3) (h3n:AU l3≤20000) (h9:AB Ac 9 l9) (h10:AB Ac 54 l10) (h9n:AU l9+AU l10≤20000) {z4:Int}(hz4:(Lit.int .u8 z4).wf=true) (hfu:fu.length+1≤1000000000) (hlf:lf.length+CJ l3≤1000000000) (s1:ByteArray) (z5:Int) (s6 s7 s8:ByteArray) (z11 z12:Int) (s15:ByteArray) (z16 z17:Int):
  W9 (fun n=>yY n s1 l2 l3 z4 z5 s6 s7 s8 l9 l10 z11 z12 it mn s15 z16 z17 fu ki lf) (S22 s1 it mn fu ki lf (CJ l3)):=by
 have a:∀i,i≤l2.length→∀z {mp:List D},Ap Vi mp→W9 (fun n=>TP n l2 l3 z4 z5 s6 s7 s8 l9 l10 z11 z12 l2.length l2 i it mn s1 l2.length z fu ki lf [] mp) (S22 s1 it mn fu ki lf (CJ l3)):=Al _ fun i hi ih z mp hm=>wU (by
  simp only[TP]
  refine wI (fun h=>gi (by omega) fun x hx=>?_) fun _=>n11 (t66 hit hiw l3 h3 hd h3n z12 z hm nx (by simp;omega) hlf) (Cx.refl nx) fun z mp ns lf1 co1 hm o1 c1 hns l1=>Nc (t67 hit mn _ s1 hz4 z5 s6 s7 s8 h9 h10 z11 z hm c1.1 (by simp at l1;omega)) c1 fun z mp co2 hm c2 e2=>Nc (t68 mn _ s1 hns z hm c2.1 (by simp at l1;omega)) c2 fun z mp co3 hm c3 e3=>Nc (t68 mn _ s1 h2 z hm c3.1 (by simp at l1;omega)) c3 fun z mp co4 hm c4 e4=>p1 c4 (by simp at l1;omega) fun co5 c5 e5=>wA (ap (by simp;omega) (by omega)) (wS ⟨rfl,rfl,rfl,o1,_,rfl,_,_,_,rfl,c5.1⟩)
  obtain⟨s,rfl⟩:=h2 x (List.mem_of_getElem? hx)
  exact dS (p65 hm fun _ z mp hm=>wi (by omega) (ih (by omega) z hm)))
 unfold yY
 exact wL (wL (a 0 (Nat.zero_le _) 0 .nil))
theorem t64 (l:List D):AB Ac 48 l→AU l≤20000→∀z s,Tl fun n=>zC n z s l:=by
 induction l using Hw with | H l IH
 intro hl hn z s
 have hlen:l.length≤AU l:=JF fun x hx=>by
  obtain⟨_,_,_,rfl,_⟩:=wJ (hl.2 x hx)
  exact⟨_,rfl⟩
 have a:∀i,i≤l.length→∀{q:List D},q.length=i→Tl fun n=>TR n z s l l.length i l q:=Al _ fun i hi ih q hq=>wU (by
  have hd:=BN l i
  simp only[TR]
  exact wI (fun h=>xI hl (by omega) fun k s m hx hw _ _ hm=>u3 (IH m (by omega) hm (by omega) _ _) fun _ _ _=>wA (ap (by simp;omega) (by omega)) (wi (by omega) (ih (by omega) (by simp[hq])))) fun _=>wS trivial)
 exact wU (by simp only[zC];exact wL (a 0 (Nat.zero_le _) rfl))
theorem t21 {l:List D}(hl:AB Ac 58 l) (hn:AU l≤20000) (z1:Int) (s2:ByteArray) (z4:Int) (s5:ByteArray) (l6 l7:List D) (z8 z9:Int) (s10 s11 s12:ByteArray) (l13 l14:List D) (z15 z16:Int):Tl fun n=>F21 n z1 s2 l z4 s5 l6 l7 z8 z9 s10 s11 s12 l13 l14 z15 z16:=by
 have hlen:l.length≤AU l:=JF fun x hx=>by
  obtain⟨_,_,_,_,rfl,_⟩:=kD (hl.2 x hx)
  exact⟨_,rfl⟩
 have a:∀i,i≤l.length→∀{q:List D},q.length=i→Tl fun n=>TS n z1 s2 l l.length i l q:=Al _ fun i hi ih q hq=>wU (by
  have hd:=BN l i
  simp only[TS]
  exact wI (fun h=>XF hl (by omega) fun _ k s m hx hw _ _ _ hm=>u3 (t64 m hm (by omega) _ _) fun _ _ _=>wA (ap (by simp;omega) (by omega)) (wi (by omega) (ih (by omega) (by simp[hq])))) fun _=>wS trivial)
 unfold F21
 exact wL (a 0 (Nat.zero_le _) rfl)
end Go.Proofs.YtjfmnfncmfepnaaGreatDoor
end
set_option linter.unusedVariables false
noncomputable section
namespace Go.Proofs.YtjfmnfncmfepnaaGreatDoor
open Go Go.AM
def F84 (n:Nat) (z:Int) (r:BA) (A:LD) (B:Int) (C:BA) (E:LD) (F:LD) (G:Int) (H:Int) (s:BA) (t:BA) (u:BA) (v:LD) (w:LD) (x:Int) (y:Int) (b:Int) (a:BA) (c:LD) (d:Int) (e:BA) (f:LD) (g:LD) (h:Int) (i:Int) (j:BA) (k:BA) (l:BA) (m:LD) (o:LD) (p:Int) (q:Int):Option (Bool×Int×BA×LD×Int×BA×LD×LD×Int×Int×BA×BA×BA×LD×LD×Int×Int):=
 (if r=a then some (true,b,a,c,d,e,f,g,h,i,j,k,l,m,o,p,q)else some (false,b,a,c,d,e,f,g,h,i,j,k,l,m,o,p,q))
noncomputable def X84:AH:=⟨84,Tryz.f84,false,[.agg [.y,.str,.q 4,.y,.str,.q 3,.q 15,.y,.z,.str,.str,.str,.f 1,.q 8,.z,.z],.p (.ext 0) 0],[.c [.y,.str,.q 4,.y,.str,.q 3,.q 15,.y,.z,.str,.str,.str,.f 1,.q 8,.z,.z]],[⟨.one (.b),[.c [.y,.str,.q 4,.y,.str,.q 3,.q 15,.y,.z,.str,.str,.str,.f 1,.q 8,.z,.z]],[]⟩],Bool×Int×BA×LD×Int×BA×LD×LD×Int×Int×BA×BA×BA×LD×LD×Int×Int,ii,F84,.e,[],none,[]⟩
noncomputable def k84:Kz:=sg X84 [] Tryz.func84
def NU:Nat->LD->Int->Int->Int->BA->LD->Int->BA->LD->LD->Int->Int->BA->BA->BA->LD->LD->Int->Int->Option (Int×Int×BA×LD×Int×BA×LD×LD×Int×Int×BA×BA×BA×LD×LD×Int×Int)
 | 0,_,_,_,_,_,_,_,_,_,_,_,_,_,_,_,_,_,_,_=>none
 | n+1,l1,b,a,c,d,e,f,g,h,i,j,k,l,m,o,p,q,r,s=>
  (if a<b then An l1 a fun K=>Bo K fun L M N O P Q R S T U V W X Y Z aa=>UK (F84 n L M N O P Q R S T U V W X Y Z aa c d e f g h i j k l m o p q r s) fun ab t u v w x y z A B C E F G H I J=>(if ab=true then some (a,t,u,v,w,x,y,z,A,B,C,E,F,G,H,I,J)else AW (IntKind.wrap .i64 (a+1)) fun ac=>NU n l1 b ac t u v w x y z A B C E F G H I J)else some ((-1),c,d,e,f,g,h,i,j,k,l,m,o,p,q,r,s))
def uC (n:Nat) (j:LD) (k:Int) (l:BA) (m:LD) (o:Int) (p:BA) (q:LD) (r:LD) (s:Int) (a:Int) (b:BA) (c:BA) (d:BA) (e:LD) (f:LD) (g:Int) (h:Int):Option (Int×Int×BA×LD×Int×BA×LD×LD×Int×Int×BA×BA×BA×LD×LD×Int×Int):=
 AP j fun i=>NU n j i 0 k l m o p q r s a b c d e f g h
noncomputable def AGy:AH:=⟨124,Tryz.f124,false,[.q 16,.one (.fn 84 [.ext 0])],[.c [.y,.str,.q 4,.y,.str,.q 3,.q 15,.y,.z,.str,.str,.str,.f 1,.q 8,.z,.z]],[⟨.one (.z),[.c [.y,.str,.q 4,.y,.str,.q 3,.q 15,.y,.z,.str,.str,.str,.f 1,.q 8,.z,.z]],[]⟩],Int×Int×BA×LD×Int×BA×LD×LD×Int×Int×BA×BA×BA×LD×LD×Int×Int,ii,uC,.e,[⟨26,[0,1,4,7,8],[.ext 0],128,[.q 16,.one (.fn 84 [.ext 0]),.k 0,.z,.z],[.c [.y,.str,.q 4,.y,.str,.q 3,.q 15,.y,.z,.str,.str,.str,.f 1,.q 8,.z,.z]],NU,.e⟩],none,[]⟩
noncomputable def AGz:Kz:=sg AGy [k84] Tryz.func124
def zE (n:Nat) (A:LD) (B:Int) (C:BA) (E:LD) (F:Int) (G:BA) (H:LD) (I:LD) (J:Int) (r:Int) (s:BA) (t:BA) (u:BA) (v:LD) (w:LD) (x:Int) (y:Int):Option (Bool×Int×BA×LD×Int×BA×LD×LD×Int×Int×BA×BA×BA×LD×LD×Int×Int):=
 UK (uC n A B C E F G H I J r s t u v w x y) fun z a b c d e f g h i j k l m o p q=>(if 0<=z then some (true,a,b,c,d,e,f,g,h,i,j,k,l,m,o,p,q)else some (false,a,b,c,d,e,f,g,h,i,j,k,l,m,o,p,q))
noncomputable def X85:AH:=⟨85,Tryz.f85,false,[.q 16,.one (.fn 84 [.ext 0])],[.c [.y,.str,.q 4,.y,.str,.q 3,.q 15,.y,.z,.str,.str,.str,.f 1,.q 8,.z,.z]],[⟨.one (.b),[.c [.y,.str,.q 4,.y,.str,.q 3,.q 15,.y,.z,.str,.str,.str,.f 1,.q 8,.z,.z]],[]⟩],Bool×Int×BA×LD×Int×BA×LD×LD×Int×Int×BA×BA×BA×LD×LD×Int×Int,ii,zE,.e,[],none,[]⟩
noncomputable def k85:Kz:=sg X85 [AGz] Tryz.func85
def PH:Nat->LD->Int->LD->Int->Option (Bool)
 | 0,_,_,_,_=>none
 | n+1,p,s,t,a=>
  (if a<s then An t a fun E=>Bo E fun q C r b c d e f g h i j k l m o=>(if q=1 then AP r fun u=>(if 6<u then some false else Gg p 0 a fun v=>UK (zE n v q C r b c d e f g h i j k l m o) fun w F G H I J K L M N O P Q R S T U=>(if w=true then some false else AW (IntKind.wrap .i64 (a+1)) fun x=>PH n p s t x))else (if q=2 then AP r fun y=>(if 6<y then some false else Gg p 0 a fun z=>UK (zE n z q C r b c d e f g h i j k l m o) fun A V W X Y Z aa ab ac ad ae af ag ah ai aj ak=>(if A=true then some false else AW (IntKind.wrap .i64 (a+1)) fun B=>PH n p s t B))else some false))else some true)
def F36 (n:Nat) (a:LD):Option (Bool):=
 AP a fun b=>(if 30<b then some false else AP a fun c=>PH n a c a 0)
noncomputable def X36:AH:=⟨36,Tryz.f36,false,[.q 16],[],[⟨.one (.b),[],[]⟩],Bool,ii,F36,.e,[⟨58,[0,2,9,10,11],[],224,[.q 16,.one (.cb false),.q 16,.z,.z],[],fun n a c d f=>PH n a d c f,.e⟩],none,[]⟩
noncomputable def k36:Kz:=sg X36 [k85] Tryz.func36
def uD (n:Nat) (a:BA):Option (Bool):=
 Xn a fun b=>(if 1<=b then Xn a fun c=>(if c<=16 then some true else some false)else some false)
noncomputable def X37:AH:=⟨37,Tryz.f37,false,[.s],[],[⟨.one (.b),[],[]⟩],Bool,ii,uD,.e,[],none,[]⟩
noncomputable def k37:Kz:=sg X37 [] Tryz.func37
def IG (n:Nat) (a:BA):Option (BA):=
 some a
noncomputable def AHb:AH:=⟨128,Tryz.f128,false,[.s],[],[⟨.one (.agg [.str,.k 1,.k 0,.cb true,.cb false,.cb false,.cb false,.el false 1]),[],[]⟩],BA,ii,IG,.e,[],none,[]⟩
noncomputable def AHc:Kz:=sg AHb [] Tryz.func128
def F92 (n:Nat):Option (LD×BA×BA×BA×BA×BA×LD×LD×LD×LD×BA×BA×BA×BA×BA×BA×BA×BA):=
 Av (IG n wY) fun e=>Av (IG n xA) fun f=>Av (IG n xB) fun g=>Av (IG n xC) fun h=>Av (IG n qT) fun i=>Av (IG n kH) fun j=>Av (IG n XD) fun k=>Av (IG n XE) fun l=>Av (IG n qU) fun m=>Av (IG n kI) fun a=>Av (IG n kJ) fun b=>Av (IG n qV) fun c=>Av (IG n qW) fun d=>some ([.int .i64 1,.int .i64 2,.int .i64 3],e,f,g,h,i,[.int .i64 7,.int .i64 8],[.int .i64 9,.int .i64 10,.int .i64 11,.int .i64 12,.int .i64 13,.int .i64 14,.int .i64 15,.int .i64 16,.int .i64 17],[.int .i64 6,.int .i64 7,.int .i64 8,.int .i64 9,.int .i64 10,.int .i64 11],[.int .i64 6,.int .i64 10],j,k,l,m,a,b,c,d)
noncomputable def X92:AH:=⟨92,Tryz.f92,false,[],[],[⟨.one (.agg [.cs ByteArray.empty,.k 0,.k 0,.cb false,.cb false,.cb false,.cb false,.el false 1,.cs Yv,.k 1,.k 0,.cb false,.cb false,.cb false,.cb false,.el false 1,.cs Yw,.k 1,.k 0,.cb false,.cb false,.cb false,.cb false,.el false 1,.cs Vk,.k 4,.k 0,.cb false,.cb false,.cb true,.cb false,.f 1,.str,.k 1,.k 0,.cb true,.cb false,.cb false,.cb false,.el false 1,.str,.k 1,.k 0,.cb true,.cb false,.cb false,.cb false,.el false 1,.str,.k 1,.k 0,.cb true,.cb false,.cb false,.cb false,.el false 1,.str,.k 1,.k 0,.cb true,.cb false,.cb false,.cb false,.el false 1,.str,.k 1,.k 0,.cb true,.cb false,.cb false,.cb false,.el false 1,.cs Vl,.k 4,.k 0,.cb false,.cb false,.cb false,.cb false,.f 1,.cs SQ,.k 4,.k 0,.cb false,.cb false,.cb false,.cb false,.f 1,.cs SR,.k 0,.k 7,.cb false,.cb false,.cb false,.cb true,.el false 1,.cs Yx,.k 7,.k 6,.cb false,.cb false,.cb false,.cb true,.el false 1,.cs Vm,.k 0,.k 7,.cb false,.cb false,.cb false,.cb true,.el false 1,.cs Yy,.k 2,.k 0,.cb false,.cb false,.cb false,.cb false,.el false 1,.cs SS,.k 2,.k 0,.cb false,.cb false,.cb false,.cb false,.el false 1,.cs SU,.k 0,.k 0,.cb false,.cb true,.cb false,.cb true,.el false 1,.cs Yz,.k 3,.k 5,.cb false,.cb false,.cb false,.cb false,.el false 1,.cs ME,.k 0,.k 0,.cb false,.cb false,.cb false,.cb false,.el false 1,.cs Y0,.k 4,.k 0,.cb false,.cb false,.cb false,.cb false,.f 1,.cs SV,.k 4,.k 0,.cb false,.cb false,.cb false,.cb false,.f 1,.str,.k 1,.k 0,.cb true,.cb false,.cb false,.cb false,.el false 1,.str,.k 1,.k 0,.cb true,.cb false,.cb false,.cb false,.el false 1,.str,.k 1,.k 0,.cb true,.cb false,.cb false,.cb false,.el false 1,.str,.k 1,.k 0,.cb true,.cb false,.cb false,.cb false,.el false 1,.str,.k 1,.k 0,.cb true,.cb false,.cb false,.cb false,.el false 1,.str,.k 1,.k 0,.cb true,.cb false,.cb false,.cb false,.el false 1,.cs Y1,.k 0,.k 0,.cb false,.cb false,.cb true,.cb false,.el false 1,.str,.k 1,.k 0,.cb true,.cb false,.cb false,.cb false,.el false 1,.str,.k 1,.k 0,.cb true,.cb false,.cb false,.cb false,.el false 1,.cs Y2,.k 1,.k 1,.cb true,.cb false,.cb false,.cb false,.el false 1,.cs SW,.k 0,.k 0,.cb false,.cb false,.cb false,.cb false,.el false 1,.cs Vn,.k 0,.k 0,.cb false,.cb false,.cb false,.cb false,.el false 1,.cs HI,.k 3,.k 5,.cb false,.cb false,.cb false,.cb false,.el false 1,.cs Y3,.k 0,.k 0,.cb false,.cb false,.cb false,.cb false,.el false 1]),[],[]⟩],LD×BA×BA×BA×BA×BA×LD×LD×LD×LD×BA×BA×BA×BA×BA×BA×BA×BA,ii,F92,.e,[],none,[]⟩
noncomputable def k92:Kz:=sg X92 [AHc] Tryz.func92
def zF (n:Nat) (a:Int):Option (BA×Int×Int×Bool×Bool×Bool×Bool×LD×Bool):=
 UL (F92 n) fun w x y z A B C E b c d e f g h i j k=>(if a=0 then some (ByteArray.empty,0,0,false,false,false,false,([]:LD),false)else AW (IntKind.wrap .i64 a) fun l=>(if 35<=l then some (ByteArray.empty,0,0,false,false,false,false,([]:LD),false)else Bs (0<=a/\a<35) (EJ [.agg [.str ByteArray.empty,.int .i64 0,.int .i64 0,.bool false,.bool false,.bool false,.bool false,.list false 1 []],.agg [.str Yv,.int .i64 1,.int .i64 0,.bool false,.bool false,.bool false,.bool false,.list false 1 []],.agg [.str Yw,.int .i64 1,.int .i64 0,.bool false,.bool false,.bool false,.bool false,.list false 1 []],.agg [.str Vk,.int .i64 4,.int .i64 0,.bool false,.bool false,.bool true,.bool false,.list false 1 w],.agg [.str x,.int .i64 1,.int .i64 0,.bool true,.bool false,.bool false,.bool false,.list false 1 []],.agg [.str y,.int .i64 1,.int .i64 0,.bool true,.bool false,.bool false,.bool false,.list false 1 []],.agg [.str z,.int .i64 1,.int .i64 0,.bool true,.bool false,.bool false,.bool false,.list false 1 []],.agg [.str A,.int .i64 1,.int .i64 0,.bool true,.bool false,.bool false,.bool false,.list false 1 []],.agg [.str B,.int .i64 1,.int .i64 0,.bool true,.bool false,.bool false,.bool false,.list false 1 []],.agg [.str Vl,.int .i64 4,.int .i64 0,.bool false,.bool false,.bool false,.bool false,.list false 1 C],.agg [.str SQ,.int .i64 4,.int .i64 0,.bool false,.bool false,.bool false,.bool false,.list false 1 E],.agg [.str SR,.int .i64 0,.int .i64 7,.bool false,.bool false,.bool false,.bool true,.list false 1 []],.agg [.str Yx,.int .i64 7,.int .i64 6,.bool false,.bool false,.bool false,.bool true,.list false 1 []],.agg [.str Vm,.int .i64 0,.int .i64 7,.bool false,.bool false,.bool false,.bool true,.list false 1 []],.agg [.str Yy,.int .i64 2,.int .i64 0,.bool false,.bool false,.bool false,.bool false,.list false 1 []],.agg [.str SS,.int .i64 2,.int .i64 0,.bool false,.bool false,.bool false,.bool false,.list false 1 []],.agg [.str SU,.int .i64 0,.int .i64 0,.bool false,.bool true,.bool false,.bool true,.list false 1 []],.agg [.str Yz,.int .i64 3,.int .i64 5,.bool false,.bool false,.bool false,.bool false,.list false 1 []],.agg [.str ME,.int .i64 0,.int .i64 0,.bool false,.bool false,.bool false,.bool false,.list false 1 []],.agg [.str Y0,.int .i64 4,.int .i64 0,.bool false,.bool false,.bool false,.bool false,.list false 1 b],.agg [.str SV,.int .i64 4,.int .i64 0,.bool false,.bool false,.bool false,.bool false,.list false 1 c],.agg [.str d,.int .i64 1,.int .i64 0,.bool true,.bool false,.bool false,.bool false,.list false 1 []],.agg [.str e,.int .i64 1,.int .i64 0,.bool true,.bool false,.bool false,.bool false,.list false 1 []],.agg [.str f,.int .i64 1,.int .i64 0,.bool true,.bool false,.bool false,.bool false,.list false 1 []],.agg [.str g,.int .i64 1,.int .i64 0,.bool true,.bool false,.bool false,.bool false,.list false 1 []],.agg [.str h,.int .i64 1,.int .i64 0,.bool true,.bool false,.bool false,.bool false,.list false 1 []],.agg [.str i,.int .i64 1,.int .i64 0,.bool true,.bool false,.bool false,.bool false,.list false 1 []],.agg [.str Y1,.int .i64 0,.int .i64 0,.bool false,.bool false,.bool true,.bool false,.list false 1 []],.agg [.str j,.int .i64 1,.int .i64 0,.bool true,.bool false,.bool false,.bool false,.list false 1 []],.agg [.str k,.int .i64 1,.int .i64 0,.bool true,.bool false,.bool false,.bool false,.list false 1 []],.agg [.str Y2,.int .i64 1,.int .i64 1,.bool true,.bool false,.bool false,.bool false,.list false 1 []],.agg [.str SW,.int .i64 0,.int .i64 0,.bool false,.bool false,.bool false,.bool false,.list false 1 []],.agg [.str Vn,.int .i64 0,.int .i64 0,.bool false,.bool false,.bool false,.bool false,.list false 1 []],.agg [.str HI,.int .i64 3,.int .i64 5,.bool false,.bool false,.bool false,.bool false,.list false 1 []],.agg [.str Y3,.int .i64 0,.int .i64 0,.bool false,.bool false,.bool false,.bool false,.list false 1 []]] (a.toNat) fun m=>K2 m fun o p q r s t u v=>some (o,p,q,r,s,t,u,v,true))))
noncomputable def X39:AH:=⟨39,Tryz.f39,false,[.y],[],[⟨.tup [.agg [.str,.z,.z,.bool,.bool,.bool,.bool,.f 1],.b],[],[]⟩],BA×Int×Int×Bool×Bool×Bool×Bool×LD×Bool,ii,zF,.n 0 (.b (.b .e (.b .e (.b .e (.b .e (.b .e (.w .e)))))) .e),[],none,[]⟩
noncomputable def k39:Kz:=sg X39 [k92] Tryz.func39
def F88 (n:Nat) (l:BA) (m:Int) (o:Int) (p:Bool) (q:Bool) (d:Bool) (r:Bool) (s:LD) (e:Int) (b:Int) (f:Int) (g:Int) (h:LD) (i:LD) (a:Int) (j:BA) (k:LD):Option (Bool):=
 Aw (!d) fun c=>(if c=true then (if a=0 then some true else some false)else (if e=27 then (if 1<=a then (if a<=8 then some true else some false)else some false)else (if b=2 then (if a=0 then some true else (if a=1 then some true else some false))else (if b=1 then some true else (if a=0 then some true else some false)))))
noncomputable def X88:AH:=⟨88,Tryz.f88,false,[.agg [.str,.z,.z,.bool,.bool,.bool,.bool,.f 1],.agg [.y,.z,.z,.z,.f 1,.f 1,.z,.str,.f 1]],[],[⟨.one (.b),[],[]⟩],Bool,ii,F88,.e,[],none,[]⟩
noncomputable def k88:Kz:=sg X88 [] Tryz.func88
def F86 (n:Nat) (a:BA):Option (Bool):=
 (if a=k__ then some false else Av (uD n a) fun b=>Aw (!b) fun c=>some c)
noncomputable def X86:AH:=⟨86,Tryz.f86,false,[.s],[],[⟨.one (.b),[],[]⟩],Bool,ii,F86,.e,[],none,[]⟩
noncomputable def k86:Kz:=sg X86 [k37] Tryz.func86
def NV:Nat->LD->Int->Int->Option (Int)
 | 0,_,_,_=>none
 | n+1,b,c,a=>
  (if a<c then An b a fun d=>CG d fun e=>Av (F86 n e) fun f=>(if f=true then some a else AW (IntKind.wrap .i64 (a+1)) fun g=>NV n b c g)else some (-1))
def uE (n:Nat) (a:LD):Option (Int):=
 AP a fun b=>NV n a b 0
noncomputable def AHe:AH:=⟨125,Tryz.f125,false,[.f 1,.one (.fn 86 [])],[],[⟨.one (.z),[],[]⟩],Int,ii,uE,.e,[⟨26,[0,1,4,7,8],[],128,[.f 1,.one (.fn 86 []),.k 0,.z,.z],[],NV,.e⟩],none,[]⟩
noncomputable def AHf:Kz:=sg AHe [k86] Tryz.func125
def zG (n:Nat) (a:LD):Option (Bool):=
 Av (uE n a) fun b=>(if 0<=b then some true else some false)
noncomputable def X89:AH:=⟨89,Tryz.f89,false,[.f 1,.one (.fn 86 [])],[],[⟨.one (.b),[],[]⟩],Bool,ii,zG,.e,[],none,[]⟩
noncomputable def k89:Kz:=sg X89 [AHf] Tryz.func89
def F87 (n:Nat) (e:Int) (b:BA) (c:Int) (d:Int) (a:LD):Option (Bool×BA×Int×Int×LD):=
 (if e<0 then some (true,b,c,d,a)else AP a fun f=>(if f<e then some (true,b,c,d,a)else some (false,b,c,d,a)))
noncomputable def X87:AH:=⟨87,Tryz.f87,false,[.z,.p (.ext 0) 0],[.c [.str,.z,.z,.q 9]],[⟨.one (.b),[.c [.str,.z,.z,.q 9]],[]⟩],Bool×BA×Int×Int×LD,ii,F87,.e,[],none,[]⟩
noncomputable def k87:Kz:=sg X87 [] Tryz.func87
def NW:Nat->LD->Int->Int->BA->Int->Int->LD->Option (Int×BA×Int×Int×LD)
 | 0,_,_,_,_,_,_,_=>none
 | n+1,l,m,g,o,p,a,b=>
  (if g<m then An l g fun h=>CH h fun i=>jZ (F87 n i o p a b) fun j c d e f=>(if j=true then some (g,c,d,e,f)else AW (IntKind.wrap .i64 (g+1)) fun k=>NW n l m k c d e f)else some ((-1),o,p,a,b))
def uF (n:Nat) (a:LD) (b:BA) (c:Int) (d:Int) (e:LD):Option (Int×BA×Int×Int×LD):=
 AP a fun f=>NW n a f 0 b c d e
noncomputable def AHh:AH:=⟨126,Tryz.f126,false,[.f 1,.one (.fn 87 [.ext 0])],[.c [.str,.z,.z,.q 9]],[⟨.one (.z),[.c [.str,.z,.z,.q 9]],[]⟩],Int×BA×Int×Int×LD,ii,uF,.e,[⟨26,[0,1,4,7,8],[.ext 0],128,[.f 1,.one (.fn 87 [.ext 0]),.k 0,.z,.z],[.c [.str,.z,.z,.q 9]],NW,.e⟩],none,[]⟩
noncomputable def AHi:Kz:=sg AHh [k87] Tryz.func126
def zH (n:Nat) (e:LD) (f:BA) (g:Int) (h:Int) (i:LD):Option (Bool×BA×Int×Int×LD):=
 jZ (uF n e f g h i) fun j b c d a=>(if 0<=j then some (true,b,c,d,a)else some (false,b,c,d,a))
noncomputable def X90:AH:=⟨90,Tryz.f90,false,[.f 1,.one (.fn 87 [.ext 0])],[.c [.str,.z,.z,.q 9]],[⟨.one (.b),[.c [.str,.z,.z,.q 9]],[]⟩],Bool×BA×Int×Int×LD,ii,zH,.e,[],none,[]⟩
noncomputable def k90:Kz:=sg X90 [AHi] Tryz.func90
def NX:Nat->LD->Int->Int->Int->Option (Int)
 | 0,_,_,_,_=>none
 | n+1,b,c,d,a=>
  (if a<d then An b a fun e=>CH e fun f=>(if c=f then some a else AW (IntKind.wrap .i64 (a+1)) fun g=>NX n b c d g)else some (-1))
def uG (n:Nat) (a:LD) (b:Int):Option (Int):=
 AP a fun c=>NX n a b c 0
noncomputable def AHj:AH:=⟨187,Tryz.f187,false,[.f 1,.z],[],[⟨.one (.z),[],[]⟩],Int,ii,uG,.e,[⟨26,[0,1,4,7,8],[],128,[.f 1,.z,.k 0,.z,.z],[],NX,.e⟩],none,[]⟩
noncomputable def AHk:Kz:=sg AHj [] Tryz.func187
def mW (n:Nat) (a:LD) (b:Int):Option (Bool):=
 Av (uG n a b) fun c=>(if 0<=c then some true else some false)
noncomputable def AHl:AH:=⟨127,Tryz.f127,false,[.f 1,.z],[],[⟨.one (.b),[],[]⟩],Bool,ii,mW,.e,[],none,[]⟩
noncomputable def AHm:Kz:=sg AHl [AHk] Tryz.func127
def zI (n:Nat) (d:LD) (F:Int) (G:LD) (H:BA) (I:Int) (m:Int) (o:LD) (J:BA) (K:Int) (p:Int) (q:Bool) (r:Bool) (s:Bool) (t:Bool) (e:LD) (f:Int) (c:Int) (u:Int) (v:Int) (w:LD) (x:LD) (y:Int) (z:BA) (A:LD) (b:Int) (a:Int):Option (Bool):=
 (if b=0 then (if a=0 then some true else some false)else (if b=1 then (if 0<=a then (if a<m then some true else some false)else some false)else (if b=2 then (if 0<=a then AP o fun g=>(if a<=g then some true else some false)else some false)else (if b=3 then (if 0<=a then AP d fun h=>(if a<h then some true else some false)else some false)else (if b=4 then Av (mW n e a) fun i=>some i else (if b=5 then (if 0<=c then AP d fun j=>(if c<j then An d c fun k=>Cr k fun B l C E=>(if a=l then some true else some false)else some false)else some false)else (if b=6 then (if a=0 then some true else (if a=1 then some true else some false))else (if 0<=a then (if a<6 then some true else (if a=6 then (if f=12 then some false else some true)else some false))else some false))))))))
noncomputable def X91:AH:=⟨91,Tryz.f91,false,[.agg [.q 4,.z,.q 16],.agg [.str,.z,.z,.q 9],.agg [.str,.z,.z,.bool,.bool,.bool,.bool,.f 1],.agg [.y,.z,.z,.z,.f 1,.f 1,.z,.str,.f 1],.z,.z],[],[⟨.one (.b),[],[]⟩],Bool,ii,zI,.e,[],none,[]⟩
noncomputable def k91:Kz:=sg X91 [AHm] Tryz.func91
def KW:Nat->LD->Int->LD->Int->Int->Int->Int->LD->LD->Int->BA->LD->BA->Int->Int->Bool->Bool->Bool->Bool->LD->Bool->BA->Int->Int->LD->Option (Int)
 | 0,_,_,_,_,_,_,_,_,_,_,_,_,_,_,_,_,_,_,_,_,_,_,_,_,_=>none
 | n+1,y,z,A,B,r,s,C,E,c,d,e,f,g,a,b,h,i,j,k,l,t,m,o,p,q=>
  (if t=true then some 170 else Av (zI n y z A m o p q g a b h i j k l B r s C E c d e f a r) fun u=>Aw (!u) fun v=>(if v=true then some 170 else Av (zI n y z A m o p q g a b h i j k l B r s C E c d e f b s) fun w=>Aw (!w) fun x=>(if x=true then some 170 else some 0)))
def KX:Nat->LD->Int->LD->Int->Int->Int->Int->LD->LD->Int->BA->LD->BA->Int->Int->Bool->Bool->Bool->Bool->LD->BA->Int->Int->LD->Bool->Option (Int)
 | 0,_,_,_,_,_,_,_,_,_,_,_,_,_,_,_,_,_,_,_,_,_,_,_,_,_=>none
 | n+1,s,t,u,v,w,x,y,r,b,c,d,e,f,g,h,i,a,j,k,l,m,o,p,q,z=>
  (if z=true then some 170 else AP r fun A=>(if 0<A then Aw (!a) fun B=>(if B=true then KW n s t u v w x y r b c d e f g h i a j k l true m o p q else AP r fun C=>(if 6<C then KW n s t u v w x y r b c d e f g h i a j k l true m o p q else jZ (zH n r m o p q) fun E F G H I=>KW n s t u v w x y r b c d e f g h i a j k l E F G H I))else AP r fun J=>(if 6<J then KW n s t u v w x y r b c d e f g h i a j k l true m o p q else jZ (zH n r m o p q) fun K L M N O=>KW n s t u v w x y r b c d e f g h i a j k l K L M N O)))
def GG:Nat->LD->Int->LD->Int->Int->Int->Int->LD->LD->Int->BA->LD->BA->Int->Int->Bool->Bool->Bool->Bool->LD->BA->Int->Int->LD->Bool->Option (Int)
 | 0,_,_,_,_,_,_,_,_,_,_,_,_,_,_,_,_,_,_,_,_,_,_,_,_,_=>none
 | n+1,r,s,t,u,v,w,x,y,a,c,d,e,f,g,h,b,i,j,k,l,m,o,p,q,z=>
  (if z=true then some 170 else AP a fun A=>(if 0<A then Aw (!b) fun B=>(if B=true then KX n r s t u v w x y a c d e f g h b i j k l m o p q true else AP a fun C=>(if 40<C then KX n r s t u v w x y a c d e f g h b i j k l m o p q true else Av (zG n a) fun E=>KX n r s t u v w x y a c d e f g h b i j k l m o p q E))else AP a fun F=>(if 40<F then KX n r s t u v w x y a c d e f g h b i j k l m o p q true else Av (zG n a) fun G=>KX n r s t u v w x y a c d e f g h b i j k l m o p q G)))
def F38 (n:Nat) (r:LD) (x:Int) (y:LD) (z:Int) (s:Int) (u:Int) (v:Int) (t:Int) (w:LD) (d:LD) (e:Int) (b:BA) (c:LD):Option (Int):=
 kB (zF n s) fun f g h i j k a l A=>Aw (!A) fun B=>(if B=true then some 170 else (if z<0 then some 170 else AP r fun C=>(if C<=z then some 170 else An r z fun E=>Cr E fun m o p q=>(if t=0 then AP c fun F=>(if 0<F then GG n r x y s u v t w d e b c f g h i j k a l m o p q true else Av (F88 n f g h i j k a l s u v t w d e b c) fun G=>Aw (!G) fun H=>(if H=true then GG n r x y s u v t w d e b c f g h i j k a l m o p q true else (if b=ByteArray.empty then Aw (!(a==false)) fun I=>(if I=true then GG n r x y s u v t w d e b c f g h i j k a l m o p q true else (if a=true then Av (uD n b) fun J=>Aw (!J) fun K=>GG n r x y s u v t w d e b c f g h i j k a l m o p q K else GG n r x y s u v t w d e b c f g h i j k a l m o p q false))else Aw (!(a==true)) fun L=>(if L=true then GG n r x y s u v t w d e b c f g h i j k a l m o p q true else (if a=true then Av (uD n b) fun M=>Aw (!M) fun N=>GG n r x y s u v t w d e b c f g h i j k a l m o p q N else GG n r x y s u v t w d e b c f g h i j k a l m o p q false)))))else GG n r x y s u v t w d e b c f g h i j k a l m o p q true))))
noncomputable def X38:AH:=⟨38,Tryz.f38,false,[.agg [.q 4,.z,.q 16],.z,.agg [.y,.z,.z,.z,.f 1,.f 1,.z,.str,.f 1]],[],[⟨.one (.z),[],[]⟩],Int,ii,F38,.e,[⟨1017,[3,5,6,7,9,10,11,37],[.loc 0,.loc 32,.loc 288,.loc 960],2208,[.p (.loc 0) 0,.p (.loc 32) 0,.k 0,.p (.loc 288) 0,.p (.loc 960) 0,.one (.fn 86 []),.one (.fn 87 [.loc 960]),.b],[.c [.q 4,.z,.q 16],.c [.y,.z,.z,.z,.f 1,.f 1,.z,.str,.f 1],.c [.str,.z,.z,.bool,.bool,.bool,.bool,.f 1],.c [.str,.z,.z,.q 9]],fun n J A B C E F G H I a d g h i j l m o r s t u v w x=>GG n A B C E F G H I a d g h i j l m o r s t u v w x J,.e⟩,
 ⟨4071,[3,5,6,7,9,11,71],[.loc 0,.loc 32,.loc 288,.loc 960],2912,[.p (.loc 0) 0,.p (.loc 32) 0,.k 0,.p (.loc 288) 0,.p (.loc 960) 0,.one (.fn 87 [.loc 960]),.b],[.c [.q 4,.z,.q 16],.c [.y,.z,.z,.z,.f 1,.f 1,.z,.str,.f 1],.c [.str,.z,.z,.bool,.bool,.bool,.bool,.f 1],.c [.str,.z,.z,.q 9]],fun n K A B C E F G H I a d g h i j l m o r s t u v w x=>KX n A B C E F G H I a d g h i j l m o r s t u v w x K,.e⟩,
 ⟨16287,[3,5,6,7,9,93],[.loc 0,.loc 32,.loc 288,.loc 960],3616,[.p (.loc 0) 0,.p (.loc 32) 0,.k 0,.p (.loc 288) 0,.p (.loc 960) 0,.b],[.c [.q 4,.z,.q 16],.c [.y,.z,.z,.z,.f 1,.f 1,.z,.str,.f 1],.c [.str,.z,.z,.bool,.bool,.bool,.bool,.f 1],.c [.str,.z,.z,.q 9]],fun n L A B C E F G H I a d g h i j l m o r s t M N O P=>KW n A B C E F G H I a d g h i j l m o r s t L M N O P,.e⟩],none,[]⟩
noncomputable def k38:Kz:=sg X38 [k37,k39,k88,k89,k90,k91] Tryz.func38
mutual
def TT:Nat->LD->Int->LD->Int->Int->LD->Option (Int)
 | 0,_,_,_,_,_,_=>none
 | n+1,g,h,i,c,a,d=>
  (if a<c then An g a fun o=>Cr o fun p j k b=>Av (uD n p) fun q=>Aw (!q) fun r=>(if r=true then some 170 else (if j<0 then some 170 else (if k<j then some 170 else (if 60<k then some 170 else AP b fun s=>(if 4000<s then some 170 else AP b fun e=>TU n g h i c a d b e a 0)))))else some 0)
def TU:Nat->LD->Int->LD->Int->Int->LD->LD->Int->Int->Int->Option (Int)
 | 0,_,_,_,_,_,_,_,_,_,_=>none
 | n+1,g,h,i,c,a,d,b,e,l,f=>
  (if f<e then An b f fun t=>Ef t fun u v w x y z A B C=>Av (F38 n d h i a u v w x y z A B C) fun m=>(if m=0 then AW (IntKind.wrap .i64 (f+1)) fun E=>TU n g h i c a d b e l E else some m)else AW (IntKind.wrap .i64 (l+1)) fun F=>TT n g h i c F d)
end
def uW (n:Nat) (a:LD) (b:Int) (f:LD):Option (Int):=
 AP a fun g=>(if 200<g then some 170 else (if b<0 then some 170 else AP a fun h=>(if h<=b then some 170 else An a b fun i=>Cr i fun l j m k=>(if j=0 then Av (F36 n f) fun c=>Aw (!c) fun d=>(if d=true then some 170 else AP a fun e=>TT n a b f e 0 a)else some 170))))
noncomputable def X16:AH:=⟨16,Tryz.f16,false,[.agg [.q 4,.z,.q 16]],[],[⟨.one (.z),[],[]⟩],Int,ii,uW,.e,[⟨58,[1,2,42,43,44],[.loc 0],1248,[.p (.loc 0) 0,.k 0,.q 4,.z,.z],[.c [.q 4,.z,.q 16]],fun n f a b d g h=>TT n f g h a b d,.e⟩,
 ⟨29902,[1,2,3,42,43,44,77,78,79],[.loc 0],2464,[.p (.loc 0) 0,.k 0,.z,.q 4,.z,.z,.q 9,.z,.z],[.c [.q 4,.z,.q 16]],fun n b f a i j l m d g h=>TU n f g h a b d j l i m,.e⟩],none,[]⟩
noncomputable def k16:Kz:=sg X16 [k36,k37,k38] Tryz.func16
def Zx:Nat->Int->Int->LD->Int->BA->Int->Int->LD->LD->LD->Option (LD×Int×LD×Int)
 | 0,_,_,_,_,_,_,_,_,_,_=>none
 | n+1,z,a,r,c,s,t,u,d,e,b=>
  AP b fun v=>(if a<v then Bs (0<=a/\a.toNat<b.length) (EJ b (a.toNat) fun w=>Jb w fun x C=>Bs (0<=a/\a.toNat<b.length) (EJ b (a.toNat) fun y=>Jb y fun A f=>kB (yY n HI x f 3 0 ByteArray.empty ByteArray.empty ByteArray.empty ([]:LD) ([]:LD) 0 z r c s t u d e b) fun g h i j k l m o B=>AW (IntKind.wrap .i64 (a+1)) fun p=>Zx n z p g h i j k l m o))else Av (uW n d c e) fun q=>(if q=0 then some (d,c,e,0)else some (([]:LD),0,([]:LD),4)))
mutual
def Xh:Nat->Int->LD->Int->Int->LD->Int->BA->Int->Int->LD->LD->LD->Option (LD×Int×LD×Int)
 | 0,_,_,_,_,_,_,_,_,_,_,_,_=>none
 | n+1,v,w,c,a,d,z,e,f,g,b,h,i=>
  (if a<c then An w a fun C=>Bo C fun E k j W X Y l m o p q r s t u Z=>(if E=3 then (if k=E4 then AP b fun F=>Zy n v w c a d e f g b h i k j l m o p q r s t u F else Zy n v w c a d e f g b h i k j l m o p q r s t u z)else AW (IntKind.wrap .i64 (a+1)) fun G=>Xh n v w c G d z e f g b h i)else Zx n v 0 d z e f g b h i)
def Zy:Nat->Int->LD->Int->Int->LD->BA->Int->Int->LD->LD->LD->BA->LD->LD->Int->Int->BA->BA->BA->LD->LD->Int->Int->Option (LD×Int×LD×Int)
 | 0,_,_,_,_,_,_,_,_,_,_,_,_,_,_,_,_,_,_,_,_,_,_,_=>none
 | n+1,v,w,c,a,d,e,f,g,b,h,i,k,j,l,m,o,p,q,r,s,t,u,x=>
  AP j fun y=>Zz n v w c a d e f g b h i k j l m o p q r s t u x y 0 j ([]:LD)
def Zz:Nat->Int->LD->Int->Int->LD->BA->Int->Int->LD->LD->LD->BA->LD->LD->Int->Int->BA->BA->BA->LD->LD->Int->Int->Int->Int->LD->LD->Option (LD×Int×LD×Int)
 | 0,_,_,_,_,_,_,_,_,_,_,_,_,_,_,_,_,_,_,_,_,_,_,_,_,_,_,_=>none
 | n+1,v,w,c,a,d,e,f,g,b,h,i,k,j,l,m,o,p,q,r,s,t,u,x,y,A,H,B=>
  (if A<y then An j A fun I=>Co I fun J aa ab ac=>Hs [.str J] fun K=>DH 16 B K fun L=>AW (IntKind.wrap .i64 (A+1)) fun M=>Zz n v w c a d e f g b h i k j l m o p q r s t u x y M H L else kB (yY n k B l m o p q r s t u v d x e f g b h i) fun N O P Q R S T U ad=>AW (IntKind.wrap .i64 (a+1)) fun V=>Xh n v w c V N O P Q R S T U)
end
def Xi:Nat->LD->Int->Int->Int->LD->LD->LD->Option (LD×Int×LD×Int)
 | 0,_,_,_,_,_,_,_=>none
 | n+1,d,e,f,b,c,g,h=>
  (if b<e then An d b fun i=>Bo i fun a j k l m o p q r s t u v w x y=>(if a=3 then AW (IntKind.wrap .i64 (f+1)) fun z=>AW (IntKind.wrap .i64 (b+1)) fun A=>Xi n d e z A c g h else EK (F21 n a j k l m o p q r s t u v w x y) fun B C E=>DH 248 h ([.agg [.int .u8 B,.str C,.list true 4 E,.int .u8 0,.str ByteArray.empty,.list true 3 [],.list true 15 [],.int .u8 0,.int .i64 0,.str ByteArray.empty,.str ByteArray.empty,.str ByteArray.empty,.list false 1 [],.list true 8 [],.int .i64 0,.int .i64 0]]) fun F=>AW (IntKind.wrap .i64 (b+1)) fun G=>Xi n d e f G c g F)else AP c fun H=>Xh n f c H 0 g 0 ByteArray.empty 0 0 ([]:LD) h ([]:LD))
def F9 (n:Nat) (a:LD):Option (LD×Int×LD×Int):=
 Av (F20 n a) fun b=>AP b fun c=>(if 0<c then some (([]:LD),0,([]:LD),2)else AP a fun d=>Xi n a d 0 0 a a ([]:LD))
noncomputable def X9:AH:=⟨9,Tryz.f9,true,[.agg [.q 16]],[],[⟨.tup [.agg [.q 4,.z,.q 16],.z],[],[]⟩],LD×Int×LD×Int,ii,F9,.n 0 (.b (.b (.g [.treeC (.loc 32) 0 true 4,.treeC (.loc 32) 2 true 16,.freeze (.loc 320),.freeze (.loc 352)] [] .e) (.g [.unC (.loc 288) 8,.unC (.loc 288) 9,.treeC (.loc 288) 1 true 4,.treeC (.loc 288) 3 true 16,.treeC (.loc 288) 4 true 2,.flatten (.loc 576)] [] .e)) .e),[⟨250,[1,2,3,4,5,24,25,26],[.loc 0,.loc 32,.loc 288,.loc 512,.loc 544,.loc 576],608,[.p (.loc 0) 0,.p (.loc 32) 0,.k 0,.p (.loc 288) 0,.z,.q 16,.z,.z],[.c [.q 16],.c [.nils true 4,.k 0,.nils true 16],.c [.q 16,.ow (.loc 512),.k 0,.ow (.loc 544),.ow (.loc 576),.cs ByteArray.empty,.k 0,.k 0,.un,.un],.te .row true 4,.l true 16,.te .flat true 2],fun n K Q R S L T U=>Xi n Q R K S L T U,.b (.b (.b .e (.n 0 (.g [] [(1152,544)] .e))) .e) .e⟩,
 ⟨1018,[2,3,4,8,51,52,53],[.loc 32,.loc 288,.loc 512,.loc 544,.loc 576],832,[.p (.loc 32) 0,.k 0,.p (.loc 288) 0,.z,.q 16,.z,.z],[.c [.nils true 4,.k 0,.nils true 16],.c [.q 16,.ow (.loc 512),.z,.ow (.loc 544),.ow (.loc 576),.str,.z,.z,.un,.un],.l true 4,.l true 16,.t .flat true 2],Xh,.e⟩,
 ⟨260711,[2,3,4,8,10,51,52,53],[.loc 32,.loc 288,.loc 512,.loc 544,.loc 576,.loc 928],1536,[.p (.loc 32) 0,.k 0,.p (.loc 288) 0,.z,.p (.loc 928) 0,.q 16,.z,.z],[.c [.nils true 4,.k 0,.nils true 16],.c [.q 16,.ow (.loc 512),.z,.ow (.loc 544),.ow (.loc 576),.str,.z,.z,.un,.un],.l true 4,.l true 16,.t .flat true 2,.c [.y,.str,.q 4,.y,.str,.q 3,.q 15,.y,.z,.str,.str,.str,.f 1,.q 8,.z,.z]],fun n K L a d h i j m o r s u _ v x _ _ _ A B C E F G H I J _=>Zy n K L a d h j m o r s u v x A B C E F G H I J i,.g [.treeS 11 false 1] [] .e⟩,
 ⟨4171386,[2,3,4,8,10,11,51,52,53,74,75,76],[.loc 32,.loc 288,.loc 512,.loc 544,.loc 576,.loc 928,.loc 1696],1728,[.p (.loc 32) 0,.k 0,.p (.loc 288) 0,.z,.p (.loc 928) 0,.w (.loc 1696),.q 16,.z,.z,.q 4,.z,.z],[.c [.nils true 4,.k 0,.nils true 16],.c [.q 16,.ow (.loc 512),.z,.ow (.loc 544),.ow (.loc 576),.str,.z,.z,.un,.un],.l true 4,.l true 16,.t .flat true 2,.c [.y,.str,.q 4,.y,.str,.q 3,.q 15,.y,.z,.str,.str,.str,.f 1,.q 8,.z,.z],.l false 1],fun n K L a d x M N h i j m o r s u _ v O _ _ _ A B C E F G H I J _ P=>Zz n K L a d h j m o r s u v x A B C E F G H I J i M N O P,.b (.n 0 (.g [] [(2016,1696)] .e)) (.g [.freeze (.loc 1696)] [] (.g [.unC (.loc 288) 8,.unC (.loc 288) 9] [(2048,512),(2049,544),(2050,576)] .e))⟩,
 ⟨2042,[2,3,4,8,14],[.loc 32,.loc 288,.loc 512,.loc 544,.loc 576],896,[.p (.loc 32) 0,.k 0,.p (.loc 288) 0,.z,.z],[.c [.nils true 4,.k 0,.nils true 16],.c [.q 16,.ow (.loc 512),.z,.ow (.loc 544),.ow (.loc 576),.str,.z,.z,.un,.un],.l true 4,.l true 16,.t .flat true 2],Zx,.b (.n 0 (.g [.unC (.loc 288) 8,.unC (.loc 288) 9] [(1728,512),(1729,544),(1730,576)] .e)) (.g [.freeze (.loc 512),.freeze (.loc 544)] [] (.b (.b .e (.g [.treeC (.loc 32) 0 true 4,.treeC (.loc 32) 2 true 16,.freeze (.loc 1408),.freeze (.loc 1440)] [] .e)) .e))⟩],none,[]⟩
noncomputable def k9:Kz:=sg X9 [k16,k20,k21,k22] Tryz.func9
end Go.Proofs.YtjfmnfncmfepnaaGreatDoor
end
set_option linter.unusedVariables false
noncomputable section
namespace Go.Proofs.YtjfmnfncmfepnaaGreatDoor
open Go Go.AM
def Kd (x:D):Prop:=∃(a0 a3 a7 a8 a14 a15:Int) (a1 a4 a9 a10 a11:ByteArray) (a2 a5 a6 a12 a13:List D),x= .agg [.int .u8 a0,.str a1,.list true 4 a2,.int .u8 a3,.str a4,.list true 3 a5,.list true 15 a6,.int .u8 a7,.int .i64 a8,.str a9,.str a10,.str a11,.list false 1 a12,.list true 8 a13,.int .i64 a14,.int .i64 a15]
section
variable {γ:Type}{P:γ→Prop}
theorem gk {l:List D}{i:Nat}{k:Nat→Int→ByteArray→List D→Int→ByteArray→List D→List D→Int→Int→ByteArray→ByteArray→ByteArray→List D→List D→Int→Int→Option γ}(hl:∀x∈l,Kd x) (hi:i<l.length) (h:∀a0 a1 a2 a3 a4 a5 a6 a7 a8 a9 a10 a11 a12 a13 a14 a15,Wp (fun n=>k n a0 a1 a2 a3 a4 a5 a6 a7 a8 a9 a10 a11 a12 a13 a14 a15) P):Wp (fun n=>An l (i:Int) fun x=>Bo x (k n)) P:=gi hi fun x hx=>by
 obtain⟨a0,a3,a7,a8,a14,a15,a1,a4,a9,a10,a11,a2,a5,a6,a12,a13,rfl⟩:=hl x (List.mem_of_getElem? hx)
 exact h a0 a1 a2 a3 a4 a5 a6 a7 a8 a9 a10 a11 a12 a13 a14 a15
theorem gf {l:List D}{z:Int}{k:Nat→ByteArray→Int→Int→List D→Option γ}(hl:∀x∈l,∃s,Fn s x) (hi:0≤z∧z<l.length) (h:∀s p y co,(∀y∈co,Cd y)→Wp (fun n=>k n s p y co) P):Wp (fun n=>An l z fun x=>Cr x (k n)) P:=wG hi fun x hx=>by
 obtain⟨s,p,y,co,rfl,hc⟩:=hl x (List.mem_of_getElem? hx)
 exact h s p y co hc
theorem wC {l:List D}{i:Nat}{k:Nat→List D→Option γ}(hi:i≤l.length) (h:Wp (fun n=>k n (l.take i)) P):Wp (fun n=>Gg l (0:Int) (i:Int) (k n)) P:=by
 simp only[Gg,if_pos (show (0:Int)≤0∧(0:Int)≤(i:Int)∧(i:Int)≤l.length from⟨by omega,by omega,by omega⟩),Int.toNat_natCast,Int.toNat_zero,List.drop_zero]
 exact h
end
theorem t37 (s:ByteArray):Tl fun n=>uD n s:=by unfold uD;repeat' first | exact wS trivial | with_reducible refine wI (fun _=>?_) fun _=>?_ | with_reducible refine wL ?_ | with_reducible refine wB ?_ | with_reducible refine wT ?_ | with_reducible refine wZ ?_
section
variable {l:List D}
theorem t124 (hl:∀x∈l,Kd x) (hn:l.length≤1000000000) (z2:Int) (s3:ByteArray) (l4:List D) (z5:Int) (s6:ByteArray) (l7 l8:List D) (z9 z10:Int) (s11 s12 s13:ByteArray) (l14 l15:List D) (z16 z17:Int):Tl fun n=>zE n l z2 s3 l4 z5 s6 l7 l8 z9 z10 s11 s12 s13 l14 l15 z16 z17:=by
 have a:∀i,i≤l.length→∀z2 s3 l4 z5 s6 l7 l8 z9 z10 s11 s12 s13 l14 l15 z16 z17,Tl fun n=>NU n l l.length i z2 s3 l4 z5 s6 l7 l8 z9 z10 s11 s12 s13 l14 l15 z16 z17:=Al _ fun i hi ih z2 s3 l4 z5 s6 l7 l8 z9 z10 s11 s12 s13 l14 l15 z16 z17=>wU (by
  simp only[NU,F84]
  exact wI (fun h=>gk hl (by omega) fun _ _ _ _ _ _ _ _ _ _ _ _ _ _ _ _=>u17 (wI (fun _=>wS trivial) fun _=>wS trivial) fun _ _ _ _ _ _ _ _ _ _ _ _ _ _ _ _ _=>wI (fun _=>wS trivial) fun _=>wi (by omega) (ih (by omega) _ _ _ _ _ _ _ _ _ _ _ _ _ _ _ _)) fun _=>wS trivial)
 unfold zE uC
 exact u17 (wL (a 0 (Nat.zero_le _) _ _ _ _ _ _ _ _ _ _ _ _ _ _ _ _)) fun _ _ _ _ _ _ _ _ _ _ _ _ _ _ _ _ _=>wI (fun _=>wS trivial) fun _=>wS trivial
theorem t36 (hl:∀x∈l,Kd x):Tl fun n=>F36 n l:=by
 unfold F36
 refine wL (wI (fun _=>wS trivial) fun hn=>wL ?_)
 have a:∀i,i≤l.length→Tl fun n=>PH n l l.length l i:=Al _ fun i hi ih=>wU (by
  simp only[PH]
  have ht:∀x∈l.take i,Kd x:=fun x hx=>hl x (List.mem_of_mem_take hx)
  refine wI (fun h=>?_) fun _=>wS trivial
  refine gk hl (by omega) fun _ _ _ _ _ _ _ _ _ _ _ _ _ _ _ _=>?_
  have e:=t124 ht (by simp;omega)
  refine wI (fun _=>wL (wI (fun _=>wS trivial) fun _=>?_)) fun _=>wI (fun _=>wL (wI (fun _=>wS trivial) fun _=>?_)) fun _=>wS trivial
  all_goals
   refine wC hi ?_
   refine u17 (e _ _ _ _ _ _ _ _ _ _ _ _ _ _ _ _) fun _ _ _ _ _ _ _ _ _ _ _ _ _ _ _ _ _=>?_
   exact wI (fun _=>wS trivial) fun _=>wi (by omega) (ih (by omega)))
 exact a 0 (Nat.zero_le _)
theorem wK9 {γ:Type}{P:γ→Prop}{p:D→Prop}{z:Nat}{k:Nat→D→Option γ}(h1:z<l.length) (hp:∀x∈l,p x) (h:∀x,p x→Wp (fun n=>k n x) P):Wp (fun n=>EJ l z (k n)) P:=wK h1 fun x hx=>h x (hp x (List.mem_of_getElem? hx))
def Is (l:List D):Prop:=(∀y∈l,∃z,y=D.int .i64 z)∧l.length≤100
theorem is0:Is []:=⟨nx,by simp⟩
def G9 (x:D):Prop:=∃(s:ByteArray) (z22 z23:Int) (b24 b25 b26 b27:Bool) (l:List D),x= .agg [.str s,.int .i64 z22,.int .i64 z23,.bool b24,.bool b25,.bool b26,.bool b27,.list false 1 l]∧Is l
theorem t39 {z:Int}(hz:0≤z∧z≤255):W9 (fun n=>zF n z) fun _ _ _ _ _ _ _ l _=>Is l:=by
 have h:Wp (fun n=>F92 n) fun r=>Is r.1∧Is r.2.2.2.2.2.2.1∧Is r.2.2.2.2.2.2.2.1∧Is r.2.2.2.2.2.2.2.2.1∧Is r.2.2.2.2.2.2.2.2.2.1:=by
  have e:∀s,Tl fun n=>IG n s:=fun s=>wS trivial
  unfold F92
  iterate 13 with_reducible refine u1 (e _) fun _=>?_
  refine wS ⟨⟨?_,by simp⟩,⟨?_,by simp⟩,⟨?_,by simp⟩,⟨?_,by simp⟩,?_,by simp⟩<;>repeat' simp_all
 have gq:∀{s:ByteArray} {z22 z23:Int} {b24 b25 b26 b27:Bool} {l:List D},Is l→G9 (.agg [.str s,.int .i64 z22,.int .i64 z23,.bool b24,.bool b25,.bool b26,.bool b27,.list false 1 l]):=fun h=>⟨_,_,_,_,_,_,_,_,rfl,h⟩
 unfold zF
 refine zZ (Q:=fun a1 _ _ _ _ _ a7 a8 a9 a10 _ _ _ _ _ _ _ _=>Is a1∧Is a7∧Is a8∧Is a9∧Is a10) h fun a1 _ _ _ _ _ a7 a8 a9 a10 _ _ _ _ _ _ _ _ ⟨h1,h2,h3,h4,h5⟩=>wI (fun _=>wS is0) fun _=>wW (x:=z) rfl (by omega) (wI (fun _=>wS is0) fun _=>wN (by omega) (wK9 (p:=G9) (by simp_all) ?_ fun x hx=>?_))
 ·repeat' first | exact nx | refine List.forall_mem_cons.2 ⟨?_,?_⟩ | exact gq is0 | exact gq h1 | exact gq h2 | exact gq h3 | exact gq h4 | exact gq h5
 ·obtain⟨s,z22,z23,b24,b25,b26,b27,l,rfl,h⟩:=hx
  exact wS h
theorem t88 (s1:ByteArray) (z2 z3:Int) (b4 b5 b6 b7:Bool) (l8:List D) (z9 z10 z11 z12:Int) (l13 l14:List D) (z15:Int) (s16:ByteArray) (l17:List D):Tl fun n=>F88 n s1 z2 z3 b4 b5 b6 b7 l8 z9 z10 z11 z12 l13 l14 z15 s16 l17:=by unfold F88;repeat' first | exact wS trivial | with_reducible refine wI (fun _=>?_) fun _=>?_ | with_reducible refine wL ?_ | with_reducible refine wB ?_ | with_reducible refine wT ?_ | with_reducible refine wZ ?_
theorem t89 (h:Nm l) (hn:l.length≤1000000000):Tl fun n=>zG n l:=by
 have a:∀i,i≤l.length→Tl fun n=>NV n l l.length i:=Al _ fun i hi ih=>wU (by
  simp only[NV,F86]
  refine wI (fun h2=>gi (by omega) fun x hx=>?_) fun _=>wS trivial
  obtain⟨s,rfl⟩:=h x (List.mem_of_getElem? hx)
  exact dS (u1 (wI (fun _=>wS trivial) fun _=>u1 (t37 s) fun _=>wB (wS trivial)) fun _=>wI (fun _=>wS trivial) fun _=>wi (by omega) (ih (by omega))))
 unfold zG uE
 exact u1 (wL (a 0 (Nat.zero_le _))) fun _=>wI (fun _=>wS trivial) fun _=>wS trivial
theorem t90 (h:∀y∈l,∃z,y=D.int .i64 z) (hn:l.length≤1000000000) (s2:ByteArray) (z3 z4:Int) (l5:List D):Tl fun n=>zH n l s2 z3 z4 l5:=by
 have a:∀i,i≤l.length→∀s2 z3 z4 l5,Tl fun n=>NW n l l.length i s2 z3 z4 l5:=Al _ fun i hi ih s2 z3 z4 l5=>wU (by
  simp only[NW,F87]
  refine wI (fun h2=>gi (by omega) fun x hx=>?_) fun _=>wS trivial
  obtain⟨s,rfl⟩:=h x (List.mem_of_getElem? hx)
  exact dZ (u5 (wI (fun _=>wS trivial) fun _=>wL (wI (fun _=>wS trivial) fun _=>wS trivial)) fun _ _ _ _ _=>wI (fun _=>wS trivial) fun _=>wi (by omega) (ih (by omega) _ _ _ _)))
 unfold zH uF
 exact u5 (wL (a 0 (Nat.zero_le _) _ _ _ _)) fun _ _ _ _ _=>wI (fun _=>wS trivial) fun _=>wS trivial
theorem t127 (h:Is l) (z:Int):Tl fun n=>mW n l z:=by
 have a:∀i,i≤l.length→Tl fun n=>NX n l z l.length i:=Al _ fun i hi ih=>wU (by
  have:=h.2
  simp only[NX]
  refine wI (fun h2=>gi (by omega) fun x hx=>?_) fun _=>wS trivial
  obtain⟨s,rfl⟩:=h.1 x (List.mem_of_getElem? hx)
  exact dZ (wI (fun _=>wS trivial) fun _=>wi (by omega) (ih (by omega))))
 unfold mW uG
 exact u1 (wL (a 0 (Nat.zero_le _))) fun _=>wI (fun _=>wS trivial) fun _=>wS trivial
end
section
variable {l1:List D}(h1:∀x∈l1,∃s,Fn s x)
include h1
theorem t91 {l15:List D}(hi:Is l15) (z2:Int) (l3:List D) (s4:ByteArray) (z5 z6:Int) (l7:List D) (s8:ByteArray) (z9 z10:Int) (b11 b12 b13 b14:Bool) (z16 z17 z18 z19:Int) (l20 l21:List D) (z22:Int) (s23:ByteArray) (l24:List D) (z25 z26:Int):Tl fun n=>zI n l1 z2 l3 s4 z5 z6 l7 s8 z9 z10 b11 b12 b13 b14 l15 z16 z17 z18 z19 l20 l21 z22 s23 l24 z25 z26:=by
 unfold zI
 repeat' first | exact wS trivial | with_reducible refine wI (fun _=>?_) fun _=>?_ | with_reducible refine wL ?_ | with_reducible refine wB ?_ | with_reducible refine wT ?_ | with_reducible refine wZ ?_ | with_reducible refine u1 (t127 hi _) fun _=>?_ | with_reducible refine gf h1 (by omega) fun _ _ _ _ _=>?_
theorem t38 {z5:Int}(hz:0≤z5∧z5≤255) {l9 l10:List D}(h9:∀y∈l9,∃z,y=D.int .i64 z) (h10:Nm l10) (z2:Int) (l3:List D) (z4 z6 z7 z8 z11:Int) (s12:ByteArray) (l13:List D):Tl fun n=>F38 n l1 z2 l3 z4 z5 z6 z7 z8 l9 l10 z11 s12 l13:=by
 unfold F38
 refine c9 (t39 hz) fun s14 z15 z16 b17 b18 b19 b20 l21 b22 hi=>wB (wI (fun _=>wS trivial) fun _=>wI (fun _=>wS trivial) fun _=>wL (wI (fun _=>wS trivial) fun _=>gf h1 (by omega) fun s26 z27 z28 l29 _=>?_))
 have e3:∀b s62 z63 z64 l65,Tl fun n=>KW n l1 z2 l3 z5 z6 z7 z8 l9 l10 z11 s12 l13 s14 z15 z16 b17 b18 b19 b20 l21 b s62 z63 z64 l65:=fun b s62 z63 z64 l65=>wU (by
  simp only[KW]
  repeat' first | exact wS trivial | with_reducible refine wI (fun _=>?_) fun _=>?_ | with_reducible refine wL ?_ | with_reducible refine wB ?_ | with_reducible refine wT ?_ | with_reducible refine wZ ?_ | with_reducible refine u1 (t91 h1 hi _ _ _ _ _ _ _ _ _ _ _ _ _ _ _ _ _ _ _ _ _ _ _ _) fun _=>?_)
 have e2:∀b,Tl fun n=>KX n l1 z2 l3 z5 z6 z7 z8 l9 l10 z11 s12 l13 s14 z15 z16 b17 b18 b19 b20 l21 s26 z27 z28 l29 b:=fun b=>wU (by
  simp only[KX]
  repeat' first | exact wS trivial | with_reducible refine wI (fun _=>?_) fun _=>?_ | with_reducible refine wL ?_ | with_reducible refine wB ?_ | with_reducible refine wT ?_ | with_reducible refine wZ ?_ | with_reducible refine u5 (t90 h9 (by omega) _ _ _ _) fun _ _ _ _ _=>?_ | with_reducible refine e3 _ _ _ _ _)
 have e1:∀b,Tl fun n=>GG n l1 z2 l3 z5 z6 z7 z8 l9 l10 z11 s12 l13 s14 z15 z16 b17 b18 b19 b20 l21 s26 z27 z28 l29 b:=fun b=>wU (by
  simp only[GG]
  repeat' first | exact wS trivial | with_reducible refine wI (fun _=>?_) fun _=>?_ | with_reducible refine wL ?_ | with_reducible refine wB ?_ | with_reducible refine wT ?_ | with_reducible refine wZ ?_ | with_reducible refine u1 (t89 h10 (by omega)) fun _=>?_ | with_reducible refine e2 _)
 repeat' first | exact wS trivial | with_reducible refine wI (fun _=>?_) fun _=>?_ | with_reducible refine wL ?_ | with_reducible refine wB ?_ | with_reducible refine wT ?_ | with_reducible refine wZ ?_ | with_reducible refine u1 (t88 _ _ _ _ _ _ _ _ _ _ _ _ _ _ _ _ _) fun _=>?_ | with_reducible refine u1 (t37 _) fun _=>?_ | with_reducible refine e1 _
theorem t16 {l3:List D}(h3:∀x∈l3,Kd x) (z2:Int):Tl fun n=>uW n l1 z2 l3:=by
 unfold uW
 refine wL (wI (fun _=>wS trivial) fun hn=>wI (fun _=>wS trivial) fun _=>wL (wI (fun _=>wS trivial) fun _=>gf h1 (by omega) fun _ _ _ _ _=>wI (fun _=>u1 (t36 h3) fun _=>wB (wI (fun _=>wS trivial) fun _=>wL ?_)) fun _=>wS trivial))
 have a:∀i,i≤l1.length→Tl fun n=>TT n l1 z2 l3 l1.length i l1:=Al _ fun i hi ih=>wU (by
  simp only[TT]
  refine wI (fun h=>gf h1 (by omega) fun s p z co hc=>u1 (t37 s) fun _=>wB (wI (fun _=>wS trivial) fun _=>wI (fun _=>wS trivial) fun _=>wI (fun _=>wS trivial) fun _=>wI (fun _=>wS trivial) fun _=>wL (wI (fun _=>wS trivial) fun hl=>wL ?_))) fun _=>wS trivial
  have b:∀j,j≤co.length→Tl fun n=>TU n l1 z2 l3 l1.length i l1 co co.length i j:=Al _ fun j hj ih2=>wU (by
   simp only[TU]
   refine wI (fun h=>gi (by omega) fun x hx=>?_) fun _=>wi (by omega) (ih (by omega))
   obtain⟨op,a,b,c,v,s,ks,ps,vs,rfl,h1',h2,h3,h4⟩:=hc x (List.mem_of_getElem? hx)
   exact dc (u1 (t38 h1 ⟨h1',h2⟩ h3 h4 _ _ _ _ _ _ _ _ _) fun _=>wI (fun _=>wi (by omega) (ih2 (by omega))) fun _=>wS trivial))
  exact b 0 (Nat.zero_le _))
 exact a 0 (Nat.zero_le _)
end
end Go.Proofs.YtjfmnfncmfepnaaGreatDoor
end
set_option linter.unusedVariables false
noncomputable section
namespace Go.Proofs.YtjfmnfncmfepnaaGreatDoor
open Go Go.AM
def zJ:D→Nat
 | .agg [.int _ k,_,_,_,_,_,.list _ _ body,_,_,_,_,_,_,_,_,_]=>if k=3 then 1+CJ body else 0
 | _=>0
def JK:List D→Nat
 | []=>0
 | x::l=>zJ x+JK l
theorem NY {l:List D}{i:Nat}{x:D}(h:l[i]?=some x):JK (l.drop i)=zJ x+JK (l.drop (i+1)):=by
 obtain⟨hi,rfl⟩:=List.getElem?_eq_some_iff.1 h
 rw[List.drop_eq_getElem_cons hi,JK]
theorem LA (l:List D):AB Ac 90 l→CJ l≤AU l:=by
 induction l using Hw with | H l IH
 intro hl
 have a:∀i,i≤l.length→CJ (l.drop i)≤AU (l.drop i):=Al _ fun i hi ih=>by
  by_cases h:i<l.length
  ·have hx:l[i]?=some l[i]:=List.getElem?_eq_getElem h
   generalize l[i]=x at hx
   have h1:=Ff hx
   have h2:=Bz hx
   have h3:=BN l i
   have ih:=ih h
   obtain⟨op,_,_,_,_,_,_,_,_,_,_,body,els,arms,_,rfl,_,_,_,_,_,_,_,_,_,_,_,hbo,hel,har,_⟩:=qO (hl.mem hx)
   simp only[sp]at h1
   simp only[wt,AU]at h2
   have hb:=IH body (by omega) hbo
   have he:=IH els (by omega) hel
   have ha:∀j,j≤arms.length→CJ (arms.drop j)≤AU (arms.drop j):=Al _ fun j hj ih=>by
    by_cases h:j<arms.length
    ·have hy:arms[j]?=some arms[j]:=List.getElem?_eq_getElem h
     generalize arms[j]=y at hy
     have g1:=Ff hy
     have g2:=Bz hy
     have g3:=BN arms j
     have ih:=ih h
     obtain⟨_,_,b,rfl,_,_,hbb⟩:=Wy (har.mem hy)
     simp only[sp]at g1
     simp only[wt,AU]at g2
     grind
    ·rw[List.drop_eq_nil_of_le (by omega)];exact Nat.le_refl _
   have ha:=ha 0 (Nat.zero_le _)
   grind
  ·rw[List.drop_eq_nil_of_le (by omega)];exact Nat.le_refl _
 simpa using a 0 (Nat.zero_le _)
theorem Qz {l:List D}(hl:AB Ac 56 l):JK l≤AU l:=by
 have a:∀i,i≤l.length→JK (l.drop i)≤AU (l.drop i):=Al _ fun i hi ih=>by
  by_cases h:i<l.length
  ·have hx:l[i]?=some l[i]:=List.getElem?_eq_getElem h
   generalize l[i]=x at hx
   have h1:=NY hx
   have h2:=Bz hx
   have ih:=ih h
   obtain⟨k,_,_,_,_,_,body,_,_,_,_,_,_,_,_,_,rfl,_,_,_,_,_,_,hbo,_⟩:=kE (hl.mem hx)
   simp only[zJ]at h1
   simp only[wt,AU]at h2
   have:=LA body hbo
   split at h1<;>omega
  ·rw[List.drop_eq_nil_of_le (by omega)];exact Nat.le_refl _
 simpa using a 0 (Nat.zero_le _)
def P9 (l:List D):List D→Int→List D→Int→Prop:=fun fu mn ki e=>(e=0∧fu.length=JK l∧(∃(j:Nat) (vs:List D),mn=j∧fu[j]?=some (.agg (.str E4::vs)))∧(∀x∈fu,∃s,Fn s x)∧(∀x∈l,iQ x)∧Ev (fun n=>uW n fu mn ki) 0)∨(e≠0∧fu=[]∧mn=0∧ki=[])
def Mz (mn:Int) (fu rest:List D):Prop:=(∃(j:Nat) (vs:List D),mn=j∧fu[j]?=some (.agg (.str E4::vs)))∨Mn rest
theorem Mz.app {mn:Int}{fu rest:List D}{x:D}(h:Mz mn fu rest):Mz mn (fu++[x]) rest:=by
 rcases h with⟨j,vs,e,h⟩ | h
 ·exact .inl ⟨j,vs,e,by grind⟩
 ·exact .inr h
theorem d73 {γ:Type}{P:γ→Prop}{ns b:List D}{k:Nat→List D→List D→Option γ}(h:Wp (fun n=>k n ns b) P):Wp (fun n=>Jb (.agg [.list false 1 ns,.list true 15 b]) (k n)) P:=h
section
variable {l:List D}(hl:AB Ac 56 l) (hw:AU l≤20000)
include hl hw
theorem t9e (hit:∀x∈l,iQ x) (z5:Int) {ki:List D}(hk:∀x∈ki,Kd x) (mn:Int) {j:Nat}{vs:List D}(hm:mn=(j:Int)):
  ∀(m:Nat) (i:Nat) {s:ByteArray} {z1 z2:Int} {fu' lf:List D},lw (lf.drop i)=m→i≤lf.length→(∀x∈lf,Lf x)→(∀x∈fu',∃s,Fn s x)→fu'[j]?=some (.agg (.str E4::vs))→fu'.length+lw (lf.drop i)=JK l→i≤fu'.length→W4 (fun n=>Zx n z5 i l mn s z1 z2 fu' ki lf) (P9 l):=by
 intro m
 induction m using Nat.strongRecOn with | _ m IH
 intro i s z1 z2 fu' lf hm2 hi hlf hfu hj2 htot hll
 have htw:=Qz hl
 have hdl:=Qy (a:=lf.drop i) fun x hx=>hlf x (List.mem_of_mem_drop hx)
 rw[List.length_drop]at hdl
 refine wU ?_
 simp only[Zx,Int.toNat_natCast]
 refine wL (wI (fun h=>wN (by omega) (wK (by omega) fun x hx=>?_)) fun h=>?_)
 ·obtain⟨ns,body,rfl,h1,h2,⟨d,h3⟩,h4⟩:=hlf x (List.mem_of_getElem? hx)
  have hlw:lw (lf.drop i)=1+CJ body+lw (lf.drop (i+1)):=by
   obtain⟨hi,e⟩:=List.getElem?_eq_some_iff.1 hx
   rw[List.drop_eq_getElem_cons hi,e,lw,lwr]
  have hn:=EM h1
  refine d73 (wN (by omega) (wK (by omega) fun y hy=>?_))
  rw[hx]at hy
  cases hy
  refine d73 (c9 (t22 hl hw (fun x hx=>by
   obtain⟨s,rfl,_⟩:=uP (h1.2 x hx)
   exact⟨s,rfl⟩) (by omega) h2 h3 (by omega) .nil .nil (by simp[AU]) (by decide) (by omega) (by grind) HI 0 ByteArray.empty ByteArray.empty ByteArray.empty 0 z5 s z1 z2) fun it' mn' _ _ _ fu2 ki' lf2 _ ⟨e1,e2,e3,⟨e,e4,h5,h6⟩,x,e5,h7⟩=>?_)
  subst e1;subst e2;subst e3;subst e4;subst e5
  have hd:(lf++e).drop (i+1)=lf.drop (i+1)++e:=List.drop_append_of_le_length (by omega)
  have hl2:=Qy h5
  refine wi (by omega) (IH (lw ((lf++e).drop (i+1))) (by rw[hd,Qx];omega) (i+1) rfl (by simp;omega) (fun x hx=>(List.mem_append.1 hx).elim (hlf x) (h5 x)) (fun x hx=>(List.mem_append.1 hx).elim (hfu x) fun hx=>⟨HI,by simp_all⟩) (by grind) (by rw[hd,Qx];simp;omega) (by simp;omega))
 ·obtain⟨r,hr,_⟩:=t16 hfu hk mn
  refine c1 (Q:=fun r'=>r'=r) ⟨r,hr,rfl⟩ fun r' e=>wI (fun e0=>wS (.inl ⟨rfl,?_,⟨j,vs,hm,hj2⟩,hfu,hit,?_⟩)) fun _=>wS (.inr ⟨by decide,rfl,rfl,rfl⟩)
  ·rw[List.drop_eq_nil_of_le (by omega)]at htot
   simpa [lw] using htot
  simp_all
omit hl hw in
theorem Mn.step {i:Nat}{x:D}(hx:l[i]?=some x) (h:∀vs,x≠ .agg (.int .u8 3::.str E4::vs)) (hm:Mn (l.drop i)):Mn (l.drop (i+1)):=by
 obtain⟨vs,hv⟩:=hm
 rw[drop_at hx]at hv
 rcases List.mem_cons.1 hv with e | hv
 ·grind
 ·exact⟨vs,hv⟩
theorem t9a (hit:∀x∈l,iQ x) (z5:Int) {ki:List D}(hk:∀x∈ki,Kd x):∀i,i≤l.length→∀{s:ByteArray}{z1 z2 mn:Int}{fu lf:List D},(∀x∈lf,Lf x)→(∀x∈fu,∃s,Fn s x)→fu.length+lw lf+JK (l.drop i)=JK l→Mz mn fu (l.drop i)→W4 (fun n=>Xh n z5 l l.length i l mn s z1 z2 fu ki lf) (P9 l):=Al _ fun i hi ih s z1 z2 mn fu lf hlf hfu htot hmz=>wU (by
 have:=hl.le
 have htw:=Qz hl
 have hdl:=Qy hlf
 have hdi:=BN l i
 simp only[Xh]
 refine wI (fun h=>oM hl (by omega) fun k s1 l3 y4 s5 l6 l7 y8 y9 s10 s11 s12 l13 l14 y15 y16 hx hw' _ _ h3 _ _ h6 h7 h8 _ _ _ _ h13 h14 _ _=>?_) fun h=>?_
 ·have ht:=NY hx
  simp only[zJ]at ht
  refine wI (fun hk3=>?_) fun hk3=>wi (by omega) (ih (by omega) hlf hfu (by simp_all) (hmz.imp_right (Mn.step hx fun vs e=>hk3 (by cases e;rfl))))
  rw[if_pos hk3]at ht
  obtain⟨w1,w2,w3⟩:=hit _ (List.mem_of_getElem? hx) hk3
  have hsw:=LA l7 h7
  have h13n:=EM h13
  have hl3:l3.length≤AU l3:=JF fun x hx=>by
   obtain⟨_,_,_,_,rfl,_⟩:=kD (h3.2 x hx)
   exact⟨_,rfl⟩
  have a:∀mn',(∀x,Fn s1 x→Mz mn' (fu++[x]) (l.drop (i+1)))→W4 (fun n=>Zy n z5 l l.length i l s z1 z2 fu ki lf s1 l3 l7 y8 y9 s10 s11 s12 l13 l14 y15 mn') (P9 l):=fun mn' hmz'=>wU (by
   simp only[Zy]
   have b:∀j,j≤l3.length→∀{ns:List D},Nm ns→ns.length=j→W4 (fun n=>Zz n z5 l l.length i l s z1 z2 fu ki lf s1 l3 l7 y8 y9 s10 s11 s12 l13 l14 y15 mn' l3.length j l3 ns) (P9 l):=Al _ fun j hj ih2 ns hns hnl=>wU (by
    simp only[Zz]
    refine wI (fun h=>XF h3 (by omega) fun f _ _ _ _ _ _ _ _ _=>wX (wA (ap (by simp;omega) (by omega)) (wi (by omega) (ih2 (by omega) (VM hns fun x hx=>⟨_,List.mem_singleton.1 hx⟩) (by simp[hnl]))))) fun _=>c9 (t22 hl hw hns (by omega) h7 w3 (by omega) h13 h14 (by omega) h8 (by omega) (by omega) s1 y9 s10 s11 s12 y15 z5 s z1 z2) fun it' mn2 _ _ _ fu2 ki' lf2 _ ⟨e1,e2,e3,⟨e,e4,h5,h6⟩,x,e5,h7⟩=>?_
    subst e1;subst e2;subst e3;subst e4;subst e5
    exact wi (by omega) (ih (by omega) (fun x hx=>(List.mem_append.1 hx).elim (hlf x) (h5 x)) (fun x hx=>(List.mem_append.1 hx).elim (hfu x) fun hx=>⟨s1,by simp_all⟩) (by rw[Qx];simp;omega) (hmz' x h7)))
   exact wL (b 0 (Nat.zero_le _) nx rfl))
  exact wI (fun es=>wL (a _ fun x ⟨p,z,co,e,_⟩=>.inl ⟨fu.length,[.int .i64 p,.int .i64 z,.list true 9 co],rfl,by simp[e,es]⟩)) fun es=>a mn fun x _=>Mz.app (hmz.imp_right (Mn.step hx fun vs e=>es (by cases e;rfl)))
 ·rw[List.drop_eq_nil_of_le (by omega)]at htot hmz
  rcases hmz with⟨j,vs,hm,hj⟩ | ⟨vs,h⟩
  ·exact t9e hl hw hit z5 hk mn hm _ 0 rfl (Nat.zero_le _) hlf hfu hj (by simpa [JK] using htot) (Nat.zero_le _)
  ·cases h)
theorem t9:W4 (fun n=>F9 n l) (P9 l):=by
 have hlen:l.length≤AU l:=JF fun x hx=>by
  obtain⟨_,_,_,_,_,_,_,_,_,_,_,_,_,_,_,_,rfl,_⟩:=kE (hl.2 x hx)
  exact⟨_,rfl⟩
 unfold F9
 refine c1 (t20 hl hw (by omega)) fun q hq=>wL (wI (fun _=>wS (.inr ⟨by decide,rfl,rfl,rfl⟩)) fun h0=>wL ?_)
 obtain⟨hit,hmn⟩:=hq (List.length_eq_zero_iff.1 (by omega))
 have a:∀i,i≤l.length→∀z5 {ki:List D},(∀x∈ki,Kd x)→ki.length≤i→W4 (fun n=>Xi n l l.length z5 i l l ki) (P9 l):=Al _ fun i hi ih z5 ki hk hkl=>wU (by
  have hdi:=BN l i
  simp only[Xi]
  exact wI (fun h=>oM hl (by omega) fun k s1 l3 y4 s5 l6 l7 y8 y9 s10 s11 s12 l13 l14 y15 y16 hx hw' _ _ h3 _ _ _ _ _ _ _ _ _ _ _ _ _=>wI (fun _=>wT (wi (by omega) (ih (by omega) _ hk (by omega)))) fun _=>u3 (t21 h3 (by omega) _ _ _ _ _ _ _ _ _ _ _ _ _ _ _) fun b1 b2 b3=>wA (ap (by simp;omega) (by omega)) (wi (by omega) (ih (by omega) _ (fun x hx=>(List.mem_append.1 hx).elim (hk x) fun hx=>⟨b1,0,0,0,0,0,b2,ByteArray.empty,ByteArray.empty,ByteArray.empty,ByteArray.empty,b3,[],[],[],[],List.mem_singleton.1 hx⟩) (by simp;omega)))) fun _=>wL (t9a hl hw hit z5 hk 0 (Nat.zero_le _) nx nx (by simp[lw]) (.inr (by simpa using hmn))))
 exact a 0 (Nat.zero_le _) 0 nx (Nat.zero_le _)
end
end Go.Proofs.YtjfmnfncmfepnaaGreatDoor
end
set_option linter.unusedVariables false
noncomputable section
namespace Go.Proofs.YtjfmnfncmfepnaaGreatDoor
open Go Go.AM
def PI:Nat->BA->Int->Bool->Option (Int)
 | 0,_,_,_=>none
 | n+1,a,b,c=>
  (if c=true then some (-1)else AW (IntKind.wrap .i64 (b - 5)) fun d=>Xn a fun e=>AW (IntKind.wrap .i64 (d - e)) fun f=>some f)
def WA (n:Nat) (b:BA) (a:Int):Option (Int):=
 (if a<5 then PI n b a true else Xn b fun c=>AW (IntKind.wrap .i64 (a - 5)) fun d=>(if d<c then PI n b a true else PI n b a false))
noncomputable def X49:AH:=⟨49,Tryz.f49,false,[.p (.ext 0) 0,.s],[.c [.z]],[⟨.tup [],[.c [.z]],[]⟩],Int,ii,WA,.e,[⟨5,[0,1,18],[.ext 0],480,[.p (.ext 0) 0,.s,.b],[.c [.z]],fun n a d f=>PI n a f d,.e⟩],none,[]⟩
noncomputable def uH:Kz:=sg X49 [] Tryz.func49
mutual
def TV:Nat->LD->Int->Int->Option (Int)
 | 0,_,_,_=>none
 | n+1,a,c,b=>
  AP a fun i=>(if c<i then (if 0<=b then An a c fun j=>Fx j fun d e f=>Av (pH n d e f b) fun g=>AW (IntKind.wrap .i64 (c+1)) fun h=>TV n a h g else some b)else some b)
def pH:Nat->Int->BA->LD->Int->Option (Int)
 | 0,_,_,_,_=>none
 | n+1,o,k,a,l=>
  Av (WA n k l) fun m=>TV n a 0 m
end
noncomputable def X51:AH:=⟨51,Tryz.f51,false,[.p (.ext 0) 0,.agg [.y,.str,.q 3]],[.c [.z]],[⟨.tup [],[.c [.z]],[]⟩],Int,ii,pH,.e,[⟨30,[0,3,4],[.ext 0,.loc 0],192,[.p (.ext 0) 0,.p (.loc 0) 0,.z],[.c [.z],.c [.y,.str,.q 3]],fun n a b _ _ d=>TV n d a b,.e⟩],none,[]⟩
theorem K51:Be Tryz.prog inv (EB [X51]):=gr [uH] ⟨ge Tryz.func51,trivial⟩
noncomputable def k51:Kz:=⟨X51.c,K51.1⟩
def TW:Nat->LD->Int->Int->Option (Int)
 | 0,_,_,_=>none
 | n+1,a,b,c=>
  AP a fun k=>(if b<k then (if 0<=c then An a b fun l=>Co l fun m q r o=>Av (WA n m c) fun d=>An a b fun e=>Co e fun p f g h=>Av (pH n f g h d) fun i=>AW (IntKind.wrap .i64 (b+1)) fun j=>TW n a j i else some c)else some c)
def F50 (n:Nat) (a:LD) (b:Int):Option (Int):=
 TW n a 0 b
noncomputable def X50:AH:=⟨50,Tryz.f50,false,[.p (.ext 0) 0,.q 4],[.c [.z]],[⟨.tup [],[.c [.z]],[]⟩],Int,ii,F50,.e,[⟨6,[0,1,4],[.ext 0],32,[.p (.ext 0) 0,.q 4,.z],[.c [.z]],TW,.e⟩],none,[]⟩
noncomputable def k50:Kz:=sg X50 [uH,k51] Tryz.func50
def NZ:Nat->LD->Int->Int->Option (Int)
 | 0,_,_,_=>none
 | n+1,b,c,a=>
  AP b fun e=>(if c<e then (if 0<=a then An b c fun f=>CG f fun g=>Av (WA n g a) fun h=>AW (IntKind.wrap .i64 (c+1)) fun d=>NZ n b d h else some a)else some a)
def Z1 (n:Nat) (a:LD) (b:Int):Option (Int):=
 AW (IntKind.wrap .i64 (b - 5)) fun c=>NZ n a 0 c
noncomputable def AHp:AH:=⟨102,Tryz.f102,false,[.p (.ext 0) 0,.f 1],[.c [.z]],[⟨.tup [],[.c [.z]],[]⟩],Int,ii,Z1,.e,[⟨14,[0,1,4],[.ext 0],320,[.p (.ext 0) 0,.f 1,.z],[.c [.z]],NZ,.e⟩],none,[]⟩
noncomputable def zK:Kz:=sg AHp [uH] Tryz.func102
def Z2 (n:Nat) (a:BA) (b:LD) (c:Int):Option (Int):=
 Av (WA n a c) fun d=>Av (Z1 n b d) fun e=>some e
noncomputable def AHq:AH:=⟨103,Tryz.f103,false,[.p (.ext 0) 0,.agg [.str,.f 1]],[.c [.z]],[⟨.tup [],[.c [.z]],[]⟩],Int,ii,Z2,.e,[],none,[]⟩
noncomputable def zL:Kz:=sg AHq [zK,uH] Tryz.func103
mutual
def TX:Nat->LD->Int->Int->Option (Int)
 | 0,_,_,_=>none
 | n+1,c,b,a=>
  AP c fun d=>(if b<d then (if 0<=a then An c b fun e=>CQ e fun f g h i j k l m=>Av (uI n f g h i j k l m a) fun o=>AW (IntKind.wrap .i64 (b+1)) fun p=>TX n c p o else some a)else some a)
def uI:Nat->Int->Int->BA->BA->BA->LD->LD->Int->Int->Option (Int)
 | 0,_,_,_,_,_,_,_,_,_=>none
 | n+1,y,z,t,u,v,w,c,A,x=>
  Av (WA n t x) fun q=>Av (WA n u q) fun r=>Av (Z2 n v w r) fun s=>TX n c 0 s
end
noncomputable def X53:AH:=⟨53,Tryz.f53,false,[.p (.ext 0) 0,.agg [.y,.z,.str,.str,.str,.f 1,.q 8,.z]],[.c [.z]],[⟨.tup [],[.c [.z]],[]⟩],Int,ii,uI,.e,[⟨126,[0,3,4],[.ext 0,.loc 0],448,[.p (.ext 0) 0,.p (.loc 0) 0,.z],[.c [.z],.c [.y,.z,.str,.str,.str,.f 1,.q 8,.z]],fun n a b _ _ _ _ _ _ d _=>TX n d a b,.e⟩],none,[]⟩
theorem K53:Be Tryz.prog inv (EB [X53]):=gr [zL,uH] ⟨ge Tryz.func53,trivial⟩
noncomputable def k53:Kz:=⟨X53.c,K53.1⟩
mutual
def TZ:Nat->LD->Int->Int->Option (Int)
 | 0,_,_,_=>none
 | n+1,b,c,m=>
  AP b fun z5=>(if c<z5 then (if 0<=m then An b c fun x6=>Cp x6 fun z7 s8 s9 o p q r af s t g d e a ag=>Av (WA n s8 m) fun u=>Av (WA n s9 u) fun v=>Av (Z1 n o v) fun w=>Av (pH n p q r w) fun x=>Av (Z2 n s t x) fun y=>Ta n b c g d e a 0 y else some m)else some m)
def Ta:Nat->LD->Int->LD->LD->LD->LD->Int->Int->Option (Int)
 | 0,_,_,_,_,_,_,_,_=>none
 | n+1,b,c,g,d,e,a,h,j=>
  AP g fun z=>(if h<z then (if 0<=j then An g h fun A=>CQ A fun B C E F G H I J=>Av (uI n B C E F G H I J j) fun K=>AW (IntKind.wrap .i64 (h+1)) fun L=>Ta n b c g d e a L K else Tb n b c d e a h j)else Tb n b c d e a h j)
def Tb:Nat->LD->Int->LD->LD->LD->Int->Int->Option (Int)
 | 0,_,_,_,_,_,_,_=>none
 | n+1,b,c,d,e,a,i,l=>
  (if l<0 then some l else Av (mX n d l) fun M=>Av (mX n e M) fun N=>Tc n b c a i 0 N)
def Tc:Nat->LD->Int->LD->Int->Int->Int->Option (Int)
 | 0,_,_,_,_,_,_=>none
 | n+1,b,c,a,i,f,k=>
  AP a fun O=>(if f<O then (if 0<=k then An a f fun P=>EA P fun Q ah ai=>Av (WA n Q k) fun R=>An a f fun S=>EA S fun aj T ak=>Av (WA n T R) fun U=>An a f fun V=>EA V fun al am W=>Av (mX n W U) fun X=>AW (IntKind.wrap .i64 (f+1)) fun Y=>Tc n b c a i Y X else Td n b c i f k)else Td n b c i f k)
def Td:Nat->LD->Int->Int->Int->Int->Option (Int)
 | 0,_,_,_,_,_=>none
 | n+1,b,c,an,ao,Z=>
  AW (IntKind.wrap .i64 (c+1)) fun aa=>TZ n b aa Z
def mX:Nat->LD->Int->Option (Int)
 | 0,_,_=>none
 | n+1,b,z2=>
  TZ n b 0 z2
end
noncomputable def X52:AH:=⟨52,Tryz.f52,false,[.p (.ext 0) 0,.q 15],[.c [.z]],[⟨.tup [],[.c [.z]],[]⟩],Int,ii,mX,.e,[⟨6,[0,1,4],[.ext 0],32,[.p (.ext 0) 0,.q 15,.z],[.c [.z]],TZ,.e⟩,
 ⟨51706,[0,1,4,5,6],[.ext 0,.loc 512],1248,[.p (.ext 0) 0,.q 15,.z,.p (.loc 512) 0,.z],[.c [.z],.c [.y,.str,.str,.f 1,.y,.str,.q 3,.z,.str,.f 1,.q 8,.q 15,.q 15,.q 3,.z]],fun n h i j k _ _ _ _ _ _ _ _ _ _ l b d a _=>Ta n h i l b d a j k,.e⟩,
 ⟨12927,[0,1,4,5,6],[.ext 0,.loc 512],1632,[.p (.ext 0) 0,.q 15,.z,.p (.loc 512) 0,.z],[.c [.z],.c [.y,.str,.str,.f 1,.y,.str,.q 3,.z,.str,.f 1,.q 8,.q 15,.q 15,.q 3,.z]],fun n h i g m _ _ _ _ _ _ _ _ _ _ _ b d a _=>Tb n h i b d a g m,.e⟩,
 ⟨413694,[0,1,4,5,6,7],[.ext 0,.loc 512],2080,[.p (.ext 0) 0,.q 15,.z,.p (.loc 512) 0,.z,.z],[.c [.z],.c [.y,.str,.str,.f 1,.y,.str,.q 3,.z,.str,.f 1,.q 8,.q 15,.q 15,.q 3,.z]],fun n h i g o r _ _ _ _ _ _ _ _ _ _ _ _ _ a _=>Tc n h i a g o r,.e⟩,
 ⟨51,[0,1,4,6,7],[.ext 0],2464,[.p (.ext 0) 0,.q 15,.z,.z,.z],[.c [.z]],Td,.e⟩],none,[]⟩
theorem K52:Be Tryz.prog inv (EB [X52]):=gr [zK,zL,uH,k51,k53] ⟨ge Tryz.func52,trivial⟩
noncomputable def k52:Kz:=⟨X52.c,K52.1⟩
def Te:Nat->Int->Option (Bool)
 | 0,_=>none
 | n+1,a=>
  (if a<0 then some true else some false)
def Tf:Nat->LD->Int->Int->Option (Bool)
 | 0,_,_,_=>none
 | n+1,b,c,a=>
  AP b fun v=>(if c<v then (if 0<=a then An b c fun w=>Bo w fun B x y z d e f g h i j k l m o A=>Av (WA n x a) fun p=>Av (F50 n y p) fun q=>Av (pH n z d e q) fun r=>Av (mX n f r) fun s=>Av (uI n g h i j k l m o s) fun t=>AW (IntKind.wrap .i64 (c+1)) fun u=>Tf n b u t else Te n a)else Te n a)
def F19 (n:Nat) (a:LD):Option (Bool):=
 Tf n a 0 20000
noncomputable def X19:AH:=⟨19,Tryz.f19,false,[.agg [.q 16]],[],[⟨.one (.b),[],[]⟩],Bool,ii,F19,.e,[⟨58,[1,2,3,4],[.loc 0,.loc 96],192,[.p (.loc 0) 0,.one (.cb false),.p (.loc 96) 0,.z],[.c [.q 16],.c [.z]],fun n a d f=>Tf n d a f,.e⟩,
 ⟨15,[2,3],[.loc 96],576,[.one (.cb false),.p (.loc 96) 0],[.c [.z]],Te,.e⟩],none,[]⟩
noncomputable def k19:Kz:=sg X19 [uH,k50,k51,k52,k53] Tryz.func19
def F8 (n:Nat) (a:LD):Option (Bool):=
 Av (F19 n a) fun b=>some b
noncomputable def X8:AH:=⟨8,Tryz.f8,false,[.agg [.q 16]],[],[⟨.one (.b),[],[]⟩],Bool,ii,F8,.e,[],none,[]⟩
noncomputable def k8:Kz:=sg X8 [k19] Tryz.func8
end Go.Proofs.YtjfmnfncmfepnaaGreatDoor
end
set_option linter.unusedVariables false
noncomputable section
namespace Go.Proofs.YtjfmnfncmfepnaaGreatDoor
open Go Go.AM
def Rm (z:Int) (w:Nat) (r:Int):Prop:= -10≤r∧r≤20000∧(0≤r→r+w≤z)
def Zm (z:Int):Prop:= -10≤z∧z≤20000
theorem Rm.z {z r:Int}{w:Nat}(h:Rm z w r):Zm r:=⟨h.1,h.2.1⟩
theorem WB (s:ByteArray) {z:Int}(hz:Zm z):Wp (fun n=>WA n s z) fun r=>Rm z (5+s.size) r∧ -1≤r:=by
 obtain⟨h1,h2⟩:=hz
 have a:∀b:Bool,(b=false→5≤z∧(s.size:Int)≤z - 5)→Wp (fun n=>PI n s z b) (fun r=>Rm z (5+s.size) r∧ -1≤r):=fun b hb=>wU (by
  simp only[PI]
  exact wI (fun _=>wS (by unfold Rm;omega)) fun h=>by
   have:=hb (by simpa using h)
   exact wW rfl (by omega) (wZ (wW rfl (by omega) (wS (by unfold Rm;omega)))))
 unfold WA
 exact wI (fun _=>a true (by simp)) fun _=>wZ (wW rfl (by omega) (wI (fun _=>a true (by simp)) fun _=>a false fun _=>by omega))
section
variable {l:List D}
theorem zM (hl:AB Ac 9 l) {z:Int}(hz:Zm z) (h5: -5≤z):Wp (fun n=>Z1 n l z) (Rm z (5+AU l)):=by
 have a:∀i,i≤l.length→∀z,Zm z→Wp (fun n=>NZ n l i z) (Rm z (AU (l.drop i))):=Al _ fun i hi ih z hz=>wU (by
  simp only[NZ]
  have:=hl.le
  exact wL (wI (fun h=>wI (fun h0=>gs hl (by omega) fun s _ hw _=>c1 (WB s hz) fun r ⟨hr,hp⟩=>wi (by omega) (wM (ih (by omega) r hr.z) fun r2 h2=>by unfold Rm at*;omega)) fun _=>wS (by unfold Rm Zm at*;omega)) fun _=>wS (by have:=Ew (l:=l) (i:=i) (by omega);unfold Rm Zm at*;omega)))
 unfold Z1
 exact wW rfl (by unfold Zm at hz;omega) (wM (a 0 (Nat.zero_le _) _ (by unfold Zm at*;omega)) fun r h=>by simp only[List.drop_zero]at h;unfold Rm at*;omega)
theorem AHs (l:List D):AB Ac 48 l→∀i,i≤l.length→∀z,Zm z→Wp (fun n=>TV n l i z) (Rm z (AU (l.drop i))):=by
 induction l using Hw with | H l IH
 intro hl
 refine Al _ fun i hi ih z hz=>wU ?_
 have hd:=BN l i
 simp only[TV]
 have:=hl.le
 refine wL (wI (fun h=>wI (fun h0=>xI hl (by omega) fun k s l3 hx hw _ _ h3=>c1 (Q:=Rm z (AU l3+3)) (wU ?_) fun r hr=>wi (by omega) (wM (ih (by omega) r hr.z) fun r2 h2=>by unfold Rm at*;omega)) fun _=>wS (by unfold Rm Zm at*;omega)) fun _=>wS (by have:=Ew (l:=l) (i:=i) (by omega);unfold Rm Zm at*;omega))
 simp only[pH]
 exact c1 (WB s hz) fun r ⟨hr,hp⟩=>wM (IH l3 (by omega) h3 0 (Nat.zero_le _) r hr.z) fun r2 h2=>by simp only[List.drop_zero]at h2;unfold Rm at*;omega
theorem g51 (k:Int) (s:ByteArray) (hl:AB Ac 48 l) {z:Int}(hz:Zm z):Wp (fun n=>pH n k s l z) (Rm z (AU l+5)):=wU (by
 simp only[pH]
 exact c1 (WB s hz) fun r ⟨hr,hp⟩=>wM (AHs l hl 0 (Nat.zero_le _) r hr.z) fun r2 h2=>by simp only[List.drop_zero]at h2;unfold Rm at*;omega)
theorem g50 (hl:AB Ac 58 l) {z:Int}(hz:Zm z):Wp (fun n=>F50 n l z) (Rm z (AU l)):=by
 have a:∀i,i≤l.length→∀z,Zm z→Wp (fun n=>TW n l i z) (Rm z (AU (l.drop i))):=Al _ fun i hi ih z hz=>wU (by
  simp only[TW]
  have:=hl.le
  exact wL (wI (fun h=>wI (fun h0=>XF hl (by omega) fun s _ _ _ hx hw _ _ _ _=>c1 (WB s hz) fun r ⟨hr,hp⟩=>XF hl (by omega) fun _ k s2 l3 hx2 hw2 _ _ _ h3=>c1 (g51 k s2 h3 hr.z) fun r2 hr2=>wi (by omega) (wM (ih (by omega) r2 hr2.z) fun r3 h2=>by unfold Rm at*;omega)) fun _=>wS (by unfold Rm Zm at*;omega)) fun _=>wS (by have:=Ew (l:=l) (i:=i) (by omega);unfold Rm Zm at*;omega)))
 unfold F50
 exact wM (a 0 (Nat.zero_le _) _ hz) fun r h=>by simpa using h
theorem uJ (s:ByteArray) (hl:AB Ac 9 l) {z:Int}(hz:Zm z):Wp (fun n=>Z2 n s l z) (Rm z (10+AU l)):=by
 unfold Z2
 exact c1 (WB s hz) fun r ⟨hr,hp⟩=>c1 (zM hl hr.z (by omega)) fun r2 h2=>wS (by unfold Rm at*;omega)
theorem AHu (l:List D):AB Ac 54 l→∀i,i≤l.length→∀z,Zm z→Wp (fun n=>TX n l i z) (Rm z (AU (l.drop i))):=by
 induction l using Hw with | H l IH
 intro hl
 refine Al _ fun i hi ih z hz=>wU ?_
 have hd:=BN l i
 simp only[TX]
 have:=hl.le
 refine wL (wI (fun h=>wI (fun h0=>Uh hl (by omega) fun k z1 s1 s2 s3 l1 l2 z2 hx hw _ _ _ _ _ h1 h2 _=>c1 (Q:=Rm z (AU l1+AU l2+7)) (wU ?_) fun r hr=>wi (by omega) (wM (ih (by omega) r hr.z) fun r2 h2=>by unfold Rm at*;omega)) fun _=>wS (by unfold Rm Zm at*;omega)) fun _=>wS (by have:=Ew (l:=l) (i:=i) (by omega);unfold Rm Zm at*;omega))
 simp only[uI]
 exact c1 (WB s1 hz) fun r ⟨hr,_⟩=>c1 (WB s2 hr.z) fun r2 ⟨hr2,_⟩=>c1 (uJ s3 h1 hr2.z) fun r3 hr3=>wM (IH l2 (by omega) h2 0 (Nat.zero_le _) r3 hr3.z) fun r4 h4=>by simp only[List.drop_zero]at h4;unfold Rm at*;omega
theorem g53 (k z1:Int) (s1 s2 s3:ByteArray) {l1 l2:List D}(h1:AB Ac 9 l1) (h2:AB Ac 54 l2) (z2:Int) {z:Int}(hz:Zm z):Wp (fun n=>uI n k z1 s1 s2 s3 l1 l2 z2 z) (Rm z (AU l1+AU l2+7)):=wU (by
 simp only[uI]
 exact c1 (WB s1 hz) fun r ⟨hr,_⟩=>c1 (WB s2 hr.z) fun r2 ⟨hr2,_⟩=>c1 (uJ s3 h1 hr2.z) fun r3 hr3=>wM (AHu l2 h2 0 (Nat.zero_le _) r3 hr3.z) fun r4 h4=>by simp only[List.drop_zero]at h4;unfold Rm at*;omega)
theorem AHv (l:List D):AB Ac 90 l→∀i,i≤l.length→∀z,Zm z→Wp (fun n=>TZ n l i z) (Rm z (AU (l.drop i))):=by
 induction l using Hw with | H l IH
 intro hl
 have f52:∀m,AB Ac 90 m→AU m<AU l→∀z,Zm z→Wp (fun n=>mX n m z) (Rm z (AU m)):=fun m hm h z hz=>wU (by
  simp only[mX]
  exact wM (IH m h hm 0 (Nat.zero_le _) z hz) fun r h=>by simpa using h)
 refine Al _ fun i hi ih z hz=>wU ?_
 have hd:=BN l i
 have hle:=hl.le
 simp only[TZ]
 refine wL (wI (fun h=>wI (fun h0=>rB hl (by omega) fun _ s1 s2 l3 k s4 l4 _ s5 l5 l6 l7 l8 l9 _ hx hw _ _ _ h3 _ _ h4 _ _ h5 h6 h7 h8 h9 _=>?_) fun _=>wS (by unfold Rm Zm at*;omega)) fun _=>wS (by have:=Ew (l:=l) (i:=i) (by omega);unfold Rm Zm at*;omega))
 have b5:∀y z' z,Zm z→Wp (fun n=>Td n l i y z' z) (Rm z (AU (l.drop (i+1)))):=fun y z' z hz=>wU (by
  simp only[Td]
  exact wi (by omega) (ih (by omega) z hz))
 have b4:∀y k,k≤l9.length→∀z,Zm z→Wp (fun n=>Tc n l i l9 y k z) (Rm z (AU (l9.drop k)+AU (l.drop (i+1)))):=fun y=>Al _ fun k hk ih4 z hz=>wU (by
  simp only[Tc]
  have:=h9.le
  have hd9:=BN l9 k
  exact wL (wI (fun h=>wI (fun h0=>kM h9 (by omega) fun a1 _ _ hy _ _ _ _=>c1 (WB a1 hz) fun r ⟨hr,_⟩=>kM h9 (by omega) fun _ a2 _ hy _ _ _ _=>c1 (WB a2 hr.z) fun r2 ⟨hr2,_⟩=>kM h9 (by omega) fun _ _ m hy hv _ _ hm=>c1 (f52 m hm (by omega) r2 hr2.z) fun r3 hr3=>wi (by omega) (wM (ih4 (by omega) r3 hr3.z) fun r4 h4=>by unfold Rm at*;omega)) fun _=>wM (b5 _ _ z hz) fun r h=>by unfold Rm at*;omega) fun _=>wM (b5 _ _ z hz) fun r h=>by have:=Ew (l:=l9) (i:=k) (by omega);unfold Rm at*;omega))
 have b3:∀y z,Zm z→Wp (fun n=>Tb n l i l7 l8 l9 y z) (Rm z (AU l7+AU l8+AU l9+AU (l.drop (i+1)))):=fun y z hz=>wU (by
  simp only[Tb]
  exact wI (fun h=>wS (by unfold Rm Zm at*;omega)) fun h=>c1 (f52 l7 h7 (by omega) z hz) fun r hr=>c1 (f52 l8 h8 (by omega) r hr.z) fun r2 hr2=>wM (b4 _ 0 (Nat.zero_le _) r2 hr2.z) fun r3 h3=>by simp only[List.drop_zero]at h3;unfold Rm at*;omega)
 have b2:∀k,k≤l6.length→∀z,Zm z→Wp (fun n=>Ta n l i l6 l7 l8 l9 k z) (Rm z (AU (l6.drop k)+(AU l7+AU l8+AU l9+AU (l.drop (i+1))))):=Al _ fun k hk ih2 z hz=>wU (by
  simp only[Ta]
  have:=h6.le
  exact wL (wI (fun h=>wI (fun h0=>Uh h6 (by omega) fun k z1 s1 s2 s3 l1 l2 z2 hy hv _ _ _ _ _ h1 h2 _=>c1 (g53 k z1 s1 s2 s3 h1 h2 z2 hz) fun r hr=>wi (by omega) (wM (ih2 (by omega) r hr.z) fun r4 h4=>by unfold Rm at*;omega)) fun _=>wM (b3 _ z hz) fun r h=>by unfold Rm at*;omega) fun _=>wM (b3 _ z hz) fun r h=>by have:=Ew (l:=l6) (i:=k) (by omega);unfold Rm at*;omega))
 exact c1 (WB s1 hz) fun r ⟨hr,_⟩=>c1 (WB s2 hr.z) fun r2 ⟨hr2,hq⟩=>c1 (zM h3 hr2.z (by omega)) fun r3 hr3=>c1 (g51 k s4 h4 hr3.z) fun r4 hr4=>c1 (uJ s5 h5 hr4.z) fun r5 hr5=>wM (b2 0 (Nat.zero_le _) r5 hr5.z) fun r6 h=>by simp only[List.drop_zero]at h;unfold Rm at*;omega
theorem g52 (hl:AB Ac 90 l) {z:Int}(hz:Zm z):Wp (fun n=>mX n l z) (Rm z (AU l)):=wU (by
 simp only[mX]
 exact wM (AHv l hl 0 (Nat.zero_le _) z hz) fun r h=>by simpa using h)
theorem g8 (hl:AB Ac 56 l):Wp (fun n=>F8 n l) fun b=>b=false→AU l≤20000:=by
 have e:∀z w,Rm 20000 w z→w=AU l∨z<0→Wp (fun n=>Te n z) fun b=>b=false→AU l≤20000:=fun z w h hw=>wU (by
  simp only[Te]
  exact wI (fun _=>wS (by simp)) fun h=>wS (by unfold Rm at*;omega))
 have a:∀i,i≤l.length→∀z w,Rm 20000 w z→w+AU (l.drop i)=AU l→Wp (fun n=>Tf n l i z) fun b=>b=false→AU l≤20000:=Al _ fun i hi ih z w hz hw=>wU (by
  simp only[Tf]
  have:=hl.le
  exact wL (wI (fun h=>wI (fun h0=>oM hl (by omega) fun _ s1 l1 k s2 l2 l3 k2 z2 s3 s4 s5 l4 l5 z3 _ hx hv _ _ h1 _ _ h2 h3 _ _ _ _ _ h4 h5 _ _=>c1 (WB s1 hz.z) fun r ⟨hr,_⟩=>c1 (g50 h1 hr.z) fun r2 hr2=>c1 (g51 k s2 h2 hr2.z) fun r3 hr3=>c1 (g52 h3 hr3.z) fun r4 hr4=>c1 (g53 k2 z2 s3 s4 s5 h4 h5 z3 hr4.z) fun r5 hr5=>wi (by omega) (ih (by omega) r5 (w+(AU l1+AU l2+AU l3+AU l4+AU l5+12)) (by unfold Rm at*;omega) (by omega))) fun _=>e z w hz (by omega)) fun _=>e z w hz (by have:=Ew (l:=l) (i:=i) (by omega);omega)))
 unfold F8 F19
 exact c1 (Q:=fun b=>b=false→AU l≤20000) (a 0 (Nat.zero_le _) 20000 0 (by unfold Rm;omega) (by simp)) fun b h=>wS h
end
end Go.Proofs.YtjfmnfncmfepnaaGreatDoor
end
set_option linter.unusedVariables false
noncomputable section
namespace Go.Proofs.YtjfmnfncmfepnaaGreatDoor
open Go Go.AM
def mY (n:Nat) (c:Bool) (b:BA) (a:BA):Option (BA):=
 (if c=true then (if b=ByteArray.empty then some a else Uj xE b fun d=>Uj a d fun e=>some e)else some a)
noncomputable def X40:AH:=⟨40,Tryz.f40,false,[.b,.s,.p (.ext 0) 0],[.c [.str]],[⟨.tup [],[.c [.str]],[]⟩],BA,ii,mY,.e,[],none,[]⟩
noncomputable def k40:Kz:=sg X40 [] Tryz.func40
end Go.Proofs.YtjfmnfncmfepnaaGreatDoor
end
