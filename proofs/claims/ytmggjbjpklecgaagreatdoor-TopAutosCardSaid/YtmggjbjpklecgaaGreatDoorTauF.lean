/- Part of a proof. No condition. (Part 6.) -/
import Derived.Test.YtmggjbjpklecgaaGreatDoorTauE
set_option linter.unusedVariables false
set_option linter.unusedSimpArgs false
set_option linter.unusedVariables false
noncomputable section
namespace Go.Proofs.YtmggjbjpklecgaaGreatDoor
open Go Go.AM
theorem t8 {z:Int}{s:ByteArray}{l:List D}(hs:s.size≤maxLen) (h:Ao tab 28 l) {d:Int}(h0:0≤d) (h1:d≤40):Total fun n=>F8 n z s l d:=by
 obtain⟨r,_,h⟩:=Pp l h z s d hs h0 h1
 exact⟨r,h⟩
theorem t20 {s:ByteArray}(h:s.size≤maxLen):Total fun n=>Qk n s:=Yf (XQ h)
theorem t30 {s:ByteArray}(h:s.size≤maxLen):Total fun n=>Ri n s:=Yf (Z1 h)
theorem t29 {z:Int}{s:ByteArray}{l:List D}:Total fun n=>Rh n z s l:=by
 unfold Rh
 simp only[Ad]
 repeat' (first | exact tr | refine ti ?_ ?_ | refine t1 ?_ fun _=>?_)
theorem t31 {z1 z2:Int}{s3 s4 s5:ByteArray}{l6 l7:List D}{z8:Int}:Total fun n=>WS n z1 z2 s3 s4 s5 l6 l7 z8:=by
 unfold WS
 simp only[Ad]
 repeat' (first | exact tr | refine ti ?_ ?_ | refine t1 ?_ fun _=>?_)
theorem t32 {z1 z2:Int}{s3 s4 s5:ByteArray}{l6 l7:List D}{z8:Int}:Total fun n=>XG n z1 z2 s3 s4 s5 l6 l7 z8:=by
 unfold XG
 repeat' (first | exact tr | refine ti ?_ ?_ | refine t1 ?_ fun _=>?_)
theorem UP {s:ByteArray}(h:s.size≤maxLen):(bl s).length≤maxLen:=by rw[←Lz];exact h
theorem t55 {s:ByteArray}(h:s.size≤maxLen) {z:Int}:Total fun n=>DX n s z:=by
 have loop:∀i:Nat,i≤(bl s).length→Total fun n=>HQ n s z (i:Int):=by
  refine down (bl s).length ?_ ?_
  ·refine tu ?_
   simp only[HQ,CR,Int.lt_irrefl,if_false]
   exact tu (by simp only[Iz,Bool.false_eq_true,if_false];exact tr)
  ·intro i hi ih
   obtain⟨b,hb⟩:∃b,(bl s)[i]?=some b:=⟨_,List.getElem?_eq_getElem hi⟩
   have t3:∀c,Total fun n=>I0 n s z (i:Int) c:=fun c=>tu (by simp only[I0,Al,BB hi (UP h)];exact ti tr ih)
   refine tu ?_
   simp only[HQ,CR,if_pos (G0 hi)]
   refine tu ?_
   simp only[Iz,if_true,Ch hb]
   exact ti (t3 _) (t3 _)
 unfold DX
 exact loop 0 (Nat.zero_le _)
theorem t54 {s:ByteArray}(hs:s.size≤maxLen) (he:s≠ByteArray.empty) {z:Int}:Total fun n=>YO n s z:=by
 have hb:=UP hs
 have hne:bl s≠[]:=fun e=>he (FI.2 e)
 have hpos:0<(bl s).length:=List.length_pos_iff.2 hne
 have hm:maxLen=9223372036854775807:=rfl
 have w:IntKind.i64.wrap (((bl s).length:Int) - 1)=(((bl s).length - 1:Nat):Int):=by rw[DL (by omega)];omega
 obtain⟨b,hb⟩:∃b,(bl s)[(bl s).length - 1]?=some b:=⟨_,List.getElem?_eq_getElem (by omega)⟩
 have t2:∀c,Total fun n=>Ix n s z c:=fun c=>tu (by simp only[Ix,CR,Al,w,Ch hb];repeat' (first | exact tr | refine ti ?_ ?_ | refine t1 ?_ fun _=>?_))
 have t1':∀z5 c,Total fun n=>Iy n s z z5 c:=fun z5 c=>tu (by simp only[Iy];repeat' (first | exact tr | exact t2 _ | refine ti ?_ ?_ | refine t1 ?_ fun _=>?_))
 unfold YO
 simp only[CR,Al,w,Ch hb]
 repeat' (first | exact tr | exact t1' _ _ | refine ti ?_ ?_ | refine t1 ?_ fun _=>?_)
theorem Pq {γ:Type}{L:List ByteArray}{z:Int}(h0:0≤z) (h1:z<(L.length:Int)):∃s,s∈L∧∀k:D→Option γ,BT (L.map D.str) z k=k (.str s):=by
 have hi:z.toNat<L.length:=by omega
 refine⟨L[z.toNat],List.getElem_mem hi,fun k=>Ct h0 ?_⟩
 rw[List.getElem?_map,List.getElem?_eq_getElem hi]
 rfl
def Qm:List ByteArray:=[ByteArray.empty,XA,XB,ZX,Ep,Ep,Ep,IK,IK,J0,J0,J0,J0,J0,J0,J0,J0,J0,XC,Tt,Tu,IK,IK,IK,Ep,KU,IK,IK,Ep,IK,IK,IK,Ep,KU,KU,KU,Ep]
theorem UQ:∀s∈Qm,s.size≤maxLen:=by
 have:(Qm.all fun s=>decide (s.size≤100))=true:=by kernel_rfl
 intro s hs
 have:=of_decide_eq_true (List.all_eq_true.1 this s hs)
 have hm:maxLen=9223372036854775807:=rfl
 omega
theorem cX {z:Int}(hz:(Lit.int .u8 z).wf=true):∃s,Ev (fun n=>YN n z) s∧s.size≤maxLen:=by
 obtain⟨h0,h1⟩:=Pe hz
 unfold YN
 simp only[Al,DL (show -9223372036854775808≤z∧z≤9223372036854775807 by omega)]
 by_cases c:(37:Int)≤z
 ·refine⟨ByteArray.empty,?_,by simp[maxLen]⟩
  simp only[if_pos c]
  exact .succ (by simp only[Iw,if_true];exact .ret)
 ·obtain⟨s,hs,hk⟩:=Pq (γ:=ByteArray) (L:=Qm) h0 (by show z<(37:Int);omega)
  refine⟨s,?_,UQ s hs⟩
  simp only[if_neg c]
  refine .succ ?_
  have hk:∀k:D→Option ByteArray,BT [.str ByteArray.empty,.str XA,.str XB,.str ZX,.str Ep,.str Ep,.str Ep,.str IK,.str IK,.str J0,.str J0,.str J0,.str J0,.str J0,.str J0,.str J0,.str J0,.str J0,.str XC,.str Tt,.str Tu,.str IK,.str IK,.str IK,.str Ep,.str KU,.str IK,.str IK,.str Ep,.str IK,.str IK,.str IK,.str Ep,.str KU,.str KU,.str KU,.str Ep] z k=k (.str s):=hk
  simp only[Iw,Bool.false_eq_true,if_false,hk,B7]
  exact .ret
def Qn:List ByteArray:=[ByteArray.empty,XD,Tv,XE,ZY,ZZ,Tw,XF,Tx,Xf,Tz,T1,T2,Xf]
theorem UR:∀s∈Qn,s.size≤maxLen:=by
 have:(Qn.all fun s=>decide (s.size≤100))=true:=by kernel_rfl
 intro s hs
 have:=of_decide_eq_true (List.all_eq_true.1 this s hs)
 have hm:maxLen=9223372036854775807:=rfl
 omega
theorem cY {z:Int}(hz:(Lit.int .u8 z).wf=true):∃s,Ev (fun n=>YQ n z) s∧s.size≤maxLen:=by
 obtain⟨h0,h1⟩:=Pe hz
 unfold YQ
 simp only[Al,DL (show -9223372036854775808≤z∧z≤9223372036854775807 by omega)]
 by_cases c:(14:Int)≤z
 ·refine⟨ByteArray.empty,?_,by simp[maxLen]⟩
  simp only[if_pos c]
  exact .succ (by simp only[I6,if_true];exact .ret)
 ·obtain⟨s,hs,hk⟩:=Pq (γ:=ByteArray) (L:=Qn) h0 (by show z<(14:Int);omega)
  refine⟨s,?_,UR s hs⟩
  simp only[if_neg c]
  refine .succ ?_
  have hk:∀k:D→Option ByteArray,BT [.str ByteArray.empty,.str XD,.str Tv,.str XE,.str ZY,.str ZZ,.str Tw,.str XF,.str Tx,.str Xf,.str Tz,.str T1,.str T2,.str Xf] z k=k (.str s):=hk
  simp only[I6,Bool.false_eq_true,if_false,hk,B7]
  exact .ret
theorem t56 {s:ByteArray}{l:List D}(hs:s.size≤maxLen) (h:Ao tab 9 l):Total fun n=>Xh n s l:=by
 have loop:∀i:Nat,i≤l.length→Total fun n=>HR n l (i:Int):=by
  refine down l.length ?_ ?_
  ·refine tu ?_
   simp only[HR,Ad,Int.lt_irrefl,if_false]
   exact tu (by simp only[I1,Bool.false_eq_true,if_false];exact tr)
  ·intro i hi ih
   obtain⟨x,hx,hm,hr⟩:=h.get hi
   obtain⟨a,rfl,wa⟩:=Y8 hr
   have t4:∀c,Total fun n=>I2 n l (i:Int) c:=fun c=>tu (by simp only[I2,Al,BB hi h.1];exact ti tr ih)
   refine tu ?_
   simp only[HR,Ad,if_pos (G0 hi)]
   refine tu ?_
   simp only[I1,if_true,A0 hx,B7,Ak]
   repeat' (first | exact tr | exact t4 _ | exact t30 wa | refine ti ?_ ?_ | refine t1 ?_ fun _=>?_)
 have t1':∀c,Total fun n=>HS n l c:=fun c=>tu (by simp only[HS];exact ti tr (loop 0 (Nat.zero_le _)))
 unfold Xh
 simp only[Ak,Ad]
 repeat' (first | exact tr | exact t1' _ | exact t30 hs | refine ti ?_ ?_ | refine t1 ?_ fun _=>?_)
theorem t57 {z1 z2:Int}{s3 s4 s5:ByteArray}{l6 l7:List D}{z8:Int}(h:Ao tab 9 l6):Total fun n=>YP n z1 z2 s3 s4 s5 l6 l7 z8:=by
 have loop:∀i:Nat,i≤l6.length→Total fun n=>HT n l6 (i:Int):=by
  refine down l6.length ?_ ?_
  ·refine tu ?_
   simp only[HT,Ad,Int.lt_irrefl,if_false]
   exact tu (by simp only[I3,Bool.false_eq_true,if_false];exact tr)
  ·intro i hi ih
   obtain⟨x,hx,hm,hr⟩:=h.get hi
   obtain⟨a,rfl,wa⟩:=Y8 hr
   refine tu ?_
   simp only[HT,Ad,if_pos (G0 hi)]
   refine tu ?_
   simp only[I3,if_true,A0 hx,B7,Ak,Al,BB hi h.1]
   repeat' (first | exact tr | exact ih | exact t30 wa | refine ti ?_ ?_ | refine t1 ?_ fun _=>?_)
 have t1':∀c,Total fun n=>HU n l6 c:=fun c=>tu (by simp only[HU];exact ti tr (loop 0 (Nat.zero_le _)))
 unfold YP
 simp only[Ad]
 repeat' (first | exact tr | exact t1' _ | refine ti ?_ ?_ | refine t1 ?_ fun _=>?_)
theorem t33 (l:List D):Ao tab 43 l→∀(z1 z2:Int) (s3 s4 s5:ByteArray) (l6:List D) (z8 z9:Int),(Lit.int .u8 z1).wf=true→s3.size≤maxLen→s4.size≤maxLen→s5.size≤maxLen→Ao tab 9 l6→Total fun n=>Uv n z1 z2 s3 s4 s5 l6 l z8 z9:=by
 refine EH (P:=fun l=>Ao tab 43 l→∀(z1 z2:Int) (s3 s4 s5:ByteArray) (l6:List D) (z8 z9:Int),(Lit.int .u8 z1).wf=true→s3.size≤maxLen→s4.size≤maxLen→s5.size≤maxLen→Ao tab 9 l6→Total fun n=>Uv n z1 z2 s3 s4 s5 l6 l z8 z9) (fun l ih h=>?_) l
 intro z1 z2 s3 s4 s5 l6 z8 z9 w1 w3 w4 w5 w6
 obtain⟨f,hf,hfs⟩:=cX w1
 have loop:∀i:Nat,i≤l.length→Total fun n=>Er n z1 l z9 (i:Int):=by
  refine down l.length ?_ ?_
  ·refine tu ?_
   simp only[Er,Ad,Int.lt_irrefl,if_false]
   exact tu (by simp only[FV,Bool.false_eq_true,if_false];exact tr)
  ·intro i hi ihl
   obtain⟨x,hx,hm,hr⟩:=h.get hi
   obtain⟨a0,a1,a2,a3,a4,a5,a6,a7,rfl,v0,v1,v2,v3,v4,v5,v6,v7⟩:=VO hr
   have hrec:=fun z=>ih a6 (CI (ag:=true) (sz:=8) hm (by simp)) v6 a0 a1 a2 a3 a4 a5 a7 z v0 v2 v3 v4 v5
   have t12:∀c,Total fun n=>Es n z1 l z9 (i:Int) c:=fun c=>tu (by simp only[Es,Al,BB hi h.1];exact ti tr ihl)
   refine tu ?_
   simp only[Er,Ad,if_pos (G0 hi)]
   refine tu ?_
   simp only[FV,if_true,A0 hx,Cz,Al,Ak]
   repeat' (first | exact tr | exact t12 _ | exact t32 | exact hrec _ | refine ti ?_ ?_ | refine t1 ?_ fun _=>?_)
 have t9:∀c,Total fun n=>Ec n z1 l z9 c:=fun c=>tu (by simp only[Ec];exact ti tr (loop 0 (Nat.zero_le _)))
 have t8':∀c,Total fun n=>CJ n z1 s4 l z9 f c:=fun c=>tu (by simp only[CJ,Ak];repeat' (first | exact tr | exact t9 _ | exact t55 hfs | exact t20 w4 | refine ti ?_ ?_ | refine t1 ?_ fun _=>?_))
 have t7:Total fun n=>HZ n z1 s3 s4 l z9 f:=tu (by simp only[HZ,Ak];repeat' (first | exact tr | exact t8' _ | exact t55 hfs | exact t20 w3 | exact t30 w3 | refine ti ?_ ?_ | refine t1 ?_ fun _=>?_))
 have t6:∀c,Total fun n=>HY n z1 s3 s4 l z9 f c:=fun c=>tu (by simp only[HY];repeat' (first | exact tr | exact t7 | refine ti ?_ ?_ | refine t1 ?_ fun _=>?_))
 have t5:Total fun n=>HX n z1 z2 s3 s4 s5 l6 l z8 z9 f:=tu (by simp only[HX,Ak,Ad];repeat' (first | exact tr | exact t7 | exact t6 _ | exact t55 hfs | exact t56 w5 w6 | exact t57 w6 | refine ti ?_ ?_ | refine t1 ?_ fun _=>?_))
 have t4:∀c,Total fun n=>I5 n z1 z2 s3 s4 s5 l6 l z8 z9 f c:=fun c=>tu (by simp only[I5];repeat' (first | exact tr | exact t5 | refine ti ?_ ?_ | refine t1 ?_ fun _=>?_))
 have t3:∀c,Total fun n=>HW n z1 z2 s3 s4 s5 l6 l z8 z9 f c:=fun c=>tu (by simp only[HW];repeat' (first | exact tr | exact t5 | refine ti ?_ ?_ | refine t1 ?_ fun _=>?_))
 have t2:∀c,Total fun n=>I4 n z1 z2 s3 s4 s5 l6 l z8 z9 f c:=fun c=>tu (by simp only[I4];repeat' (first | exact tr | exact t5 | refine ti ?_ ?_ | refine t1 ?_ fun _=>?_))
 have t1':∀c,Total fun n=>HV n z1 z2 s3 s4 s5 l6 l z8 z9 f c:=fun c=>tu (by simp only[HV];repeat' (first | exact tr | exact t2 _ | exact t3 _ | exact t4 _ | exact t55 hfs | refine ti ?_ ?_ | refine t1 ?_ fun _=>?_))
 refine tu ?_
 simp only[Uv,Ad,Ak]
 suffices hh:Total _ by
  obtain⟨r,hr⟩:=hh
  exact⟨r,Ev.bO1 hf hr⟩
 refine ti (t1' _) ?_
 by_cases e:f=ByteArray.empty
 ·simp only[if_pos e];exact t1' _
 ·simp only[if_neg e];exact t1 (t54 hfs e) fun _=>t1' _
theorem t89 {z1:Int}{s2 s3:ByteArray}{l4:List D}{z5:Int}{s6:ByteArray}{l7:List D}{z8:Int}{s9:ByteArray}{l10 l11 l12 l13 l14:List D}{z15:Int}{s16:ByteArray}{z17:Int}(w2:s2.size≤maxLen) (w3:s3.size≤maxLen) (h4:Ao tab 9 l4) (w6:s6.size≤maxLen) (h7:Ao tab 28 l7)
  (w9:s9.size≤maxLen) (h10:Ao tab 9 l10) (w16:s16.size≤maxLen) (d1:1≤z17) (d2:z17≤40):Total fun n=>YR n z1 s2 s3 l4 z5 s6 l7 z8 s9 l10 l11 l12 l13 l14 z15 s16 z17:=by
 have t8':Total fun n=>I8 n s9 l10 s16:=tu (by simp only[I8,Ad];repeat' (first | exact tr | exact t55 w16 | exact t56 w9 h10 | refine ti ?_ ?_ | refine t1 ?_ fun _=>?_))
 have t7:∀c,Total fun n=>I9 n s9 l10 s16 c:=fun c=>tu (by simp only[I9];repeat' (first | exact tr | exact t8' | refine ti ?_ ?_ | refine t1 ?_ fun _=>?_))
 have t6:∀c,Total fun n=>Ha n s9 l10 s16 c:=fun c=>tu (by simp only[Ha];repeat' (first | exact tr | exact t8' | refine ti ?_ ?_ | refine t1 ?_ fun _=>?_))
 have wd:IntKind.i64.wrap (z17 - 1)=z17 - 1:=DL (by omega)
 have loop:∀i:Nat,i≤l4.length→Total fun n=>Hb n l4 z5 s6 l7 z8 s9 l10 s16 z17 (i:Int):=by
  refine down l4.length ?_ ?_
  ·refine tu ?_
   simp only[Hb,Ad,Int.lt_irrefl,if_false]
   refine tu ?_
   simp only[JA,Bool.false_eq_true,if_false,Al,Ak,wd]
   repeat' (first | exact tr | exact t6 _ | exact t7 _ | exact t55 w16 | exact t29 | exact t8 w6 h7 (by omega) (by omega) | refine ti ?_ ?_ | refine t1 ?_ fun _=>?_)
  ·intro i hi ih
   obtain⟨x,hx,hm,hr⟩:=h4.get hi
   obtain⟨a,rfl,wa⟩:=Y8 hr
   refine tu ?_
   simp only[Hb,Ad,if_pos (G0 hi)]
   refine tu ?_
   simp only[JA,if_true,A0 hx,B7,Ak,Al,BB hi h4.1]
   repeat' (first | exact tr | exact ih | exact t30 wa | refine ti ?_ ?_ | refine t1 ?_ fun _=>?_)
 have t3:∀c,Total fun n=>Fm n l4 z5 s6 l7 z8 s9 l10 s16 z17 c:=fun c=>tu (by simp only[Fm];exact ti tr (loop 0 (Nat.zero_le _)))
 have t2:∀c,Total fun n=>CK n l4 z5 s6 l7 z8 s9 l10 s16 z17 c:=fun c=>tu (by simp only[CK,Ak,Ad];repeat' (first | exact tr | exact t3 _ | exact t55 w16 | refine ti ?_ ?_ | refine t1 ?_ fun _=>?_))
 have t1':∀c,Total fun n=>CL n s3 l4 z5 s6 l7 z8 s9 l10 s16 z17 c:=fun c=>tu (by simp only[CL,Ak];repeat' (first | exact tr | exact t2 _ | exact t55 w16 | exact t20 w3 | exact t30 w3 | refine ti ?_ ?_ | refine t1 ?_ fun _=>?_))
 unfold YR
 simp only[Ak]
 repeat' (first | exact tr | exact t1' _ | exact t55 w16 | exact t20 w2 | exact t30 w2 | refine ti ?_ ?_ | refine t1 ?_ fun _=>?_)
theorem t34 (l:List D):Ao tab 82 l→∀z2:Int,z2≤40→Total fun n=>Rj n l z2:=by
 refine EH (P:=fun l=>Ao tab 82 l→∀z2:Int,z2≤40→Total fun n=>Rj n l z2) (fun l ih h=>?_) l
 intro z2 hz2
 have stmt:∀(z1:Int) (s2 s3:ByteArray) (l4:List D) (z5:Int) (s6:ByteArray) (l7:List D) (z8:Int) (s9:ByteArray) (l10 l11 l12 l13 l14:List D) (z15:Int),(Lit.int .u8 z1).wf=true→s2.size≤maxLen→s3.size≤maxLen→Ao tab 9 l4→s6.size≤maxLen→Ao tab 28 l7→
   s9.size≤maxLen→Ao tab 9 l10→Ao tab 43 l11→Ao tab 86 l14→(∀d:Int,d≤40→Total fun n=>Rj n l12 d)→(∀d:Int,d≤40→Total fun n=>Rj n l13 d)→(∀(s1 s2:ByteArray) (m:List D),.agg [.str s1,.str s2,.list true 15 m]∈l14→∀d:Int,d≤40→Total fun n=>Rj n m d)→
   Total fun n=>YS n z1 s2 s3 l4 z5 s6 l7 z8 s9 l10 l11 l12 l13 l14 z15 z2:=by
  intro z1 s2 s3 l4 z5 s6 l7 z8 s9 l10 l11 l12 l13 l14 z15 w1 w2 w3 h4 w6 h7 w9 h10 h11 h14 r12 r13 r14
  obtain⟨f,hf,hfs⟩:=cY w1
  refine tu ?_
  simp only[YS,Ad,Ak]
  suffices hh:Total _ by
   obtain⟨r,hr⟩:=hh
   exact⟨r,Ev.bO1 hf hr⟩
  have none:Total fun n=>Fo n l4 l11 l12 l13 l14 z2 f true:=tu (by simp only[Fo,if_true];exact tr)
  by_cases c:z2<(1:Int)
  ·simp only[if_pos c];exact none
  simp only[if_neg c]
  refine ti none ?_
  have wd:IntKind.i64.wrap (z2 - 1)=z2 - 1:=DL (by omega)
  have loop8:∀i:Nat,i≤l14.length→Total fun n=>Hf n l12 l13 l14 z2 (i:Int):=by
   refine down l14.length ?_ ?_
   ·refine tu ?_
    simp only[Hf,Ad,Int.lt_irrefl,if_false]
    refine tu ?_
    simp only[JD,Bool.false_eq_true,if_false,Al,wd]
    repeat' (first | exact tr | exact r12 _ (by omega) | exact r13 _ (by omega) | refine ti ?_ ?_ | refine t1 ?_ fun _=>?_)
   ·intro i hi ihl
    obtain⟨x,hx,hm,hr⟩:=h14.get hi
    obtain⟨a0,a1,a2,rfl,v0,v1,v2⟩:=VP hr
    have t10:∀c,Total fun n=>EM n l12 l13 l14 z2 (i:Int) c:=fun c=>tu (by simp only[EM,Al,BB hi h14.1];exact ti tr ihl)
    refine tu ?_
    simp only[Hf,Ad,if_pos (G0 hi)]
    refine tu ?_
    simp only[JD,if_true,A0 hx,Gc,Al,Ak,wd]
    repeat' (first | exact tr | exact t10 _ | exact t20 v0 | exact t30 v1 | exact r14 _ _ _ hm _ (by omega) | refine ti ?_ ?_ | refine t1 ?_ fun _=>?_)
  have loop5:∀i:Nat,i≤l11.length→Total fun n=>Hd n l11 l12 l13 l14 z2 f (i:Int):=by
   refine down l11.length ?_ ?_
   ·refine tu ?_
    simp only[Hd,Ad,Int.lt_irrefl,if_false]
    exact tu (by simp only[JC,Bool.false_eq_true,if_false];exact loop8 0 (Nat.zero_le _))
   ·intro i hi ihl
    obtain⟨x,hx,hm,hr⟩:=h11.get hi
    obtain⟨a0,a1,a2,a3,a4,a5,a6,a7,rfl,v0,v1,v2,v3,v4,v5,v6,v7⟩:=VO hr
    have t7:∀c,Total fun n=>He n l11 l12 l13 l14 z2 f (i:Int) c:=fun c=>tu (by simp only[He,Al,BB hi h11.1];exact ti tr ihl)
    refine tu ?_
    simp only[Hd,Ad,if_pos (G0 hi)]
    refine tu ?_
    simp only[JC,if_true,A0 hx,Cz,Al,Ak]
    repeat' (first | exact tr | exact t7 _ | exact t32 | exact t55 hfs | exact t33 a6 v6 _ _ _ _ _ _ _ _ v0 v2 v3 v4 v5 | refine ti ?_ ?_ | refine t1 ?_ fun _=>?_)
  have t4:∀c,Total fun n=>B6 n l11 l12 l13 l14 z2 f c:=fun c=>tu (by simp only[B6];exact ti tr (loop5 0 (Nat.zero_le _)))
  have t3:∀z,Total fun n=>Hc n l11 l12 l13 l14 z2 f z:=fun z=>tu (by simp only[Hc,Ad,Ak];repeat' (first | exact tr | exact t4 _ | exact t55 hfs | refine ti ?_ ?_ | refine t1 ?_ fun _=>?_))
  have t2:∀c,Total fun n=>JB n l4 l11 l12 l13 l14 z2 f c:=fun c=>tu (by simp only[JB,Ad];repeat' (first | exact tr | exact t3 _ | exact t55 hfs | refine ti ?_ ?_ | refine t1 ?_ fun _=>?_))
  have t1':∀c,Total fun n=>Fo n l4 l11 l12 l13 l14 z2 f c:=fun c=>tu (by simp only[Fo];repeat' (first | exact tr | exact t2 _ | exact t55 hfs | refine ti ?_ ?_ | refine t1 ?_ fun _=>?_))
  exact t1 (t89 w2 w3 h4 w6 h7 w9 h10 hfs (by omega) hz2) fun _=>t1' _
 have loop:∀i:Nat,i≤l.length→Total fun n=>Hg n l z2 (i:Int):=by
  refine down l.length ?_ ?_
  ·refine tu ?_
   simp only[Hg,Ad,Int.lt_irrefl,if_false]
   exact tu (by simp only[JE,Bool.false_eq_true,if_false];exact tr)
  ·intro i hi ihl
   obtain⟨x,hx,hm,hr⟩:=h.get hi
   obtain⟨a0,a1,a2,a3,a4,a5,a6,a7,a8,a9,a10,a11,a12,a13,a14,rfl,v0,v1,v2,v3,v4,v5,v6,v7,v8,v9,v10,v11,v12,v13,v14⟩:=YC hr
   refine tu ?_
   simp only[Hg,Ad,if_pos (G0 hi)]
   refine tu ?_
   simp only[JE,if_true,A0 hx,Gb,Al,Ak,BB hi h.1]
   refine t1 (stmt _ _ _ _ _ _ _ _ _ _ _ _ _ _ _ v0 v1 v2 v3 v5 v6 v8 v9 v10 v13 (ih a11 (CI (ag:=true) (sz:=15) hm (by simp)) v11) (ih a12 (CI (ag:=true) (sz:=15) hm (by simp)) v12) fun s1 s2 m hm2=>ih m (Nat.lt_trans (CI (ag:=true) (sz:=15) hm2 (by simp)) (CI (ag:=true) (sz:=3) hm (by simp))) (by obtain⟨b0,b1,b2,e,_,_,w⟩:=VP (v13.2 _ hm2);cases e;exact w)) fun _=>?_
   exact ti tr ihl
 exact tu (by simp only[Rj];exact loop 0 (Nat.zero_le _))
theorem t19 {z1:Int}{s2:ByteArray}{l3:List D}{z4:Int}{s5:ByteArray}{l6 l7:List D}{z8 z9:Int}{s10 s11 s12:ByteArray}{l13 l14:List D}{z15 z16:Int}(w2:s2.size≤maxLen) (h3:Ao tab 67 l3) (w5:s5.size≤maxLen) (h6:Ao tab 28 l6) (h7:Ao tab 82 l7) (w8:(Lit.int .u8 z8).wf=true)
  (w10:s10.size≤maxLen) (w11:s11.size≤maxLen) (w12:s12.size≤maxLen) (h13:Ao tab 9 l13) (h14:Ao tab 43 l14):Total fun n=>XH n z1 s2 l3 z4 s5 l6 l7 z8 z9 s10 s11 s12 l13 l14 z15 z16 39:=by
 have wd:IntKind.i64.wrap (39 - 1)=38:=by decide
 have t8':∀c,Total fun n=>Ed n s2 z4 s5 l6 l7 z8 z9 s10 s11 s12 l13 l14 z15 39 c:=fun c=>tu (by simp only[Ed,Ad,Al,Ak,wd];repeat' (first | exact tr | exact t20 w2 | exact t29 | exact t31 | exact t30 w2 | exact t8 w5 h6 (by omega) (by omega) | exact t32 | exact t33 _ h14 _ _ _ _ _ _ _ _ w8 w10 w11 w12 h13 | exact t34 _ h7 _ (by omega) | refine ti ?_ ?_ | refine t1 ?_ fun _=>?_))
 have loop:∀i:Nat,i≤l3.length→Total fun n=>Co n z1 s2 l3 z4 s5 l6 l7 z8 z9 s10 s11 s12 l13 l14 z15 39 (i:Int):=by
  refine down l3.length ?_ ?_
  ·refine tu ?_
   simp only[Co,Ad,Int.lt_irrefl,if_false]
   exact tu (by simp only[EN,Bool.false_eq_true,if_false];exact ti (t8' _) (t8' _))
  ·intro i hi ihl
   obtain⟨x,hx,hm,hr⟩:=h3.get hi
   obtain⟨a0,a1,a2,a3,rfl,v0,v1,v2,v3⟩:=W6 hr
   have t7:Total fun n=>FF n z1 s2 l3 z4 s5 l6 l7 z8 z9 s10 s11 s12 l13 l14 z15 39 (i:Int):=tu (by simp only[FF,Al,BB hi h3.1];exact ihl)
   have t6:∀c,Total fun n=>Dy n z1 s2 l3 z4 s5 l6 l7 z8 z9 s10 s11 s12 l13 l14 z15 39 (i:Int) c:=fun c=>tu (by simp only[Dy];exact ti tr t7)
   have t5:∀c,Total fun n=>DU n z1 s2 l3 z4 s5 l6 l7 z8 z9 s10 s11 s12 l13 l14 z15 39 (i:Int) c:=fun c=>tu (by simp only[DU];exact ti tr t7)
   have t4:∀c,Total fun n=>DZ n z1 s2 l3 z4 s5 l6 l7 z8 z9 s10 s11 s12 l13 l14 z15 39 (i:Int) a0 a1 a2 a3 c:=fun c=>tu (by simp only[DZ,Al,Ak,wd];repeat' (first | exact tr | exact t5 _ | exact t6 _ | exact t20 v0 | exact t30 v0 | exact t29 | exact t8 v2 v3 (by omega) (by omega) | refine ti ?_ ?_ | refine t1 ?_ fun _=>?_))
   refine tu ?_
   simp only[Co,Ad,if_pos (G0 hi)]
   refine tu ?_
   simp only[EN,if_true,A0 hx,B5]
   exact ti (t4 _) (t4 _)
 have t1':∀c,Total fun n=>Ee n z1 s2 l3 z4 s5 l6 l7 z8 z9 s10 s11 s12 l13 l14 z15 39 c:=fun c=>tu (by simp only[Ee];exact ti tr (loop 0 (Nat.zero_le _)))
 unfold XH
 simp only[Ad]
 repeat' (first | exact tr | exact t1' _ | refine ti ?_ ?_ | refine t1 ?_ fun _=>?_)
theorem SV {l:List D}(h:Ao tab 45 l):Total fun n=>F7 n l:=by
 have loop:∀i:Nat,i≤l.length→Total fun n=>Ge n l (i:Int):=by
  refine down l.length ?_ ?_
  ·refine tu ?_
   simp only[Ge,Ad,Int.lt_irrefl,if_false]
   exact tu (by simp only[Lv,Bool.false_eq_true,if_false];exact tr)
  ·intro i hi ihl
   obtain⟨x,hx,hm,hr⟩:=h.get hi
   obtain⟨a0,a1,a2,a3,a4,a5,a6,a7,a8,a9,a10,a11,a12,a13,a14,a15,rfl,v0,v1,v2,v3,v4,v5,v6,v7,v8,v9,v10,v11,v12,v13,v14,v15⟩:=W5 hr
   refine tu ?_
   simp only[Ge,Ad,if_pos (G0 hi)]
   refine tu ?_
   simp only[Lv,if_true,A0 hx,Bv,Al,Ak,BB hi h.1]
   exact t1 (t19 v1 v2 v4 v5 v6 v7 v9 v10 v11 v12 v13) fun _=>ti tr ihl
 have t1':∀c,Total fun n=>KV n l c:=fun c=>tu (by simp only[KV];exact ti tr (loop 0 (Nat.zero_le _)))
 unfold F7
 simp only[Ad]
 repeat' (first | exact tr | exact t1' _ | refine ti ?_ ?_ | refine t1 ?_ fun _=>?_)
end Go.Proofs.YtmggjbjpklecgaaGreatDoor
end
set_option linter.unusedVariables false
noncomputable section
namespace Go.Proofs.YtmggjbjpklecgaaGreatDoor
open Go Go.AM
inductive W where
 | named (s:ByteArray)
 | leaf (k:Int)
 | wrap (k:Int) (t:W)
def W.k:W→Int
 | named _=>4
 | leaf k=>k
 | wrap k _=>k
def W.nm:W→ByteArray
 | named s=>s
 | leaf _=>ByteArray.empty
 | wrap _ _=>ByteArray.empty
def W.d:W→D
 | named s=>.agg [.int .u8 4,.str s,.list true 3 []]
 | leaf k=>.agg [.int .u8 k,.str ByteArray.empty,.list true 3 []]
 | wrap k t=>.agg [.int .u8 k,.str ByteArray.empty,.list true 3 [t.d]]
def W.args:W→List D
 | named _=>[]
 | leaf _=>[]
 | wrap _ t=>[t.d]
theorem W.Sg (w:W):w.d= .agg [.int .u8 w.k,.str w.nm,.list true 3 w.args]:=by cases w<;>rfl
def W.ok:W→Prop
 | named _=>True
 | leaf k=>k≠4
 | wrap k t=>k≠4∧t.ok
def W.dep:W→Nat
 | named _=>0
 | leaf _=>0
 | wrap _ t=>t.dep+1
theorem Cy {A:Nat→Option Bool}(h:Ev A true) (h':Ev A false):False:=by cases Ev.uniq h h'
theorem Qo (l:List D):Ao tab 28 l→∀(z:Int) (s:ByteArray) (d:Int),s.size≤maxLen→d≤40→Ev (fun n=>F8 n z s l d) true→∃w:W,w.k=z∧w.nm=s∧w.args=l∧w.ok∧(w.dep:Int)+1≤d:=by
 refine EH (P:=fun l=>Ao tab 28 l→∀(z:Int) (s:ByteArray) (d:Int),s.size≤maxLen→d≤40→Ev (fun n=>F8 n z s l d) true→∃w:W,w.k=z∧w.nm=s∧w.args=l∧w.ok∧(w.dep:Int)+1≤d) (fun l ih h z s d hs hd hev=>?_) l
 have stop:Ev (fun n=>IG n z s l d true) false:=.succ (by simp only[IG,if_true];exact .ret)
 by_cases g4:d<1
 ·exact (Cy hev (.succ (by simp only[F8,if_pos g4];exact stop))).elim
 by_cases g1:z<1
 ·exact (Cy hev (.succ (by simp only[F8,if_neg g4,if_pos g1];exact stop))).elim
 by_cases g14:14<z
 ·exact (Cy hev (.succ (by simp only[F8,if_neg g4,if_neg g1,if_pos g14];exact stop))).elim
 by_cases c:Hu z
 ·have c4:z≠4:=by rcases c with c | c | c | c<;>omega
  have e:=Ev.uniq hev (JY hs g4 g1 g14 (fun _=>rfl) (fun c'=>absurd c' c4) (fun c'=>absurd c c'))
  simp only[Bool.true_eq,Bool.and_eq_true,decide_eq_true_eq]at e
  obtain⟨e1,e2⟩:=e
  exact⟨.leaf z,rfl,e1.symm,(List.eq_nil_of_length_eq_zero e2).symm,c4,by simp only[W.dep];omega⟩
 by_cases c4:z=4
 ·have e:=Ev.uniq hev (JY hs g4 g1 g14 (fun c'=>absurd c' c) (fun _=>rfl) (fun _ c'=>absurd c4 c'))
  simp only[Bool.true_eq,Bool.and_eq_true,decide_eq_true_eq]at e
  obtain⟨e1,e2⟩:=e
  exact⟨.named s,c4.symm,rfl,(List.eq_nil_of_length_eq_zero e2).symm,trivial,by simp only[W.dep];omega⟩
 have go:∀{r:Bool},Ev (fun n=>F2 n s l d false) r→Ev (fun n=>F8 n z s l d) r:=fun hr=>JY hs g4 g1 g14 (fun c'=>absurd c' c) (fun c'=>absurd c' c4) (fun _ _=>hr)
 by_cases e:s=ByteArray.empty
 rotate_left
 ·exact (Cy hev (go (.succ (by simp only[F2,Bool.false_eq_true,if_false,if_neg e];exact .ret)))).elim
 by_cases e1:l.length=1
 rotate_left
 ·exact (Cy hev (go (.succ (by simp only[F2,Bool.false_eq_true,if_false,if_pos e,Ad,if_neg (show ¬(l.length:Int)=1 by omega)];exact .ret)))).elim
 obtain⟨x,rfl⟩:∃x,l=[x]:=by
  match l,e1 with
  | [x],_=>exact⟨x,rfl⟩
 have hm:x∈[x]:=by simp
 obtain⟨a0,a1,a2,rfl,w0,w1,w2⟩:=VN (h.2 _ hm)
 have gx:∀k:D→Option Bool,BT [D.agg [.int .u8 a0,.str a1,.list true 3 a2]] 0 k=k (.agg [.int .u8 a0,.str a1,.list true 3 a2]):=fun k=>Ct (by omega) rfl
 have w:IntKind.i64.wrap (d - 1)=d - 1:=DL (by omega)
 obtain⟨r,hr⟩:=t8 (z:=a0) w1 w2 (d:=d - 1) (by omega) (by omega)
 have e2:=Ev.uniq hev (go (.succ (by
  simp only[F2,Bool.false_eq_true,if_false,if_pos e,Ad,List.length_singleton,show (((1:Nat):Int)=1)=True by simp,if_true,gx,Cl,Al,w]
  exact Ev.bO1 hr .ret)))
 subst e2
 obtain⟨v,v1,v2,v3,v4,v5⟩:=ih a2 (CI (ag:=true) (sz:=3) hm (by simp)) w2 a0 a1 (d - 1) w1 (by omega) hr
 refine⟨.wrap z v,rfl,e.symm,?_,⟨c4,v4⟩,by simp only[W.dep];omega⟩
 show [v.d]=_
 rw[W.Sg,v1,v2,v3]
theorem OT {l:List D}(h:Ao tab 28 l) {z:Int}{s:ByteArray}{d:Int}(hs:s.size≤maxLen) (h0:0≤d) (h40:d≤40) {b:Bool}(hev:Ev (fun n=>F8 n z s l d) b):Ev (fun n=>UO n z s l d) b:=by
 obtain⟨r,h1,h2⟩:=Pp l h z s d hs h0 h40
 cases Ev.uniq hev h2
 exact h1
theorem JZ {s:ByteArray}(hs:s.size≤maxLen):Ev (fun n=>Si n 4 s []) (nm 65 90 s):=by
 have:Ev (fun n=>F8 n 4 s [] 40) (nm 65 90 s):=JY hs (by omega) (by omega) (by omega) (fun c=>absurd c (by rintro (c | c | c | c)<;>omega)) (fun _=>by simp) (fun _ c=>absurd rfl c)
 exact Ev.bO1 (OT .nil hs (by omega) (by omega) this) .ret
structure It where
 k:Int
 nm:ByteArray
 fs:List (ByteArray×W)
def fd (f:ByteArray×W):D:=.agg [.str f.1,.int .u8 f.2.k,.str f.2.nm,.list true 3 f.2.args]
structure Xl (x:D) (it:It):Prop where
 row:∃(a2:List D) (a3:Int) (a4:ByteArray) (a5 a6:List D) (a7 a8:Int) (a9 a10 a11:ByteArray) (a12 a13:List D) (a14 a15:Int),
  x= .agg [.int .u8 it.k,.str it.nm,.list true 4 a2,.int .u8 a3,.str a4,.list true 3 a5,.list true 15 a6,.int .u8 a7,.int .i64 a8,.str a9,.str a10,.str a11,.list false 1 a12,.list true 8 a13,.int .i64 a14,.int .i64 a15]∧
  (it.k≠3→a2=it.fs.map fd∧a5=[]∧a6=[]∧a12=[]∧a13=[])
 k1:1≤it.k
 k3:it.k≤3
 size:it.nm.size≤maxLen
 name:it.k≠3→nm 65 90 it.nm=true
 few:it.fs.length≤6
 fok:∀f∈it.fs,f.2.ok∧f.2.dep<40∧f.2.nm.size≤maxLen
theorem Qq {l3:List D}(h3:Ao tab 67 l3) {z1:Int}(hz:z1≠3) {s2:ByteArray}{z4:Int}{s5:ByteArray}{l6 l7:List D}{z8 z9:Int}{s10 s11 s12:ByteArray}{l13 l14:List D}{z15:Int}:∀i:Nat,i≤l3.length→
  Ev (fun n=>Co n z1 s2 l3 z4 s5 l6 l7 z8 z9 s10 s11 s12 l13 l14 z15 39 (i:Int)) true→(∃fs:List (ByteArray×W),l3.drop i=fs.map fd∧∀f∈fs,f.2.ok∧f.2.dep<40∧f.2.nm.size≤maxLen)∧Ev (fun n=>Ed n s2 z4 s5 l6 l7 z8 z9 s10 s11 s12 l13 l14 z15 39 true) true:=by
 have wd:IntKind.i64.wrap (39 - 1)=38:=by decide
 refine down l3.length ?_ ?_
 ·intro hev
  refine⟨⟨[],by simp,by simp⟩,?_⟩
  obtain⟨r,hr⟩:Total fun n=>Ed n s2 z4 s5 l6 l7 z8 z9 s10 s11 s12 l13 l14 z15 39 true:=by
   obtain⟨N,hN⟩:=hev
   refine⟨true,N,fun n hn=>?_⟩
   have:=hN (n+2) (by omega)
   simpa only[Co,Ad,Int.lt_irrefl,if_false,EN,Bool.false_eq_true,if_neg hz] using this
  have e:Ev (fun n=>Co n z1 s2 l3 z4 s5 l6 l7 z8 z9 s10 s11 s12 l13 l14 z15 39 (l3.length:Int)) r:=by
   refine .succ ?_
   simp only[Co,Ad,Int.lt_irrefl,if_false]
   exact .succ (by simp only[EN,Bool.false_eq_true,if_false,if_neg hz];exact hr)
  cases Ev.uniq hev e
  exact hr
 ·intro i hi ih hev
  obtain⟨x,hx,hm,hr⟩:=h3.get hi
  obtain⟨a0,a1,a2,a3,rfl,v0,v1,v2,v3⟩:=W6 hr
  have head:∀{r:Bool},Ev (fun n=>DZ n z1 s2 l3 z4 s5 l6 l7 z8 z9 s10 s11 s12 l13 l14 z15 39 (i:Int) a0 a1 a2 a3 (decide (z1=2))) r→Ev (fun n=>Co n z1 s2 l3 z4 s5 l6 l7 z8 z9 s10 s11 s12 l13 l14 z15 39 (i:Int)) r:=by
   intro r hr
   refine .succ ?_
   simp only[Co,Ad,if_pos (G0 hi)]
   refine .succ ?_
   simp only[EN,if_true,A0 hx,B5]
   by_cases c:z1=2
   ·simpa only[if_pos c,decide_eq_true c] using hr
   ·simpa only[if_neg c,decide_eq_false c] using hr
  have no5:Ev (fun n=>DU n z1 s2 l3 z4 s5 l6 l7 z8 z9 s10 s11 s12 l13 l14 z15 39 (i:Int) true) false:=.succ (by simp only[DU,if_true];exact .ret)
  have no6:Ev (fun n=>Dy n z1 s2 l3 z4 s5 l6 l7 z8 z9 s10 s11 s12 l13 l14 z15 39 (i:Int) true) false:=.succ (by simp only[Dy,if_true];exact .ret)
  have rest:(∃w:W,w.k=a1∧w.nm=a2∧w.args=a3∧w.ok∧w.dep<40)→Ev (fun n=>FF n z1 s2 l3 z4 s5 l6 l7 z8 z9 s10 s11 s12 l13 l14 z15 39 (i:Int)) true→(∃fs:List (ByteArray×W),l3.drop i=fs.map fd∧∀f∈fs,f.2.ok∧f.2.dep<40∧f.2.nm.size≤maxLen)∧Ev (fun n=>Ed n s2 z4 s5 l6 l7 z8 z9 s10 s11 s12 l13 l14 z15 39 true) true:=by
   rintro⟨w,rfl,rfl,rfl,w1,w2⟩ h7
   have h2:Ev (fun n=>Co n z1 s2 l3 z4 s5 l6 l7 z8 z9 s10 s11 s12 l13 l14 z15 39 ((i+1:Nat):Int)) true:=by
    obtain⟨N,hN⟩:=h7
    refine⟨N,fun n hn=>?_⟩
    have:=hN (n+1) (by omega)
    simpa only[FF,Al,BB hi h3.1] using this
   obtain⟨⟨fs,e1,e2⟩,e3⟩:=ih h2
   refine⟨⟨(a0,w)::fs,?_,?_⟩,e3⟩
   ·rw[List.drop_eq_getElem_cons hi,e1]
    have:l3[i]=fd (a0,w):=by
     have:=(List.getElem?_eq_some_iff.1 hx).2
     exact this
    rw[this]
    rfl
   ·intro f hf
    rcases List.mem_cons.1 hf with rfl | hf
    ·exact⟨w1,w2,v2⟩
    ·exact e2 f hf
  have inv7:∀{j:Bool},Ev (fun n=>DU n z1 s2 l3 z4 s5 l6 l7 z8 z9 s10 s11 s12 l13 l14 z15 39 (i:Int) false) true→Ev (fun n=>FF n z1 s2 l3 z4 s5 l6 l7 z8 z9 s10 s11 s12 l13 l14 z15 39 (i:Int)) true:=by
   rintro _ ⟨N,hN⟩
   refine⟨N,fun n hn=>?_⟩
   have:=hN (n+1) (by omega)
   simpa only[DU,Bool.false_eq_true,if_false] using this
  have inv7':∀{j:Bool},Ev (fun n=>Dy n z1 s2 l3 z4 s5 l6 l7 z8 z9 s10 s11 s12 l13 l14 z15 39 (i:Int) false) true→Ev (fun n=>FF n z1 s2 l3 z4 s5 l6 l7 z8 z9 s10 s11 s12 l13 l14 z15 39 (i:Int)) true:=by
   rintro _ ⟨N,hN⟩
   refine⟨N,fun n hn=>?_⟩
   have:=hN (n+1) (by omega)
   simpa only[Dy,Bool.false_eq_true,if_false] using this
  obtain⟨b8,h8⟩:=t8 (z:=a1) v2 v3 (d:=38) (by omega) (by omega)
  by_cases c:z1=2
  ·rw[decide_eq_true c]at head
   obtain⟨b20,h20⟩:=t20 v0
   obtain⟨b29,h29⟩:=t29 (z:=a1) (s:=a2) (l:=a3)
   cases b20 with
   | false=>
    refine (Cy hev (head (.succ ?_))).elim
    simp only[DZ,if_true,Ak]
    exact Ev.bO1 h20 (by simp only[Bool.not_false,if_true];exact no5)
   | true=>
    cases b29 with
    | true=>
     have h5:Ev (fun n=>DU n z1 s2 l3 z4 s5 l6 l7 z8 z9 s10 s11 s12 l13 l14 z15 39 (i:Int) false) true:=by
      obtain⟨r,hr5⟩:Total fun n=>DU n z1 s2 l3 z4 s5 l6 l7 z8 z9 s10 s11 s12 l13 l14 z15 39 (i:Int) false:=by
       obtain⟨N,hN⟩:=hev
       obtain⟨M,hM⟩:=h20
       obtain⟨M',hM'⟩:=h29
       refine⟨true,N+M+M',fun n hn=>?_⟩
       have:=hN (n+3) (by omega)
       have e20:=hM (n+1) (by omega)
       have e20':=hM n (by omega)
       have e29:=hM' n (by omega)
       simp only[Co,Ad,if_pos (G0 hi),EN,if_true,A0 hx,B5,if_pos c,DZ,Ak,e20',e29,bO1,Bool.not_true,Bool.false_eq_true,if_false]at this
       exact this
      have e:=head (r:=r) (.succ (by
       simp only[DZ,if_true,Ak]
       refine Ev.bO1 h20 ?_
       simp only[Bool.not_true,Bool.false_eq_true,if_false]
       refine Ev.bO1 h29 ?_
       simp only[Bool.not_true,Bool.false_eq_true,if_false]
       exact hr5))
      cases Ev.uniq hev e
      exact hr5
     have hz0:a1=0∧a2=ByteArray.empty∧a3=[]:=by
      by_cases c1:a1=0
      ·by_cases c2:a2=ByteArray.empty
       ·by_cases c3:a3.length=0
        ·exact⟨c1,c2,List.eq_nil_of_length_eq_zero c3⟩
        ·refine (Cy h29 ?_).elim
         unfold Rh
         simp only[if_pos c1,if_pos c2,Ad,if_neg (show ¬(a3.length:Int)=0 by omega)]
         exact .ret
       ·refine (Cy h29 ?_).elim
        unfold Rh
        simp only[if_pos c1,if_neg c2]
        exact .ret
      ·refine (Cy h29 ?_).elim
       unfold Rh
       simp only[if_neg c1]
       exact .ret
     obtain⟨rfl,rfl,rfl⟩:=hz0
     exact rest ⟨.leaf 0,rfl,rfl,rfl,(by show (0:Int)≠4;omega),(by simp[W.dep])⟩ (inv7 (j:=true) h5)
    | false=>
     have e4:∀{r:Bool},Ev (fun n=>DU n z1 s2 l3 z4 s5 l6 l7 z8 z9 s10 s11 s12 l13 l14 z15 39 (i:Int) (!b8)) r→Ev (fun n=>Co n z1 s2 l3 z4 s5 l6 l7 z8 z9 s10 s11 s12 l13 l14 z15 39 (i:Int)) r:=fun hr=>head (.succ (by
      simp only[DZ,if_true,Ak,Al,wd]
      refine Ev.bO1 h20 ?_
      simp only[Bool.not_true,Bool.false_eq_true,if_false]
      refine Ev.bO1 h29 ?_
      simp only[Bool.not_false,if_true]
      exact Ev.bO1 h8 hr))
     cases b8 with
     | false=>exact (Cy hev (e4 no5)).elim
     | true=>
      have h5:Ev (fun n=>DU n z1 s2 l3 z4 s5 l6 l7 z8 z9 s10 s11 s12 l13 l14 z15 39 (i:Int) false) true:=by
       obtain⟨r,hr5⟩:Total fun n=>DU n z1 s2 l3 z4 s5 l6 l7 z8 z9 s10 s11 s12 l13 l14 z15 39 (i:Int) false:=by
        obtain⟨N,hN⟩:=hev
        obtain⟨M,hM⟩:=h20
        obtain⟨M',hM'⟩:=h29
        obtain⟨M2,hM2⟩:=h8
        refine⟨true,N+M+M'+M2,fun n hn=>?_⟩
        have:=hN (n+3) (by omega)
        have e20':=hM n (by omega)
        have e29:=hM' n (by omega)
        have e8:=hM2 n (by omega)
        simp only[Co,Ad,if_pos (G0 hi),EN,if_true,A0 hx,B5,if_pos c,DZ,Ak,Al,wd,e20',e29,e8,bO1,Bool.not_true,Bool.not_false,Bool.false_eq_true,if_false]at this
        exact this
       cases Ev.uniq hev (e4 hr5)
       exact hr5
      obtain⟨w,w1,w2,w3,w4,w5⟩:=Qo a3 v3 a1 a2 38 v2 (by omega) h8
      exact rest ⟨w,w1,w2,w3,w4,by omega⟩ (inv7 (j:=true) h5)
  ·rw[decide_eq_false c]at head
   obtain⟨b30,h30⟩:=t30 v0
   cases b30 with
   | false=>
    refine (Cy hev (head (.succ ?_))).elim
    simp only[DZ,Bool.false_eq_true,if_false,Ak]
    exact Ev.bO1 h30 (by simp only[Bool.not_false,if_true];exact no6)
   | true=>
    have e4:∀{r:Bool},Ev (fun n=>Dy n z1 s2 l3 z4 s5 l6 l7 z8 z9 s10 s11 s12 l13 l14 z15 39 (i:Int) (!b8)) r→Ev (fun n=>Co n z1 s2 l3 z4 s5 l6 l7 z8 z9 s10 s11 s12 l13 l14 z15 39 (i:Int)) r:=fun hr=>head (.succ (by
     simp only[DZ,Bool.false_eq_true,if_false,Ak,Al,wd]
     refine Ev.bO1 h30 ?_
     simp only[Bool.not_true,Bool.false_eq_true,if_false]
     exact Ev.bO1 h8 hr))
    cases b8 with
    | false=>exact (Cy hev (e4 no6)).elim
    | true=>
     have h6:Ev (fun n=>Dy n z1 s2 l3 z4 s5 l6 l7 z8 z9 s10 s11 s12 l13 l14 z15 39 (i:Int) false) true:=by
      obtain⟨r,hr6⟩:Total fun n=>Dy n z1 s2 l3 z4 s5 l6 l7 z8 z9 s10 s11 s12 l13 l14 z15 39 (i:Int) false:=by
       obtain⟨N,hN⟩:=hev
       obtain⟨M,hM⟩:=h30
       obtain⟨M2,hM2⟩:=h8
       refine⟨true,N+M+M2,fun n hn=>?_⟩
       have:=hN (n+3) (by omega)
       have e30:=hM n (by omega)
       have e8:=hM2 n (by omega)
       simp only[Co,Ad,if_pos (G0 hi),EN,if_true,A0 hx,B5,if_neg c,DZ,Ak,Al,wd,e30,e8,bO1,Bool.not_true,Bool.not_false,Bool.false_eq_true,if_false]at this
       exact this
      cases Ev.uniq hev (e4 hr6)
      exact hr6
     obtain⟨w,w1,w2,w3,w4,w5⟩:=Qo a3 v3 a1 a2 38 v2 (by omega) h8
     exact rest ⟨w,w1,w2,w3,w4,by omega⟩ (inv7' (j:=true) h6)
end Go.Proofs.YtmggjbjpklecgaaGreatDoor
end
set_option linter.unusedVariables false
noncomputable section
namespace Go.Proofs.YtmggjbjpklecgaaGreatDoor
open Go Go.AM
theorem XR {z:Int}{s:ByteArray}{l:List D}(h:Ev (fun n=>Rh n z s l) true):z=0∧s=ByteArray.empty∧l=[]:=by
 by_cases c1:z=0
 ·by_cases c2:s=ByteArray.empty
  ·by_cases c3:l.length=0
   ·exact⟨c1,c2,List.eq_nil_of_length_eq_zero c3⟩
   ·refine (Cy h ?_).elim
    unfold Rh
    simp only[if_pos c1,if_pos c2,Ad,if_neg (show ¬(l.length:Int)=0 by omega)]
    exact .ret
  ·refine (Cy h ?_).elim
   unfold Rh
   simp only[if_pos c1,if_neg c2]
   exact .ret
 ·refine (Cy h ?_).elim
  unfold Rh
  simp only[if_neg c1]
  exact .ret
theorem XS {z1 z2:Int}{s3 s4 s5:ByteArray}{l6 l7:List D}{z8:Int}(h:Ev (fun n=>WS n z1 z2 s3 s4 s5 l6 l7 z8) true):l6=[]∧l7=[]:=by
 by_cases c6:l6.length=0
 ·by_cases c7:l7.length=0
  ·exact⟨List.eq_nil_of_length_eq_zero c6,List.eq_nil_of_length_eq_zero c7⟩
  ·refine (Cy h ?_).elim
   unfold WS
   simp only[Ad,if_neg (show ¬(l7.length:Int)=0 by omega),ite_self]
   exact .ret
 ·refine (Cy h ?_).elim
  unfold WS
  simp only[Ad,if_neg (show ¬(l6.length:Int)=0 by omega),ite_self]
  exact .ret
theorem US {z1:Int}{s2:ByteArray}{l3:List D}{z4:Int}{s5:ByteArray}{l6 l7:List D}{z8 z9:Int}{s10 s11 s12:ByteArray}{l13 l14:List D}{z15 z16:Int}(w2:s2.size≤maxLen) (h3:Ao tab 67 l3)
  (hev:Ev (fun n=>XH n z1 s2 l3 z4 s5 l6 l7 z8 z9 s10 s11 s12 l13 l14 z15 z16 39) true):
  ∃it,Xl (.agg [.int .u8 z1,.str s2,.list true 4 l3,.int .u8 z4,.str s5,.list true 3 l6,.list true 15 l7,.int .u8 z8,.int .i64 z9,.str s10,.str s11,.str s12,.list false 1 l13,.list true 8 l14,.int .i64 z15,.int .i64 z16]) it:=by
 have stop:Ev (fun n=>Ee n z1 s2 l3 z4 s5 l6 l7 z8 z9 s10 s11 s12 l13 l14 z15 39 true) false:=.succ (by simp only[Ee,if_true];exact .ret)
 unfold XH at hev
 by_cases c1:z1<1
 ·simp only[if_pos c1]at hev;exact (Cy hev stop).elim
 by_cases c3:3<z1
 ·simp only[if_neg c1,if_pos c3]at hev;exact (Cy hev stop).elim
 by_cases c6:(6:Int)<(l3.length:Int)
 ·simp only[if_neg c1,if_neg c3,Ad,if_pos c6]at hev;exact (Cy hev stop).elim
 simp only[if_neg c1,if_neg c3,Ad,if_neg c6]at hev
 by_cases ck:z1=3
 ·exact⟨⟨z1,s2,[]⟩,⟨_,_,_,_,_,_,_,_,_,_,_,_,_,_,rfl,fun h=>absurd ck h⟩,by show 1≤z1;omega,by show z1≤3;omega,w2,fun h=>absurd ck h,by simp,by simp⟩
 have h2:Ev (fun n=>Co n z1 s2 l3 z4 s5 l6 l7 z8 z9 s10 s11 s12 l13 l14 z15 39 ((0:Nat):Int)) true:=by
  obtain⟨N,hN⟩:=hev
  refine⟨N,fun n hn=>?_⟩
  have:=hN (n+1) (by omega)
  simp only[Ee,Bool.false_eq_true,if_false]at this
  exact this
 obtain⟨⟨fs,e1,e2⟩,h8⟩:=Qq h3 ck 0 (Nat.zero_le _) h2
 obtain⟨b29,h29⟩:=t29 (z:=z4) (s:=s5) (l:=l6)
 obtain⟨b31,h31⟩:=t31 (z1:=z8) (z2:=z9) (s3:=s10) (s4:=s11) (s5:=s12) (l6:=l13) (l7:=l14) (z8:=z15)
 have comp:Ev (fun n=>Ed n s2 z4 s5 l6 l7 z8 z9 s10 s11 s12 l13 l14 z15 39 true) (nm 65 90 s2&&(b29&&(decide (l7.length=0)&&b31))):=by
  refine .succ ?_
  simp only[Ed,if_true]
  refine Ev.bO1 (XQ w2) ?_
  cases nm 65 90 s2 with
  | false=>simp only[Bool.false_eq_true,if_false];exact .ret
  | true=>
   simp only[if_true]
   refine Ev.bO1 h29 ?_
   cases b29 with
   | false=>simp only[Bool.false_eq_true,if_false];exact .ret
   | true=>
    simp only[if_true,Ad]
    by_cases c:l7.length=0
    ·simp only[if_pos (show (l7.length:Int)=0 by omega)]
     refine Ev.bO1 h31 ?_
     simp only[decide_eq_true c,Bool.true_and]
     exact .ret
    ·simp only[if_neg (show ¬(l7.length:Int)=0 by omega),decide_eq_false c]
     exact .ret
 have e:=Ev.uniq h8 comp
 simp only[Bool.true_eq,Bool.and_eq_true,decide_eq_true_eq]at e
 obtain⟨g1,rfl,g3,rfl⟩:=e
 obtain⟨rfl,rfl,rfl⟩:=XR h29
 obtain⟨rfl,rfl⟩:=XS h31
 obtain rfl:=List.eq_nil_of_length_eq_zero g3
 have e1:l3=fs.map fd:=by simpa using e1
 refine⟨⟨z1,s2,fs⟩,⟨_,_,_,_,_,_,_,_,_,_,_,_,_,_,rfl,fun _=>⟨e1,rfl,rfl,rfl,rfl⟩⟩,by show 1≤z1;omega,by show z1≤3;omega,w2,fun _=>g1,?_,e2⟩
 have:=congrArg List.length e1
 simp at this
 show fs.length≤6
 omega
def OU (l:List D) (its:List It):Prop:=its.length=l.length∧∀(i:Nat) x it,l[i]?=some x→its[i]?=some it→Xl x it
theorem OU.get {l:List D}{its:List It}(h:OU l its) {i:Nat}{x:D}(hx:l[i]?=some x):∃it,its[i]?=some it∧Xl x it:=by
 have hi:=(List.getElem?_eq_some_iff.1 hx).1
 have hi':i<its.length:=by rw[h.1];exact hi
 exact⟨its[i],List.getElem?_eq_getElem hi',h.2 i x _ hx (List.getElem?_eq_getElem hi')⟩
theorem SW {l:List D}(h:Ao tab 45 l) (hev:Ev (fun n=>F7 n l) true):l.length≤30∧∃its,OU l its:=by
 have stop:Ev (fun n=>KV n l true) false:=.succ (by simp only[KV,if_true];exact .ret)
 unfold F7 at hev
 by_cases c:(30:Int)<(l.length:Int)
 ·simp only[Ad,if_pos c]at hev;exact (Cy hev stop).elim
 simp only[Ad,if_neg c]at hev
 have h2:Ev (fun n=>Ge n l ((0:Nat):Int)) true:=by
  obtain⟨N,hN⟩:=hev
  refine⟨N,fun n hn=>?_⟩
  have:=hN (n+1) (by omega)
  simp only[KV,Bool.false_eq_true,if_false]at this
  exact this
 have loop:∀i:Nat,i≤l.length→Ev (fun n=>Ge n l (i:Int)) true→∀j,i≤j→∀x,l[j]?=some x→∃it,Xl x it:=by
  refine down l.length ?_ ?_
  ·intro _ j hj x hx
   have:=(List.getElem?_eq_some_iff.1 hx).1
   omega
  ·intro i hi ih hev j hj x hx
   obtain⟨y,hy,hm,hr⟩:=h.get hi
   obtain⟨a0,a1,a2,a3,a4,a5,a6,a7,a8,a9,a10,a11,a12,a13,a14,a15,rfl,v0,v1,v2,v3,v4,v5,v6,v7,v8,v9,v10,v11,v12,v13,v14,v15⟩:=W5 hr
   obtain⟨b,hb⟩:=t19 (z1:=a0) (z4:=a3) (z8:=a7) (z9:=a8) (z15:=a14) (z16:=a15) v1 v2 v4 v5 v6 v7 v9 v10 v11 v12 v13
   have head:∀{r:Bool},Ev (fun n=>if (!b)=true then some false else Ge n l ((i+1:Nat):Int)) r→Ev (fun n=>Ge n l (i:Int)) r:=fun hr=>by
    refine .succ ?_
    simp only[Ge,Ad,if_pos (G0 hi)]
    refine .succ ?_
    simp only[Lv,if_true,A0 hy,Bv,Al,Ak,BB hi h.1]
    exact Ev.bO1 hb hr
   cases b with
   | false=>exact (Cy hev (head (by simp only[Bool.not_false,if_true];exact .ret))).elim
   | true=>
    by_cases e:j=i
    ·subst e
     rw[hy]at hx
     cases hx
     exact US v1 v2 hb
    ·refine ih ?_ j (by omega) x hx
     obtain⟨r,hr⟩:Total fun n=>Ge n l ((i+1:Nat):Int):=by
      obtain⟨N,hN⟩:=hev
      obtain⟨M,hM⟩:=hb
      refine⟨true,N+M,fun n hn=>?_⟩
      have:=hN (n+2) (by omega)
      have e:=hM n (by omega)
      simpa only[Ge,Ad,if_pos (G0 hi),Lv,if_true,A0 hy,Bv,Al,Ak,BB hi h.1,e,bO1,Bool.not_true,Bool.false_eq_true,if_false] using this
     cases Ev.uniq hev (head (r:=r) (by simp only[Bool.not_true,Bool.false_eq_true,if_false];exact hr))
     exact hr
 have all:=loop 0 (Nat.zero_le _) h2
 refine⟨by omega,?_⟩
 have build:∀m:List D,(∀x∈m,∃it,Xl x it)→∃its,OU m its:=by
  intro m
  induction m with
  | nil=>intro _;exact⟨[],rfl,by simp⟩
  | cons x m ih=>
   intro hm
   obtain⟨it,hit⟩:=hm x (by simp)
   obtain⟨its,e1,e2⟩:=ih fun y hy=>hm y (by simp[hy])
   refine⟨it::its,by simp[e1],fun i y jt hy hjt=>?_⟩
   cases i with
   | zero=>simp at hy hjt;subst hy;subst hjt;exact hit
   | succ i=>simp at hy hjt;exact e2 i y jt hy hjt
 exact build l fun x hx=>by
  obtain⟨j,hj⟩:=List.getElem?_of_mem hx
  exact all j (Nat.zero_le _) x hj
theorem Qr {l:List D}{i:Nat}(h:i<l.length):∃x,l[i]?=some x:=⟨l[i],List.getElem?_eq_getElem h⟩
def EO (s:ByteArray) (it:It):Bool:=decide (it.k≠3)&&decide (it.nm=s)
def G2 (its:List It) (s:ByteArray):Option Nat:=its.findIdx? (EO s)
def C7 (its:List It) (s:ByteArray) (i:Nat):Int:=match (its.drop i).findIdx? (EO s)with
 | some j=>((i+j:Nat):Int)
 | none=> -1
theorem Na {its:List It}{s:ByteArray}:C7 its s its.length= -1:=by simp[C7]
theorem L1 {its:List It}{s:ByteArray}{i:Nat}{it:It}(h:its[i]?=some it) (hp:EO s it=true):C7 its s i=(i:Int):=by
 have hi:=(List.getElem?_eq_some_iff.1 h).1
 have e:its[i]=it:=(List.getElem?_eq_some_iff.1 h).2
 unfold C7
 rw[List.drop_eq_getElem_cons hi,List.findIdx?_cons,e,hp]
 rfl
theorem L2 {its:List It}{s:ByteArray}{i:Nat}{it:It}(h:its[i]?=some it) (hp:EO s it=false):C7 its s i=C7 its s (i+1):=by
 have hi:=(List.getElem?_eq_some_iff.1 h).1
 have e:its[i]=it:=(List.getElem?_eq_some_iff.1 h).2
 unfold C7
 rw[List.drop_eq_getElem_cons hi,List.findIdx?_cons,e,hp]
 cases (its.drop (i+1)).findIdx? (EO s)with
 | none=>rfl
 | some j=>simp;omega
theorem D8 {its:List It}{s:ByteArray}{j:Nat}(h:G2 its s=some j):∃it,its[j]?=some it∧it.k≠3∧it.nm=s∧C7 its s 0=(j:Int):=by
 obtain⟨hj,h1,_⟩:=List.findIdx?_eq_some_iff_getElem.1 h
 refine⟨its[j],List.getElem?_eq_getElem hj,?_⟩
 simp only[EO,Bool.and_eq_true,decide_eq_true_eq]at h1
 refine⟨h1.1,h1.2,?_⟩
 have h:its.findIdx? (EO s)=some j:=h
 simp[C7,h]
theorem J2 {its:List It}{s:ByteArray}(h:G2 its s=none):C7 its s 0= -1:=by
 have h:its.findIdx? (EO s)=none:=h
 simp[C7,h]
theorem Yi {l:List D}{its:List It}(h:l.length≤maxLen) (hI:OU l its) (s:ByteArray):Ev (fun n=>UE n l s) (C7 its s 0,s):=by
 have loop:∀i:Nat,i≤l.length→Ev (fun n=>Et n l (l.length:Int) (i:Int) s) (C7 its s i,s):=by
  refine down l.length ?_ ?_
  ·rw[show C7 its s l.length= -1 by rw[←hI.1];exact Na]
   refine .succ ?_
   simp only[Et,Int.lt_irrefl,if_false]
   exact .succ (by simp only[FW,Bool.false_eq_true,if_false];exact .ret)
  ·intro i hi ih
   obtain⟨x,hx⟩:=Qr hi
   obtain⟨it,hit,r⟩:=hI.get hx
   obtain⟨a2,a3,a4,a5,a6,a7,a8,a9,a10,a11,a12,a13,a14,a15,rfl,_⟩:=r.row
   refine .succ ?_
   simp only[Et,if_pos (G0 hi)]
   refine .succ ?_
   simp only[FW,if_true,A0 hx,Bv,Al,BB hi h]
   have e107:∀n,UD n it.k it.nm a2 a3 a4 a5 a6 a7 a8 a9 a10 a11 a12 a13 a14 a15 s=some (EO s it,s):=fun n=>by
    unfold UD
    by_cases c:it.k=3
    ·simp only[if_pos c]
     have:EO s it=false:=by unfold EO;rw[decide_eq_false (by simpa using c)];rfl
     rw[this]
    ·simp only[if_neg c]
     by_cases c2:it.nm=s
     ·simp only[if_pos c2]
      have:EO s it=true:=by unfold EO;rw[decide_eq_true (by simpa using c),decide_eq_true c2];rfl
      rw[this]
     ·simp only[if_neg c2]
      have:EO s it=false:=by unfold EO;rw[decide_eq_false c2,Bool.and_false]
      rw[this]
   refine Ev.bO2 (.of e107) ?_
   cases hp:EO s it with
   | true=>
    simp only[if_true]
    rw[L1 hit hp]
    exact .ret
   | false=>
    simp only[Bool.false_eq_true,if_false]
    rw[L2 hit hp]
    exact ih
 unfold UE
 simp only[Ad]
 exact loop 0 (Nat.zero_le _)
theorem XT {l:List D}{its:List It}(h:l.length≤maxLen) (hI:OU l its) (s:ByteArray) (l3 l4:List D):Ev (fun n=>XO n s l l3 l4) (C7 its s 0,l,l3,l4):=by
 have loop:∀i:Nat,i≤l.length→Ev (fun n=>Hr n s l l3 l4 (i:Int)) (C7 its s i,l,l3,l4):=by
  refine down l.length ?_ ?_
  ·rw[show C7 its s l.length= -1 by rw[←hI.1];exact Na]
   refine .succ ?_
   simp only[Hr,Ad,Int.lt_irrefl,if_false]
   exact .succ (by simp only[JN,Bool.false_eq_true,if_false];exact .ret)
  ·intro i hi ih
   obtain⟨x,hx⟩:=Qr hi
   obtain⟨it,hit,r⟩:=hI.get hx
   obtain⟨a2,a3,a4,a5,a6,a7,a8,a9,a10,a11,a12,a13,a14,a15,rfl,_⟩:=r.row
   have yes:EO s it=true→Ev (fun n=>Fx n s l l3 l4 (i:Int) true) (C7 its s i,l,l3,l4):=fun hp=>by
    rw[L1 hit hp]
    exact .succ (by simp only[Fx,if_true];exact .ret)
   have no:EO s it=false→Ev (fun n=>Fx n s l l3 l4 (i:Int) false) (C7 its s i,l,l3,l4):=fun hp=>by
    rw[L2 hit hp]
    exact .succ (by simp only[Fx,Bool.false_eq_true,if_false,Al,BB hi h];exact ih)
   refine .succ ?_
   simp only[Hr,Ad,if_pos (G0 hi)]
   refine .succ ?_
   simp only[JN,if_true,A0 hx,Bv]
   by_cases c:it.k=3
   ·simp only[if_pos c]
    exact no (by unfold EO;rw[decide_eq_false (by simpa using c)];rfl)
   ·simp only[if_neg c]
    by_cases c2:it.nm=s
    ·simp only[if_pos c2]
     exact yes (by unfold EO;rw[decide_eq_true (by simpa using c),decide_eq_true c2];rfl)
    ·simp only[if_neg c2]
     exact no (by unfold EO;rw[decide_eq_false c2,Bool.and_false])
 unfold XO
 exact loop 0 (Nat.zero_le _)
end Go.Proofs.YtmggjbjpklecgaaGreatDoor
end
set_option linter.unusedVariables false
noncomputable section
namespace Go.Proofs.YtmggjbjpklecgaaGreatDoor
open Go Go.AM
theorem OV {γ:Type}{b:Nat}{L M:List D}{k:List D→Option γ}(h:L.length+M.length≤10000) (hb:b≤1000):D3 b L M k=k (L++M):=by
 have hm:maxLen=9223372036854775807:=rfl
 unfold D3
 rw[if_pos]
 refine⟨by omega,?_⟩
 calc (L.length+M.length)*b≤10000*1000:=Nat.mul_le_mul h hb
  _≤140737488355328:=by decide
theorem Qs {z:Int}{s:ByteArray}:Ev (fun n=>Mw n z s []) (z,s,[]):=by
 refine .succ ?_
 simp only[Mw]
 refine Ev.bO1 (a:=[]) ?_ .ret
 refine .succ ?_
 simp only[UF,Ad]
 refine .succ ?_
 simp only[Eu,List.length_nil,if_neg (show ¬(0:Int)<((0:Nat):Int)by decide)]
 exact .succ (by simp only[Ew,Bool.false_eq_true,if_false];exact .ret)
theorem WX:∀w:W,Ev (fun n=>Mw n w.k w.nm w.args) (w.k,w.nm,w.args)
 | .named s=>Qs
 | .leaf k=>Qs
 | .wrap k t=>by
  refine .succ ?_
  simp only[Mw]
  refine Ev.bO1 (a:=[t.d]) ?_ .ret
  refine .succ ?_
  simp only[UF,Ad,W.args]
  refine .succ ?_
  have hx:([t.d]:List D)[0]?=some t.d:=rfl
  have gx:∀{γ:Type} (k:D→Option γ),BT [t.d] 0 k=k t.d:=fun k=>Ct (by omega) rfl
  have ha:∀{γ:Type} (v:D) (k:List D→Option γ),D3 48 ([]:List D) [v] k=k [v]:=fun v k=>OV (by simp) (by omega)
  simp only[Eu,List.length_singleton,if_pos (show (0:Int)<((1:Nat):Int)by decide)]
  refine .succ ?_
  simp only[Ew,if_true,gx]
  rw[W.Sg]
  simp only[Cl]
  refine Ev.bO3 (WX t) ?_
  rw[←W.Sg]
  simp only[ha,Al,show IntKind.i64.wrap (0+1)=1 by decide]
  refine .succ ?_
  simp only[Eu,if_neg (show ¬(1:Int)<((1:Nat):Int)by decide)]
  exact .succ (by simp only[Ew,Bool.false_eq_true,if_false];exact .ret)
theorem Yj {fs:List (ByteArray×W)}(h:fs.length≤6):Ev (fun n=>UJ n (fs.map fd)) (fs.map fd):=by
 have hl:(fs.map fd).length=fs.length:=by simp
 have hm:maxLen=9223372036854775807:=rfl
 have loop:∀i:Nat,i≤(fs.map fd).length→Ev (fun n=>Ex n (fs.map fd) ((fs.map fd).length:Int) ((fs.map fd).take i) (i:Int)) (fs.map fd):=by
  refine down (fs.map fd).length ?_ ?_
  ·refine .succ ?_
   simp only[Ex,Int.lt_irrefl,if_false,List.take_length]
   exact .succ (by simp only[FX,Bool.false_eq_true,if_false];exact .ret)
  ·intro i hi ih
   have hi':i<fs.length:=by omega
   have hx:(fs.map fd)[i]?=some (fd fs[i]):=by simp[hi']
   have ha:∀{γ:Type} (v:D) (k:List D→Option γ),D3 64 ((fs.map fd).take i) [v] k=k ((fs.map fd).take i++[v]):=fun v k=>OV (by simp only[List.length_take,List.length_cons,List.length_nil];omega) (by omega)
   refine .succ ?_
   simp only[Ex,if_pos (G0 hi)]
   refine .succ ?_
   simp only[FX,if_true,A0 hx,fd,B5]
   refine Ev.bO4 (Ev.bO3 (WX fs[i].2) .ret) ?_
   simp only[ha,Al,BB hi (by omega)]
   have e:(fs.map fd).take i++[fd fs[i]]=(fs.map fd).take (i+1):=by
    rw[List.take_add_one,hx]
    rfl
   have e':(fs.map fd).take i++[.agg [.str fs[i].1,.int .u8 fs[i].2.k,.str fs[i].2.nm,.list true 3 fs[i].2.args]]=(fs.map fd).take (i+1):=e
   rw[e']
   exact ih
 unfold UJ
 simp only[Ad]
 exact loop 0 (Nat.zero_le _)
theorem XU:Ev (fun n=>UG n []) []:=.succ (.of fun n=>by simp[UG,VL,Gs,D3])
theorem XV:Ev (fun n=>UH n []) []:=by
 refine .succ ?_
 simp only[UH,Ad]
 refine .succ ?_
 simp only[Gt,List.length_nil,if_neg (show ¬(0:Int)<((0:Nat):Int)by decide)]
 exact .succ (by simp only[Gu,Bool.false_eq_true,if_false];exact .ret)
theorem XW:Ev (fun n=>UI n []) ():=by
 refine .succ ?_
 simp only[UI,Ad]
 refine .succ ?_
 simp only[IH,List.length_nil,if_neg (show ¬(0:Int)<((0:Nat):Int)by decide)]
 exact .succ (by simp only[Gv,Bool.false_eq_true,if_false];exact .ret)
theorem Yk {fs:List (ByteArray×W)}(h:fs.length≤6) {z1:Int}{s2:ByteArray}{a3:Int}{a4:ByteArray}{a7 a8:Int}{a9 a10 a11:ByteArray}{a14 a15:Int}:
  Ev (fun n=>YY n [.agg [.int .u8 z1,.str s2,.list true 4 (fs.map fd),.int .u8 a3,.str a4,.list true 3 [],.list true 15 [],.int .u8 a7,.int .i64 a8,.str a9,.str a10,.str a11,.list false 1 [],.list true 8 [],.int .i64 a14,.int .i64 a15]])
   [.agg [.int .u8 z1,.str s2,.list true 4 (fs.map fd),.int .u8 a3,.str a4,.list true 3 [],.list true 15 [],.int .u8 a7,.int .i64 a8,.str a9,.str a10,.str a11,.list false 1 [],.list true 8 [],.int .i64 a14,.int .i64 a15]]:=by
 have gx:∀{γ:Type} (x:D) (k:D→Option γ),BT [x] 0 k=k x:=fun x k=>Ct (by omega) rfl
 have ha:∀{γ:Type} (v:D) (k:List D→Option γ),D3 248 ([]:List D) [v] k=k [v]:=fun v k=>OV (by simp) (by omega)
 unfold YY
 refine Ev.bO1 ?_ .ret
 unfold Vf
 refine Ev.bO1 ?_ .ret
 unfold Ve
 simp only[Ad]
 refine .succ ?_
 simp only[FY,List.length_singleton,if_pos (show (0:Int)<((1:Nat):Int)by decide)]
 refine .succ ?_
 simp only[FZ,if_true,gx,Bv]
 have e131:Ev (fun n=>Ql n a7 a8 a9 a10 a11 [] [] a14) (a7,a8,a9,a10,a11,[],[],a14):=by
  refine .succ ?_
  simp only[Ql]
  refine Ev.bO2 (a:=a11) (b:=[]) ?_ (Ev.bO1 XV (Ev.bO1 (.of fun n=>rfl) .ret))
  unfold Vd
  exact Ev.bO1 XU .ret
 have e139:Ev (fun n=>UK n z1 s2 (fs.map fd) a3 a4 [] [] a7 a8 a9 a10 a11 [] [] a14 a15) (z1,s2,fs.map fd,a3,a4,[],a7,a8,a9,a10,a11,[],[],a14,a15):=by
  unfold UK
  exact Ev.bO1 (Yj h) (Ev.bO3 Qs (Ev.bO0 XW (Ev.bO8 e131 (Ev.bO1 (.of fun n=>rfl) .ret))))
 refine Ev.bO15 e139 ?_
 simp only[ha,Al,show IntKind.i64.wrap (0+1)=1 by decide]
 refine .succ ?_
 simp only[FY,if_neg (show ¬(1:Int)<((1:Nat):Int)by decide)]
 exact .succ (by simp only[FZ,Bool.false_eq_true,if_false];exact .ret)
def BX (its:List It) (s:ByteArray):List (ByteArray×W):=match G2 its s with
 | none=>[]
 | some j=>match its[j]? with
  | none=>[]
  | some it=>it.fs
theorem Z2 {l:List D}{its:List It}(h:l.length≤maxLen) (hI:OU l its) (s:ByteArray):∃b,Ev (fun n=>XK n l s) ((BX its s).map fd,b):=by
 have gx:∀{γ:Type} (x:D) (k:D→Option γ),BT [x] 0 k=k x:=fun x k=>Ct (by omega) rfl
 have e106:=Yi h hI s
 cases hf:G2 its s with
 | none=>
  rw[J2 hf]at e106
  refine⟨false,?_⟩
  have e90:Ev (fun n=>XI n l s) ((0:Int),ByteArray.empty,([]:List D),(0:Int),ByteArray.empty,([]:List D),([]:List D),(0:Int),(0:Int),ByteArray.empty,ByteArray.empty,ByteArray.empty,([]:List D),([]:List D),(0:Int),(0:Int),false):=by
   unfold XI
   refine Ev.bO2 e106 ?_
   simp only[if_pos (show (-1:Int)<0 by decide)]
   exact .succ (by simp only[JF,if_true];exact .ret)
  unfold XK
  refine Ev.bO17 e90 ?_
  simp only[Ak,Bool.not_false,if_true]
  refine .succ ?_
  simp only[Fu,if_true,BX,hf,List.map_nil]
  exact .ret
 | some j=>
  obtain⟨it,hit,hk,hnm,hj⟩:=D8 hf
  rw[hj]at e106
  have hlt:j<l.length:=by rw[←hI.1];exact (List.getElem?_eq_some_iff.1 hit).1
  obtain⟨x,hx⟩:=Qr hlt
  have r:=hI.2 j x it hx hit
  obtain⟨a2,a3,a4,a5,a6,a7,a8,a9,a10,a11,a12,a13,a14,a15,rfl,hrow⟩:=r.row
  obtain⟨rfl,rfl,rfl,rfl,rfl⟩:=hrow hk
  refine⟨true,?_⟩
  have e90:Ev (fun n=>XI n l s) (it.k,it.nm,it.fs.map fd,a3,a4,[],[],a7,a8,a9,a10,a11,[],[],a14,a15,true):=by
   unfold XI
   refine Ev.bO2 e106 ?_
   simp only[if_neg (show ¬(j:Int)<0 by omega)]
   refine .succ ?_
   simp only[JF,Bool.false_eq_true,if_false,A0 hx,Bv]
   exact .ret
  have go:Ev (fun n=>Fu n it.k it.nm (it.fs.map fd) a3 a4 [] [] a7 a8 a9 a10 a11 [] [] a14 a15 false) (it.fs.map fd,true):=by
   refine .succ ?_
   simp only[Fu,Bool.false_eq_true,if_false]
   refine Ev.bO1 (Yk r.few) ?_
   simp only[gx,Bv]
   exact .ret
  have hfl:BX its s=it.fs:=by simp only[BX,hf,hit]
  rw[hfl]
  unfold XK
  refine Ev.bO17 e90 ?_
  simp only[Ak,Bool.not_true,Bool.false_eq_true,if_false]
  have k1:=r.k1
  have k3:=r.k3
  by_cases c1:it.k=1
  ·simp only[if_pos c1];exact go
  ·simp only[if_neg c1,if_pos (show it.k=2 by omega)];exact go
theorem Vi {l:List D}{its:List It}(h:l.length≤maxLen) (hI:OU l its) (s:ByteArray):(BX its s).length≤6∧∀f∈BX its s,f.2.ok∧f.2.dep<40∧f.2.nm.size≤maxLen:=by
 unfold BX
 cases hf:G2 its s with
 | none=>simp
 | some j=>
  obtain⟨it,hit,hk,hnm,hj⟩:=D8 hf
  have hlt:j<l.length:=by rw[←hI.1];exact (List.getElem?_eq_some_iff.1 hit).1
  obtain⟨x,hx⟩:=Qr hlt
  have r:=hI.2 j x it hx hit
  simp only[hit]
  exact⟨r.few,r.fok⟩
end Go.Proofs.YtmggjbjpklecgaaGreatDoor
end
set_option linter.unusedVariables false
noncomputable section
namespace Go.Proofs.YtmggjbjpklecgaaGreatDoor
open Go Go.AM
def Hv (m:List Az):List (ByteArray×Bool):=m.map (·.1)
theorem D9 {s:ByteArray}{b:Bool}{z:Int}{k:ByteArray×Bool}:∀{m:List Az},k∈Hv (E4 m s b z)↔k=(s,b)∨k∈Hv m
 | []=>by simp[E4,Hv]
 | x::r=>by
  have ih:=D9 (s:=s) (b:=b) (z:=z) (k:=k) (m:=r)
  unfold Hv at ih ⊢
  unfold E4
  by_cases h:x.1=(s,b)
  ·rw[if_pos h]
   simp only[List.map_cons,List.mem_cons,h]
   constructor
   ·rintro (rfl | h2)
    ·exact .inl rfl
    ·exact .inr (.inr h2)
   ·rintro (rfl | rfl | h2)
    ·exact .inl rfl
    ·exact .inl rfl
    ·exact .inr h2
  ·rw[if_neg h]
   simp only[List.map_cons,List.mem_cons,ih]
   constructor
   ·rintro (h1 | h1 | h1)
    ·exact .inr (.inl h1)
    ·exact .inl h1
    ·exact .inr (.inr h1)
   ·rintro (h1 | h1 | h1)
    ·exact .inr (.inl h1)
    ·exact .inl h1
    ·exact .inr (.inr h1)
theorem Ez {s t:ByteArray}{b c:Bool}{z:Int}(hne:(t,c)≠(s,b)):∀{m:List Az},Bx (E4 m s b z) t c=Bx m t c
 | []=>by
  show (if ((s,b),z).1=(t,c)then z else 0)=0
  rw[if_neg (fun h=>hne h.symm)]
 | x::r=>by
  unfold E4
  by_cases h:x.1=(s,b)
  ·rw[if_pos h]
   have:x.1≠(t,c):=fun e=>hne (e.symm.trans h)
   show (if x.1=(t,c)then z else Bx r t c)=(if x.1=(t,c)then x.2 else Bx r t c)
   rw[if_neg this,if_neg this]
  ·rw[if_neg h]
   show (if x.1=(t,c)then x.2 else Bx (E4 r s b z) t c)=(if x.1=(t,c)then x.2 else Bx r t c)
   rw[Ez hne]
theorem L3 {s:ByteArray}{b:Bool}:∀{m:List Az},(s,b)∉Hv m→Bx m s b=0
 | [],_=>rfl
 | x::r,h=>by
  simp only[Hv,List.map_cons,List.mem_cons,not_or]at h
  show (if x.1=(s,b)then x.2 else Bx r s b)=0
  rw[if_neg (fun e=>h.1 e.symm)]
  exact L3 h.2
theorem OW {α:Type}{p q:α→Bool}(h:∀x,q x=true→p x=true):∀l:List α,(l.filter q).length≤(l.filter p).length
 | []=>Nat.le_refl _
 | x::l=>by
  have ih:=OW h l
  cases hq:q x with
  | true=>simp[hq,h x hq,ih]
  | false=>
   cases hp:p x with
   | true=>simp[hq,hp];omega
   | false=>simp[hq,hp,ih]
theorem Ro {α:Type}{p q:α→Bool}(h:∀x,q x=true→p x=true):∀{l:List α}{x:α},x∈l→p x=true→q x=false→(l.filter q).length<(l.filter p).length
 | y::l,x,hx,hp,hq=>by
  have le:=OW h l
  rcases List.mem_cons.1 hx with rfl | hx
  ·simp[hp,hq];omega
  ·have ih:=Ro h hx hp hq
   cases hq':q y with
   | true=>simp[hq',h y hq',ih]
   | false=>
    cases hp':p y with
    | true=>simp[hq',hp'];omega
    | false=>simp[hq',hp',ih]
def never (w:W) (b:Bool):Bool:=decide (w.k=7) || (b&&decide (w.k=6))
def both (k:Int) (b:Bool):Bool×Bool:=if k=8 then (false,true)else if k=9∨k=11∨k=12 then (false,false)else if k=13 then (true,true)else (b,b)
inductive G3 (its:List It):W→Bool→Prop
 | never {w:W} {b:Bool} (h:never w b=true):G3 its w b
 | named {s:ByteArray} {b:Bool} {f:ByteArray×W} (hf:f∈BX its s) (h:G3 its f.2 b):G3 its (.named s) b
 | w1 {k:Int} {t:W} {b:Bool} (h:G3 its t (both k b).1):G3 its (.wrap k t) b
 | w2 {k:Int} {t:W} {b:Bool} (h:G3 its t (both k b).2):G3 its (.wrap k t) b
def Nb (A:ByteArray→Bool→Prop):W→Bool→Prop
 | .named s,b=>A s b
 | .leaf k,b=>never (.leaf k) b=false
 | .wrap k t,b=>never (.wrap k t) b=false∧Nb A t (both k b).1∧Nb A t (both k b).2
theorem Nb.mono {A B:ByteArray→Bool→Prop}(h:∀s b,A s b→B s b):∀{w:W}{b:Bool},Nb A w b→Nb B w b
 | .named s,b,c=>h s b c
 | .leaf k,b,c=>c
 | .wrap k t,b,c=>⟨c.1,Nb.mono h c.2.1,Nb.mono h c.2.2⟩
theorem Qt {its:List It}{A:ByteArray→Bool→Prop}(hA:∀s b,A s b→∀f∈BX its s,Nb A f.2 b) {w:W}{b:Bool}(h:G3 its w b):¬Nb A w b:=by
 induction h with
 | never h=>
  rename_i w b
  intro c
  cases w with
  | named s=>simp[Go.Proofs.YtmggjbjpklecgaaGreatDoor.never,W.k]at h
  | leaf k=>rw[show Go.Proofs.YtmggjbjpklecgaaGreatDoor.never (.leaf k) b=false from c]at h;cases h
  | wrap k t=>rw[c.1]at h;cases h
 | named hf _ ih=>exact fun c=>ih (hA _ _ c _ hf)
 | w1 _ ih=>exact fun c=>ih c.2.1
 | w2 _ ih=>exact fun c=>ih c.2.2
theorem XX {z:Int}{s:ByteArray}{l:List D}{b:Bool}{l5:List D}:Ev (fun n=>YV n z s l b l5) (z,s,l,b,l5):=.of fun n=>rfl
theorem UT (w:W) (b:Bool) (n:Nat):Xj n w.k w.nm w.args b=some (never w b):=by
 unfold Xj never
 by_cases c7:w.k=7
 ·simp[c7]
 ·by_cases c6:w.k=6
  ·cases b<;>simp[c6]
  ·cases b<;>simp[c6,c7]
section
variable {α β γ:Type}
theorem Ev.Y5 {A:Nat→Option (α ⊕ β)}{a:α}{k1:Nat→α→Option γ}{k2:Nat→β→Option γ}{r:γ}(ha:Ev A (.inl a)) (hk:Ev (fun n=>k1 n a) r):Ev (fun n=>bS (A n) (k1 n) (k2 n)) r:=by
 obtain⟨N,ha⟩:=ha
 obtain⟨M,hk⟩:=hk
 refine⟨N+M,fun n hn=>?_⟩
 show bS (A n) (k1 n) (k2 n)=some r
 rw[ha n (by omega)]
 exact hk n (by omega)
theorem Ev.Vx {A:Nat→Option (α ⊕ β)}{a:β}{k1:Nat→α→Option γ}{k2:Nat→β→Option γ}{r:γ}(ha:Ev A (.inr a)) (hk:Ev (fun n=>k2 n a) r):Ev (fun n=>bS (A n) (k1 n) (k2 n)) r:=by
 obtain⟨N,ha⟩:=ha
 obtain⟨M,hk⟩:=hk
 refine⟨N+M,fun n hn=>?_⟩
 show bS (A n) (k1 n) (k2 n)=some r
 rw[ha n (by omega)]
 exact hk n (by omega)
end
def kk (K:List ByteArray):List (ByteArray×Bool):=K.flatMap fun s=>[(s,false),(s,true)]
open Classical in
def isKey (m:List Az) (k:ByteArray×Bool):Bool:=decide (k∈Hv m)
def mu (K:List ByteArray) (m:List Az):Nat:=((kk K).filter fun k=>!isKey m k).length
def Ji (m:List Az) (s:ByteArray) (b:Bool):Prop:=(s,b)∈Hv m
def CC:Int:=6*2 ^ 40
def MM:Int:=2 ^ 62
def Pos (m:List Az):Prop:=∀s b,Ji m s b→1≤Bx m s b
structure Fr (K:List ByteArray) (c:Int) (m m':List Az):Prop where
 sub:∀s b,Ji m s b→Ji m' s b
 pos:Pos m'
 mle:mu K m'≤mu K m
 cnt:∀s b,Bx m' s b≤Bx m s b+c+CC*((mu K m:Int) - (mu K m':Int))
theorem Fr.trans {K:List ByteArray}{c d:Int}{m m1 m2:List Az}(h:Fr K c m m1) (g:Fr K d m1 m2):Fr K (c+d) m m2:=by
 refine⟨fun s b q=>g.sub s b (h.sub s b q),g.pos,Nat.le_trans g.mle h.mle,fun s b=>?_⟩
 have h1:=h.cnt s b
 have h2:=g.cnt s b
 have e:CC*((mu K m:Int) - (mu K m1:Int))+CC*((mu K m1:Int) - (mu K m2:Int))=CC*((mu K m:Int) - (mu K m2:Int)):=by
  rw[←Int.mul_add];congr 1;omega
 omega
theorem Fr.refl {K:List ByteArray}{c:Int}{m:List Az}(hp:Pos m) (hc:0≤c):Fr K c m m:=by
 refine⟨fun _ _ h=>h,hp,Nat.le_refl _,fun s b=>?_⟩
 rw[Int.sub_self,Int.mul_zero]
 omega
def UU (its:List It) (m m':List Az):Prop:=∀s b,Ji m' s b→¬Ji m s b→∀f∈BX its s,Nb (Ji m') f.2 b
theorem UU.trans {its:List It}{m m1 m2:List Az}(h:UU its m m1) (hs:∀s b,Ji m1 s b→Ji m2 s b) (g:UU its m1 m2):UU its m m2:=by
 intro s b h2 h0 f hf
 by_cases h1:Ji m1 s b
 ·exact Nb.mono hs (h s b h1 h0 f hf)
 ·exact g s b h2 h1 f hf
theorem UU.refl {its:List It}{m:List Az}:UU its m m:=fun s b h h'=>absurd h h'
theorem UW {K:List ByteArray}{m m':List Az}(h:∀s b,Ji m s b→Ji m' s b):mu K m'≤mu K m:=by
 refine OW (fun x hx=>?_) _
 simp only[isKey,Bool.not_eq_true',decide_eq_false_iff_not]at hx ⊢
 exact fun hm=>hx (h x.1 x.2 hm)
theorem Yl {K:List ByteArray}{m m':List Az}(h:∀s b,Ji m s b→Ji m' s b) {s:ByteArray}{b:Bool}(hK:s∈K) (h0:¬Ji m s b) (h1:Ji m' s b):mu K m'<mu K m:=by
 refine Ro (fun x hx=>?_) (x:=(s,b)) ?_ ?_ ?_
 ·simp only[isKey,Bool.not_eq_true',decide_eq_false_iff_not]at hx ⊢
  exact fun hm=>hx (h x.1 x.2 hm)
 ·exact List.mem_flatMap.2 ⟨s,hK,by cases b<;>simp⟩
 ·simpa [isKey,Ji] using h0
 ·simpa [isKey,Ji] using h1
def W.has (K:List ByteArray):W→Prop
 | .named s=>s∈K
 | .leaf _=>True
 | .wrap _ t=>t.has K
def pw (w:W):Int:=2 ^ w.dep
def Told (its:List It) (l:List D) (K:List ByteArray) (w:W) (b:Bool) (m:List Az):Prop:=
 (∃m',Ev (fun n=>Rk n w.k w.nm w.args b m l) (true,m',l)∧G3 its w b)∨
 ∃m',Ev (fun n=>Rk n w.k w.nm w.args b m l) (false,m',l)∧Fr K (pw w) m m'∧UU its m m'∧Nb (Ji m') w b
def Room (K:List ByteArray) (c:Int) (m:List Az):Prop:=∀s b,Bx m s b+c+CC*(mu K m:Int)≤MM
theorem Room.after {K:List ByteArray}{c d:Int}{m m':List Az}(h:Room K (c+d) m) (f:Fr K c m m'):Room K d m':=by
 intro s b
 have h1:=h s b
 have h2:=f.cnt s b
 have e:CC*((mu K m:Int) - (mu K m':Int))=CC*(mu K m:Int) - CC*(mu K m':Int):=Int.mul_sub ..
 omega
theorem Room.le {K:List ByteArray}{c d:Int}{m:List Az}(h:Room K c m) (hd:d≤c):Room K d m:=fun s b=>by have:=h s b;omega
theorem UX (w:W):1≤pw w:=by
 unfold pw
 have:(0:Int)<2 ^ w.dep:=Int.pow_pos (by omega)
 omega
theorem WY {w:W}(h:w.dep<40):pw w≤2 ^ 40:=by
 unfold pw
 have:(2:Nat) ^ w.dep≤2 ^ 40:=Nat.pow_le_pow_right (by omega) (by omega)
 exact_mod_cast this
section
variable {its:List It}{l:List D}{K:List ByteArray}
theorem round {w:W}{b:Bool}{m:List Az}(h:Told its l K w b m) (b7:Bool):
  (∃m',Ev (fun n=>Hh n w.k w.nm w.args b m l b7) (.inl (m',l))∧G3 its w b)∨
  ∃m',Ev (fun n=>Hh n w.k w.nm w.args b m l b7) (.inr (m',l,b7))∧Fr K (pw w) m m'∧UU its m m'∧Nb (Ji m') w b:=by
 rcases h with⟨m',h1,h2⟩ | ⟨m',h1,h2⟩
 ·refine .inl ⟨m',.succ ?_,h2⟩
  simp only[Hh]
  exact Ev.bO3 h1 (by simp only[if_true];exact .ret)
 ·refine .inr ⟨m',.succ ?_,h2⟩
  simp only[Hh]
  exact Ev.bO3 h1 (by simp only[Bool.false_eq_true,if_false];exact .ret)
theorem Pr (hI:∀s,(BX its s).length≤6∧∀f∈BX its s,f.2.ok∧f.2.dep<40∧f.2.nm.size≤maxLen) {s:ByteArray}{b:Bool}{M:Nat}
  (hrec:∀f∈BX its s,∀m,mu K m≤M→Pos m→Room K (pw f.2) m→Told its l K f.2 b m):
  ∀i:Nat,i≤((BX its s).map fd).length→∀m,mu K m≤M→Pos m→Room K (((BX its s).length - i:Nat)*2 ^ 40) m→
   (∃m',Ev (fun n=>Dz n 4 s [] b l ((BX its s).map fd) (((BX its s).map fd).length:Int) (i:Int) m l false) (.inl (m',l,4,s,[],b,l))∧∃f∈BX its s,G3 its f.2 b)∨
   ∃m',Ev (fun n=>Dz n 4 s [] b l ((BX its s).map fd) (((BX its s).map fd).length:Int) (i:Int) m l false) (.inr (m',l,false,4,s,[],b,l))∧Fr K (((BX its s).length - i:Nat)*2 ^ 40) m m'∧UU its m m'∧∀f∈(BX its s).drop i,Nb (Ji m') f.2 b:=by
 have hl:((BX its s).map fd).length=(BX its s).length:=by simp
 have hm:maxLen=9223372036854775807:=rfl
 have h6:=(hI s).1
 refine down ((BX its s).map fd).length ?_ ?_
 ·intro m _ hp _
  refine .inr ⟨m,.succ ?_,Fr.refl hp (by rw[hl];simp),UU.refl,by rw[hl];simp⟩
  simp only[Dz,Int.lt_irrefl,if_false]
  exact .succ (by simp only[JG,Bool.false_eq_true,if_false];exact .ret)
 ·intro i hi ih m hM hp hR
  have hi':i<(BX its s).length:=by omega
  have hx:((BX its s).map fd)[i]?=some (fd (BX its s)[i]):=by simp[hi']
  have hf:(BX its s)[i]∈BX its s:=List.getElem_mem hi'
  have hdep:=WY ((hI s).2 _ hf).2.1
  have ec:(((BX its s).length - i:Nat):Int)*2 ^ 40=2 ^ 40+(((BX its s).length - (i+1):Nat):Int)*2 ^ 40:=by
   have:(BX its s).length - i=((BX its s).length - (i+1))+1:=by omega
   rw[this];push_cast;omega
  have hR1:Room K (pw (BX its s)[i].2) m:=hR.le (by omega)
  have head:∀{R},Ev (fun n=>bS (Hh n (BX its s)[i].2.k (BX its s)[i].2.nm (BX its s)[i].2.args b m l false) (fun p28=>bO2 (some p28) fun cm23 l24=>some (Sum.inl (cm23,l24,(4:Int),s,([]:List D),b,l))) (fun p29=>bO3 (some p29) fun cm25 l26 b27=>Dz n 4 s [] b l ((BX its s).map fd) (((BX its s).map fd).length:Int) ((i+1:Nat):Int) cm25 l26 b27)) R→
    Ev (fun n=>Dz n 4 s [] b l ((BX its s).map fd) (((BX its s).map fd).length:Int) (i:Int) m l false) R:=fun hr=>by
   refine .succ ?_
   simp only[Dz,if_pos (G0 hi)]
   refine .succ ?_
   simp only[JG,if_true,A0 hx,fd,B5,Al,BB hi (show ((BX its s).map fd).length≤maxLen by omega)]
   exact hr
  rcases round (hrec _ hf m hM hp hR1) false with⟨m1,e1,e2⟩ | ⟨m1,e1,e2,e3,e4⟩
  ·exact .inl ⟨m1,head (Ev.Y5 e1 (by simp only[bO2];exact .ret)),_,hf,e2⟩
  ·have e2':Fr K (2 ^ 40) m m1:=⟨e2.sub,e2.pos,e2.mle,fun s b=>by have:=e2.cnt s b;omega⟩
   have hR2:Room K (((BX its s).length - (i+1):Nat)*2 ^ 40) m1:=Room.after (by rw[←ec];exact hR) e2'
   rcases ih m1 (Nat.le_trans e2.mle hM) e2.pos hR2 with⟨m2,g1,g2⟩ | ⟨m2,g1,g2,g3,g4⟩
   ·exact .inl ⟨m2,head (Ev.Vx e1 (by simp only[bO3];exact g1)),g2⟩
   ·refine .inr ⟨m2,head (Ev.Vx e1 (by simp only[bO3];exact g1)),by rw[ec];exact e2'.trans g2,e3.trans g2.sub g3,fun f hf'=>?_⟩
    rw[List.drop_eq_getElem_cons hi']at hf'
    rcases List.mem_cons.1 hf' with rfl | hf'
    ·exact Nb.mono g2.sub e4
    ·exact g4 f hf'
theorem Vj {k:Int}{b:Bool}{l6 l8:List D}{s5:ByteArray}{z31 z32:Int}{cm:List Az}{l34:List D}{b35:Bool}{z38:Int}{s39:ByteArray}{l40:List D}{R:((List Az×List D×Int×ByteArray×List D×Bool×List D) ⊕ (List Az×List D×Bool×Int×ByteArray×List D×Bool×List D))}
  (h:Ev (fun n=>DF n k s5 l6 b l8 z31 z32 cm l34 b35 z38 s39 l40 (both k b).1 (both k b).2) R):Ev (fun n=>if k=(8:Int)then Gw n k s5 l6 b l8 z31 z32 cm l34 b35 z38 s39 l40 true else Gw n k s5 l6 b l8 z31 z32 cm l34 b35 z38 s39 l40 false) R:=by
 by_cases c8:k=8
 ·simp only[both,if_pos c8]at h ⊢
  exact .succ (by simp only[Gw,if_true];exact h)
 simp only[if_neg c8]
 refine .succ ?_
 simp only[Gw,Bool.false_eq_true,if_false]
 have nine:(k=9∨k=11∨k=12)→Ev (fun n=>Fw n k s5 l6 b l8 z31 z32 cm l34 b35 z38 s39 l40 true) R:=fun c=>by
  simp only[both,if_neg c8,if_pos c]at h
  exact .succ (by simp only[Fw,if_true];exact h)
 by_cases c9:k=9
 ·simp only[if_pos c9]
  exact .succ (by simp only[JH,if_true];exact nine (.inl c9))
 simp only[if_neg c9]
 refine .succ ?_
 simp only[JH,Bool.false_eq_true,if_false]
 by_cases c11:k=11
 ·simp only[if_pos c11]
  exact .succ (by simp only[JI,if_true];exact nine (.inr (.inl c11)))
 simp only[if_neg c11]
 refine .succ ?_
 simp only[JI,Bool.false_eq_true,if_false]
 by_cases c12:k=12
 ·simp only[if_pos c12]
  exact nine (.inr (.inr c12))
 simp only[if_neg c12]
 refine .succ ?_
 have cn:¬(k=9∨k=11∨k=12):=by rintro (c | c | c)<;>contradiction
 simp only[Fw,Bool.false_eq_true,if_false]
 by_cases c13:k=13
 ·simp only[both,if_neg c8,if_neg cn,if_pos c13]at h
  simp only[if_pos c13]
  exact .succ (by simp only[Fa,if_true];exact h)
 ·simp only[both,if_neg c8,if_neg cn,if_neg c13]at h
  simp only[if_neg c13]
  exact .succ (by simp only[Fa,Bool.false_eq_true,if_false];exact h)
theorem Ku {l:List D}{k:Int}{s:ByteArray}{args:List D}{b:Bool}{m:List Az}{R:Bool×List Az×List D}(hk4:k≠4) (h:Ev (fun n=>bO1 (Xj n k s args b) fun b12=>(if b12=true then some (true,m,l)else bO5 (YV n k s args b l) fun z13 s14 l15 b16 l17=>bS (UL n m l false z13 s14 l15 b16 l17) (fun p33=>bO7 (some p33) fun cm18 l19 z20 s21 l22 b23 l24=>Da n cm18 l19 true) (fun p34=>bO8 (some p34) fun cm25 l26 b27 z28 s29 l30 b31 l32=>Da n cm25 l26 b27))) R):Ev (fun n=>Rk n k s args b m l) R:=by
 refine .succ ?_
 simp only[Rk,if_neg hk4]
 refine .succ ?_
 simp only[JJ,Bool.false_eq_true,if_false]
 refine .succ ?_
 simp only[JK]
 exact h
theorem told (hI:∀s,(BX its s).length≤6∧∀f∈BX its s,f.2.ok∧f.2.dep<40∧f.2.nm.size≤maxLen) (hK:∀s,∀f∈BX its s,f.2.has K) (h62:∀s,∃b,Ev (fun n=>XK n l s) ((BX its s).map fd,b)):
  ∀(M:Nat) (w:W) (b:Bool) (m:List Az),w.ok→w.has K→mu K m≤M→Pos m→Room K (pw w) m→Told its l K w b m:=by
 intro M
 induction M using Nat.strongRecOn with
 | _ M ihM=>
  intro w
  induction w with
  | named s=>
   intro b m _ hs hM hp hR
   have hw:never (.named s) b=false:=by simp[never,W.k]
   have pw1:pw (.named s)=1:=rfl
   have h0:0≤Bx m s b:=by
    by_cases c:Ji m s b
    ·have:=hp s b c;omega
    ·rw[L3 c];exact Int.le_refl _
   have hR0:=hR s b
   have hmu:0≤CC*(mu K m:Int):=Int.mul_nonneg (by decide) (by omega)
   have hMM:MM=4611686018427387904:=by decide
   have wr:IntKind.i64.wrap (Bx m s b+1)=Bx m s b+1:=DL (by omega)
   have hinc:CO m s b=E4 m s b (Bx m s b+1):=by unfold CO;rw[wr]
   have sub:∀t c,Ji m t c→Ji (CO m s b) t c:=fun t c h=>by
    rw[hinc]
    exact D9.2 (.inr h)
   have here:Ji (CO m s b) s b:=by rw[hinc];exact D9.2 (.inl rfl)
   have cnt1:Bx (CO m s b) s b=Bx m s b+1:=by rw[hinc,Jz]
   have cnt2:∀t c,Bx (CO m s b) t c≤Bx m t c+1:=fun t c=>by
    by_cases e:(t,c)=(s,b)
    ·cases e;rw[cnt1];omega
    ·rw[hinc,Ez e];omega
   have pos1:Pos (CO m s b):=fun t c h=>by
    by_cases e:(t,c)=(s,b)
    ·cases e;rw[cnt1];omega
    ·rw[hinc,Ez e]
     rw[hinc]at h
     rcases D9.1 h with h | h
     ·exact absurd h e
     ·exact hp t c h
   have head:∀{R:Bool×List Az×List D},Ev (fun n=>if (1:Int)<Bx (CO m s b) s b then Gx n 4 s [] b l (CO m s b) true else Gx n 4 s [] b l (CO m s b) false) R→Ev (fun n=>Rk n (4:Int) s [] b m l) R:=fun h=>by
    refine .succ ?_
    simp only[Rk,if_true]
    refine .succ ?_
    simp only[JJ,if_true,W8,Al]
    exact h
   by_cases c:Ji m s b
   ·have c1:=hp s b c
    refine .inr ⟨CO m s b,head ?_,⟨sub,pos1,UW sub,fun t c=>?_⟩,fun t c h1 h2=>?_,here⟩
    ·simp only[if_pos (show (1:Int)<Bx (CO m s b) s b by rw[cnt1];omega)]
     exact .succ (by simp only[Gx,if_true];exact .ret)
    ·have:=cnt2 t c
     have hle:(mu K (CO m s b):Int)≤(mu K m:Int):=by exact_mod_cast UW sub
     have:0≤CC*((mu K m:Int) - (mu K (CO m s b):Int)):=Int.mul_nonneg (by decide) (by omega)
     rw[pw1]
     omega
    ·rw[hinc]at h1
     rcases D9.1 h1 with h | h
     ·cases h;exact absurd c h2
     ·exact absurd h h2
   ·have hlt:mu K (CO m s b)<mu K m:=Yl sub hs c here
    have c0:Bx m s b=0:=L3 c
    have hlen:=(hI s).1
    have f40:((BX its s).length:Int)*2 ^ 40≤CC:=by
     have:CC=6*2 ^ 40:=rfl
     rw[this]
     have:((BX its s).length:Int)≤6:=by omega
     exact Int.mul_le_mul_of_nonneg_right this (by decide)
    have emu:CC*(mu K m:Int)=CC*((mu K m:Int) - (mu K (CO m s b):Int))+CC*(mu K (CO m s b):Int):=by
     rw[←Int.mul_add];congr 1;omega
    have ge1:CC≤CC*((mu K m:Int) - (mu K (CO m s b):Int)):=by
     have:CC*1≤CC*((mu K m:Int) - (mu K (CO m s b):Int)):=Int.mul_le_mul_of_nonneg_left (by omega) (by decide)
     omega
    have hR1:Room K (((BX its s).length - 0:Nat)*2 ^ 40) (CO m s b):=fun t c=>by
     have h1:=hR t c
     have h2:=cnt2 t c
     rw[pw1]at h1
     simp only[Nat.sub_zero]
     omega
    obtain⟨b62,e62⟩:=h62 s
    have hl:((BX its s).map fd).length=(BX its s).length:=by simp
    have tail:∀{R:Bool×List Az×List D},Ev (fun n=>bS (Dz n 4 s [] b l ((BX its s).map fd) (((BX its s).map fd).length:Int) ((0:Nat):Int) (CO m s b) l false) (fun p33=>bO7 (some p33) fun cm18 l19 z20 s21 l22 b23 l24=>Da n cm18 l19 true) (fun p34=>bO8 (some p34) fun cm25 l26 b27 z28 s29 l30 b31 l32=>Da n cm25 l26 b27)) R→Ev (fun n=>Rk n (4:Int) s [] b m l) R:=fun {R} h=>by
     refine head ?_
     simp only[if_neg (show ¬(1:Int)<Bx (CO m s b) s b by rw[cnt1];omega)]
     refine .succ ?_
     simp only[Gx,Bool.false_eq_true,if_false]
     refine .succ ?_
     simp only[JK]
     refine Ev.bO1 (.of fun n=>UT (.named s) b n) ?_
     simp only[hw,Bool.false_eq_true,if_false]
     refine Ev.bO5 XX ?_
     obtain⟨N,hN⟩:=h
     obtain⟨N2,hN2⟩:=e62
     refine⟨N+N2+2,fun n hn=>?_⟩
     obtain⟨k,rfl⟩:∃k,n=k+2:=⟨n - 2,by omega⟩
     have e1:UL (k+2) (CO m s b) l false 4 s [] b l=Dz k 4 s [] b l ((BX its s).map fd) (((BX its s).map fd).length:Int) ((0:Nat):Int) (CO m s b) l false:=by
      show (if (4:Int)=(4:Int)then Fv (k+1) (CO m s b) l false 4 s [] b l true else Fv (k+1) (CO m s b) l false 4 s [] b l false)=_
      rw[if_pos rfl]
      simp only[Fv,if_true,hN2 k (by omega),bO2,Ad]
      rfl
     show bS (UL (k+2) (CO m s b) l false 4 s [] b l) _ _=some R
     rw[e1]
     have e2:=hN k (by omega)
     simp only[]at e2
     cases hL:Dz k 4 s [] b l ((BX its s).map fd) (((BX its s).map fd).length:Int) ((0:Nat):Int) (CO m s b) l false with
     | none=>rw[hL]at e2;cases e2
     | some q=>
      rw[hL]at e2
      cases q with
      | inl p=>
       obtain⟨p1,p2,p3,p4,p5,p6,p7⟩:=p
       cases k with
       | zero=>cases e2
       | succ k=>exact e2
      | inr p=>
       obtain⟨p1,p2,p3,p4,p5,p6,p7,p8⟩:=p
       cases k with
       | zero=>cases e2
       | succ k=>exact e2
    have e4:∀(cm:List Az) (c:Bool),Ev (fun n=>Da n cm l c) (c,cm,l):=fun cm c=>.succ (by simp only[Da];exact .ret)
    rcases Pr hI (M:=mu K (CO m s b)) (fun f hf m1 g1 g2 g3=>ihM (mu K (CO m s b)) (by omega) f.2 b m1 ((hI s).2 f hf).1 (hK s f hf) g1 g2 g3) 0 (Nat.zero_le _) (CO m s b) (Nat.le_refl _) pos1 hR1 with⟨m2,g1,f,hf,g2⟩ | ⟨m2,g1,g2,g3,g4⟩
    ·exact .inl ⟨m2,tail (Ev.Y5 g1 (by simp only[bO7];exact e4 _ _)),.named hf g2⟩
    ·refine .inr ⟨m2,tail (Ev.Vx g1 (by simp only[bO8];exact e4 _ _)),⟨fun t c h=>g2.sub t c (sub t c h),g2.pos,Nat.le_trans g2.mle (UW sub),fun t c=>?_⟩,fun t c h1 h2 f hf=>?_,g2.sub s b here⟩
     ·have h1:=g2.cnt t c
      have h2:=cnt2 t c
      simp only[Nat.sub_zero]at h1
      have e:CC*((mu K m:Int) - (mu K m2:Int))=CC*((mu K m:Int) - (mu K (CO m s b):Int))+CC*((mu K (CO m s b):Int) - (mu K m2:Int)):=by
       rw[←Int.mul_add];congr 1;omega
      rw[pw1]
      omega
     ·by_cases c1:Ji (CO m s b) t c
      ·have:(t,c)=(s,b):=by
        rw[hinc]at c1
        rcases D9.1 c1 with h | h
        ·exact h
        ·exact absurd h h2
       cases this
       exact g4 f (by simpa using hf)
      ·exact g3 t c h1 c1 f hf
  | leaf k=>
   intro b m hok _ hM hp hR
   have hok:k≠4:=hok
   cases hn:never (.leaf k) b with
   | true=>
    refine .inl ⟨m,Ku hok ?_,.never hn⟩
    refine Ev.bO1 (.of fun n=>UT (.leaf k) b n) ?_
    simp only[hn,if_true]
    exact .ret
   | false=>
    refine .inr ⟨m,Ku hok ?_,Fr.refl hp (by have:=UX (.leaf k);omega),UU.refl,hn⟩
    refine Ev.bO1 (.of fun n=>UT (.leaf k) b n) ?_
    simp only[hn,Bool.false_eq_true,if_false]
    refine Ev.bO5 XX ?_
    have e61:Ev (fun n=>UL n m l false k ByteArray.empty ([]:List D) b l) (.inr (m,l,false,k,ByteArray.empty,[],b,l)):=by
     refine .succ ?_
     simp only[UL,if_neg hok]
     refine .succ ?_
     simp only[Fv,Bool.false_eq_true,if_false,Ad]
     refine .succ ?_
     simp only[Hi,List.length_nil,if_neg (show ¬(0:Int)<((0:Nat):Int)by decide)]
     exact .succ (by simp only[Hj,Bool.false_eq_true,if_false];exact .ret)
    refine Ev.Vx e61 ?_
    simp only[bO8]
    exact .succ (by simp only[Da];exact .ret)
  | wrap k t iht=>
   intro b m hok hs hM hp hR
   obtain⟨hk4,hok⟩:=hok
   have hs:t.has K:=hs
   have pw2:pw (.wrap k t)=pw t+pw t:=by unfold pw;simp only[W.dep,Int.pow_succ];omega
   have pt:=UX t
   cases hn:never (.wrap k t) b with
   | true=>
    refine .inl ⟨m,Ku hk4 ?_,.never hn⟩
    refine Ev.bO1 (.of fun n=>UT (.wrap k t) b n) ?_
    simp only[hn,if_true]
    exact .ret
   | false=>
    have e4:∀(cm:List Az) (c:Bool),Ev (fun n=>Da n cm l c) (c,cm,l):=fun cm c=>.succ (by simp only[Da];exact .ret)
    have run:∀{R},Ev (fun n=>UL n m l false k ByteArray.empty [t.d] b l) R→∀{R'},Ev (fun n=>match R with | .inl p33=>bO7 (some p33) fun cm18 l19 z20 s21 l22 b23 l24=>Da n cm18 l19 true | .inr p34=>bO8 (some p34) fun cm25 l26 b27 z28 s29 l30 b31 l32=>Da n cm25 l26 b27) R'→Ev (fun n=>Rk n k ByteArray.empty [t.d] b m l) R':=fun {R} h1 {R'} h2=>by
     refine Ku hk4 ?_
     refine Ev.bO1 (.of fun n=>UT (.wrap k t) b n) ?_
     simp only[hn,Bool.false_eq_true,if_false]
     refine Ev.bO5 XX ?_
     cases R with
     | inl p=>exact Ev.Y5 h1 h2
     | inr p=>exact Ev.Vx h1 h2
    have gx:∀{γ:Type} (q:D→Option γ),BT [t.d] 0 q=q t.d:=fun q=>Ct (by omega) rfl
    have last:∀cm:List Az,Ev (fun n=>Fb n k ByteArray.empty [t.d] b l ((([t.d]:List D).length:Nat):Int) 0 cm l false) (.inr (cm,l,false,k,ByteArray.empty,[t.d],b,l)):=fun cm=>by
     refine .succ ?_
     simp only[Fb,Al,show IntKind.i64.wrap (0+1)=1 by decide]
     refine .succ ?_
     simp only[Hi,List.length_singleton,if_neg (show ¬(1:Int)<((1:Nat):Int)by decide)]
     exact .succ (by simp only[Hj,Bool.false_eq_true,if_false];exact .ret)
    have e61:∀{R},Ev (fun n=>DF n k ByteArray.empty [t.d] b l ((([t.d]:List D).length:Nat):Int) 0 m l false t.k t.nm t.args (both k b).1 (both k b).2) R→Ev (fun n=>UL n m l false k ByteArray.empty [t.d] b l) R:=fun h=>by
     refine .succ ?_
     simp only[UL,if_neg hk4]
     refine .succ ?_
     simp only[Fv,Bool.false_eq_true,if_false,Ad]
     refine .succ ?_
     simp only[Hi,List.length_singleton,if_pos (show (0:Int)<((1:Nat):Int)by decide)]
     refine .succ ?_
     simp only[Hj,if_true,gx]
     have:=Vj h
     simp only[W.Sg,Cl]
     simp only[W.Sg,List.length_singleton]at this
     exact this
    rcases round (iht (both k b).1 m hok hs hM hp (hR.le (by omega))) false with⟨m1,g1,g2⟩ | ⟨m1,g1,g2,g3,g4⟩
    ·refine .inl ⟨m1,run (e61 (R:=.inl (m1,l,k,ByteArray.empty,[t.d],b,l)) (.succ ?_)) (by simp only[bO7];exact e4 _ _),.w1 g2⟩
     simp only[DF]
     exact Ev.Y5 g1 (by simp only[bO2];exact .ret)
    ·cases hb:(!((both k b).1==(both k b).2))with
     | false=>
      have hb':(both k b).2=(both k b).1:=by
       revert hb
       cases (both k b).1<;>cases (both k b).2<;>simp
      refine .inr ⟨m1,run (e61 (R:=.inr (m1,l,false,k,ByteArray.empty,[t.d],b,l)) (.succ ?_)) (by simp only[bO8];exact e4 _ _),⟨g2.sub,g2.pos,g2.mle,fun s c=>by have:=g2.cnt s c;omega⟩,g3,hn,g4,by rw[hb'];exact g4⟩
      simp only[DF]
      refine Ev.Vx g1 ?_
      simp only[bO3,Ak,hb,Bool.false_eq_true,if_false]
      exact last m1
     | true=>
      have hR2:Room K (pw t) m1:=Room.after (by rw[←pw2];exact hR) g2
      rcases round (iht (both k b).2 m1 hok hs (Nat.le_trans g2.mle hM) g2.pos hR2) false with⟨m2,q1,q2⟩ | ⟨m2,q1,q2,q3,q4⟩
      ·refine .inl ⟨m2,run (e61 (R:=.inl (m2,l,k,ByteArray.empty,[t.d],b,l)) (.succ ?_)) (by simp only[bO7];exact e4 _ _),.w2 q2⟩
       simp only[DF]
       refine Ev.Vx g1 ?_
       simp only[bO3,Ak,hb,if_true]
       exact Ev.Y5 q1 (by simp only[bO2];exact .ret)
      ·refine .inr ⟨m2,run (e61 (R:=.inr (m2,l,false,k,ByteArray.empty,[t.d],b,l)) (.succ ?_)) (by simp only[bO8];exact e4 _ _),by rw[pw2];exact g2.trans q2,g3.trans q2.sub q3,hn,Nb.mono q2.sub g4,q4⟩
       simp only[DF]
       refine Ev.Vx g1 ?_
       simp only[bO3,Ak,hb,if_true]
       refine Ev.Vx q1 ?_
       simp only[bO3]
       exact last m2
end
end Go.Proofs.YtmggjbjpklecgaaGreatDoor
end
set_option maxRecDepth 100000
set_option maxHeartbeats 40000000
set_option linter.unusedVariables false
noncomputable section
namespace Go.Proofs.YtmggjbjpklecgaaGreatDoor
open Go Go.AM
def UY (n:Nat) (l1:LD) (z2:Int) (s3:BA) (l4:LD):Option (Bool):=
 bO1 (Vg n l1 z2 s3 l4 true) fun b5=>some b5
theorem Ym (n:Nat):∀⦃l1 z2 s3 l4 r1⦄,UY n l1 z2 s3 l4=some r1->
    AW Tryz.prog inv 10 [.d (.agg [.list true 16 l1]),.d (.agg [.int .u8 z2,.str s3,.list true 3 l4])] [] (.v (.d (.bool r1))) [] []:=by
 intro l1 z2 s3 l4 r1 h
 unfold UY at h
 refine AW.of Ab AO Bp Tryz.func10 rfl (by kernel_rfl) rfl rfl rfl (fun M hM hI=>?_)
 try cbv
 refine AB ?_
 try cbv
 refine AB ?_
 try cbv
 replace h:=AG h
 obtain⟨b5,hr,h⟩:=h
 refine AD rfl rfl ?_
 try cbv
 refine AE hM hI (bK _ hr) rfl ?_
 clear hr
 try cbv
 obtain rfl:=Option.some.inj h
 refine AF ?_
 try cbv
 exact⟨[],by trivial⟩
end Go.Proofs.YtmggjbjpklecgaaGreatDoor
end
set_option linter.unusedVariables false
noncomputable section
namespace Go.Proofs.YtmggjbjpklecgaaGreatDoor
open Go Go.AM
def W.key:W→List ByteArray
 | .named s=>[s]
 | .leaf _=>[]
 | .wrap _ t=>t.key
theorem OX {K:List ByteArray}:∀{w:W},(∀s∈w.key,s∈K)→w.has K
 | .named s,h=>h s (by simp[W.key])
 | .leaf k,_=>trivial
 | .wrap k t,h=>OX (w:=t) h
theorem OY:∀w:W,w.key.length≤1
 | .named s=>by simp[W.key]
 | .leaf k=>by simp[W.key]
 | .wrap k t=>OY t
def OZ (its:List It):List ByteArray:=its.flatMap fun it=>it.fs.flatMap fun f=>f.2.key
theorem Ja {α β:Type}{g:α→List β}{c:Nat}:∀{l:List α},(∀x∈l,(g x).length≤c)→(l.flatMap g).length≤l.length*c
 | [],_=>by simp
 | x::l,h=>by
  have ih:=Ja (l:=l) fun y hy=>h y (by simp[hy])
  have:=h x (by simp)
  simp only[List.flatMap_cons,List.length_append,List.length_cons,Nat.add_mul,Nat.one_mul]
  omega
structure P1 (l:List D) (its:List It):Prop where
 len:l.length≤30
 its:OU l its
theorem P1.max {l:List D}{its:List It}(h:P1 l its):l.length≤maxLen:=by
 have:=h.len
 have hm:maxLen=9223372036854775807:=rfl
 omega
theorem P1.row {l:List D}{its:List It}(h:P1 l its) {it:It}(hm:it∈its):∃x,Xl x it:=by
 obtain⟨j,hj⟩:=List.getElem?_of_mem hm
 have hlt:j<l.length:=by rw[←h.its.1];exact (List.getElem?_eq_some_iff.1 hj).1
 obtain⟨x,hx⟩:=Qr hlt
 exact⟨x,h.its.2 j x it hx hj⟩
theorem Vk {its:List It}{s:ByteArray}{f:ByteArray×W}(h:f∈BX its s):∃it∈its,f∈it.fs:=by
 unfold BX at h
 split at h
 ·cases h
 ·split at h
  ·cases h
  ·rename_i it hit
   exact⟨it,List.mem_of_getElem? hit,h⟩
theorem SX {l:List D}{its:List It}(h:P1 l its):(OZ its).length≤180:=by
 have h1:(OZ its).length≤its.length*6:=Ja fun it hm=>by
  obtain⟨x,r⟩:=h.row hm
  have:=Ja (g:=fun f:ByteArray×W=>f.2.key) (c:=1) (l:=it.fs) fun f _=>OY f.2
  have:=r.few
  omega
 have h2:=h.its.1
 have h3:=h.len
 omega
theorem Yn {l:List D}{its:List It}(h:P1 l its) {w:W}(hok:w.ok) (hdep:w.dep<40) (hT:Ev (fun n=>Si n w.k w.nm w.args) true) (b:Bool):∃r,Ev (fun n=>Vg n l w.k w.nm w.args b) r∧(r=true↔¬G3 its w b):=by
 let K:=w.key++OZ its
 have hI:=Vi h.max h.its
 have hK:∀s,∀f∈BX its s,f.2.has K:=fun s f hf=>OX fun t ht=>by
  obtain⟨it,h1,h2⟩:=Vk hf
  exact List.mem_append_right _ (List.mem_flatMap.2 ⟨it,h1,List.mem_flatMap.2 ⟨f,h2,ht⟩⟩)
 have hw:w.has K:=OX fun t ht=>List.mem_append_left _ ht
 have room:Room K (pw w) []:=fun s c=>by
  have h1:=WY hdep
  have h2:(mu K []:Int)≤362:=by
   have e1:mu K []≤(kk K).length:=List.length_filter_le ..
   have e2:(kk K).length≤K.length*2:=Ja fun s _=>by simp
   have e3:K.length=w.key.length+(OZ its).length:=List.length_append
   have:=OY w
   have:=SX h
   omega
  have h3:CC*(mu K []:Int)≤CC*362:=Int.mul_le_mul_of_nonneg_left h2 (by decide)
  have h4:(2:Int) ^ 40+CC*362≤MM:=by decide
  show 0+pw w+CC*(mu K []:Int)≤MM
  omega
 have pos0:Pos []:=fun s b hb=>by simp[Ji,Hv]at hb
 have go:∀{r:Bool} {m:List Az},Ev (fun n=>Rk n w.k w.nm w.args b [] l) (r,m,l)→Ev (fun n=>Vg n l w.k w.nm w.args b) (!r):=fun h=>by
  unfold Vg
  refine Ev.bO1 hT ?_
  simp only[if_true]
  refine Ev.bO3 h ?_
  simp only[Ak]
  exact .ret
 rcases told hI hK (fun s=>Z2 h.max h.its s) (mu K []) w b [] hok hw (Nat.le_refl _) pos0 room with⟨m,e1,e2⟩ | ⟨m,e1,e2,e3,e4⟩
 ·exact⟨_,go e1,by simp[e2]⟩
 ·refine⟨_,go e1,?_⟩
  have:¬G3 its w b:=fun hr=>Qt (fun s c hc f hf=>e3 s c hc (by simp[Ji,Hv]) f hf) hr e4
  simp[this]
theorem Jb {l:List D}{its:List It}(h:P1 l its) {w:W}(hok:w.ok) (hdep:w.dep<40) (hT:Ev (fun n=>Si n w.k w.nm w.args) true):∃r,Ev (fun n=>F9 n l w.k w.nm w.args) r∧(r=true↔¬G3 its w false):=by
 obtain⟨r,h1,h2⟩:=Yn h hok hdep hT false
 exact⟨r,Ev.bO1 h1 .ret,h2⟩
theorem Kv {l:List D}{its:List It}(h:P1 l its) {w:W}(hok:w.ok) (hdep:w.dep<40) (hT:Ev (fun n=>Si n w.k w.nm w.args) true):∃r,Ev (fun n=>UY n l w.k w.nm w.args) r∧(r=true↔¬G3 its w true):=by
 obtain⟨r,h1,h2⟩:=Yn h hok hdep hT true
 exact⟨r,Ev.bO1 h1 .ret,h2⟩
theorem Vl {l:List D}{its:List It}(h:P1 l its) {s:ByteArray}(hs:s.size≤maxLen):∃r,Ev (fun n=>F9 n l 4 s []) r∧(nm 65 90 s=true→(r=true↔¬G3 its (.named s) false)):=by
 cases hn:nm 65 90 s with
 | true=>
  have hT:=JZ hs
  rw[hn]at hT
  obtain⟨r,h1,h2⟩:=Jb h (w:=.named s) trivial (by simp[W.dep]) hT
  exact⟨r,h1,fun _=>h2⟩
 | false=>
  have hT:=JZ hs
  rw[hn]at hT
  refine⟨false,?_,fun h=>by cases h⟩
  unfold F9
  refine Ev.bO1 ?_ .ret
  unfold Vg
  refine Ev.bO1 hT ?_
  simp only[Bool.false_eq_true,if_false]
  exact .ret
theorem UZ {l:List D}{its:List It}(h:P1 l its) {s:ByteArray}(hs:s.size≤maxLen):∃r,Ev (fun n=>UY n l 4 s []) r∧(nm 65 90 s=true→(r=true↔¬G3 its (.named s) true)):=by
 cases hn:nm 65 90 s with
 | true=>
  have hT:=JZ hs
  rw[hn]at hT
  obtain⟨r,h1,h2⟩:=Kv h (w:=.named s) trivial (by simp[W.dep]) hT
  exact⟨r,h1,fun _=>h2⟩
 | false=>
  have hT:=JZ hs
  rw[hn]at hT
  refine⟨false,?_,fun h=>by cases h⟩
  unfold UY
  refine Ev.bO1 ?_ .ret
  unfold Vg
  refine Ev.bO1 hT ?_
  simp only[Bool.false_eq_true,if_false]
  exact .ret
def Ei (its:List It) (S Y:List Bool):W→Bool→Bool
 | .named s,b=>match G2 its s with
  | none=>true
  | some j=>if b then Y.getD j false else S.getD j false
 | .leaf k,b=>if k=7 then false else if k=6 then !b else true
 | .wrap k t,b=>if k=7 then false else if k=6 then (!b&&Ei its S Y t false)else if k=8 then (Ei its S Y t false&&Ei its S Y t true)else if k=9∨k=11∨k=12 then Ei its S Y t false else if k=13 then Ei its S Y t true else Ei its S Y t b
theorem Oa {l:List D}{its:List It}(h:P1 l its) {S Y:List Bool}(hS:S.length=l.length) (hY:Y.length=l.length):∀(w:W) (b:Bool),w.ok→
  Ev (fun n=>Ly n w.k w.nm w.args b l (S.map D.bool) (Y.map D.bool)) (Ei its S Y w b,l,S.map D.bool,Y.map D.bool)
 | .named s,b,_=>by
  refine .succ ?_
  simp only[W.k,Ly,if_true]
  refine .succ ?_
  simp only[Hs,if_true]
  refine Ev.bO4 (XT h.max h.its s _ _) ?_
  cases hf:G2 its s with
  | none=>
   rw[J2 hf]
   simp only[if_pos (show (-1:Int)<0 by decide),Ei,hf]
   exact .succ (by simp only[JO,if_true];exact .ret)
  | some j=>
   obtain⟨it,hit,hk,hnm,hj⟩:=D8 hf
   have hlt:j<l.length:=by rw[←h.its.1];exact (List.getElem?_eq_some_iff.1 hit).1
   rw[hj]
   simp only[if_neg (show ¬(j:Int)<0 by omega),Ei,hf]
   have gN:∀{L:List Bool} {k:D→Option (Bool×List D×List D×List D)},L.length=l.length→KT (L.map D.bool) ((j:Int).toNat) k=k (.bool (L.getD j false)):=fun {L} {k} hL=>by
    have hj':j<L.length:=by omega
    unfold KT
    rw[Int.toNat_natCast,List.getElem?_map,List.getD_eq_getElem?_getD,List.getElem?_eq_getElem hj']
    rfl
   refine .succ ?_
   simp only[JO,Bool.false_eq_true,if_false]
   cases b with
   | true=>
    simp only[if_true,gN hY,CE]
    refine .of fun n=>?_
    unfold FB
    rw[if_pos ⟨by omega,by simp;omega⟩]
   | false=>
    simp only[Bool.false_eq_true,if_false,gN hS,CE]
    refine .of fun n=>?_
    unfold FB
    rw[if_pos ⟨by omega,by simp;omega⟩]
 | .leaf k,b,hok=>by
  have hok:k≠4:=hok
  refine .succ ?_
  show Ev (fun n=>Ly (n+1) k ByteArray.empty [] b l (S.map D.bool) (Y.map D.bool)) _
  simp only[Ly,if_neg hok]
  refine .succ ?_
  simp only[Hs,Bool.false_eq_true,if_false,Ad,List.length_nil,if_pos (show ((0:Nat):Int)=0 by rfl)]
  refine .succ ?_
  simp only[JP,if_true,Ei,Ak]
  by_cases c7:k=7
  ·simp only[if_pos c7];exact .ret
  ·by_cases c6:k=6
   ·simp only[if_neg c7,if_pos c6];exact .ret
   ·simp only[if_neg c7,if_neg c6];exact .ret
 | .wrap k t,b,hok=>by
  obtain⟨hk4,hok⟩:=hok
  have rcc:=fun c=>Oa h hS hY t c hok
  have gx:∀{γ:Type} (q:D→Option γ),BT [t.d] 0 q=q t.d:=fun q=>Ct (by omega) rfl
  refine .succ ?_
  show Ev (fun n=>Ly (n+1) k ByteArray.empty [t.d] b l (S.map D.bool) (Y.map D.bool)) _
  simp only[Ly,if_neg hk4]
  refine .succ ?_
  simp only[Hs,Bool.false_eq_true,if_false,Ad,List.length_singleton,if_neg (show ¬((1:Nat):Int)=0 by decide)]
  refine .succ ?_
  simp only[JP,Bool.false_eq_true,if_false,gx]
  rw[W.Sg]
  simp only[Cl,Ei]
  by_cases c7:k=7
  ·simp only[if_pos c7]
   exact .succ (by simp only[JQ,if_true];exact .ret)
  simp only[if_neg c7]
  refine .succ ?_
  simp only[JQ,Bool.false_eq_true,if_false]
  by_cases c6:k=6
  ·simp only[if_pos c6]
   refine .succ ?_
   simp only[JR,if_true,Ak]
   cases b with
   | true=>simp only[Bool.not_true,Bool.false_eq_true,if_false,Bool.false_and];exact .ret
   | false=>simp only[Bool.not_false,if_true,Bool.true_and];exact Ev.bO4 (rcc false) .ret
  simp only[if_neg c6]
  refine .succ ?_
  simp only[JR,Bool.false_eq_true,if_false]
  by_cases c8:k=8
  ·simp only[if_pos c8]
   refine .succ ?_
   simp only[JS,if_true]
   refine Ev.bO4 (rcc false) ?_
   cases Ei its S Y t false with
   | true=>simp only[if_true,Bool.true_and];exact Ev.bO4 (rcc true) .ret
   | false=>simp only[Bool.false_eq_true,if_false,Bool.false_and];exact .ret
  simp only[if_neg c8]
  refine .succ ?_
  simp only[JS,Bool.false_eq_true,if_false]
  have nine:(k=9∨k=11∨k=12)→Ev (fun n=>Fy n k b l (S.map D.bool) (Y.map D.bool) t.k t.nm t.args true) (Ei its S Y t false,l,S.map D.bool,Y.map D.bool):=fun _=>.succ (by simp only[Fy,if_true];exact Ev.bO4 (rcc false) .ret)
  by_cases c9:k=9
  ·simp only[if_pos c9,if_pos (show k=9∨k=11∨k=12 from .inl c9)]
   exact .succ (by simp only[JT,if_true];exact nine (.inl c9))
  simp only[if_neg c9]
  refine .succ ?_
  simp only[JT,Bool.false_eq_true,if_false]
  by_cases c11:k=11
  ·simp only[if_pos c11,if_pos (show k=9∨k=11∨k=12 from .inr (.inl c11))]
   exact .succ (by simp only[JU,if_true];exact nine (.inr (.inl c11)))
  simp only[if_neg c11]
  refine .succ ?_
  simp only[JU,Bool.false_eq_true,if_false]
  by_cases c12:k=12
  ·simp only[if_pos c12,if_pos (show k=9∨k=11∨k=12 from .inr (.inr c12))]
   exact nine (.inr (.inr c12))
  have cn:¬(k=9∨k=11∨k=12):=by rintro (c | c | c)<;>contradiction
  simp only[if_neg c12,if_neg cn]
  refine .succ ?_
  simp only[Fy,Bool.false_eq_true,if_false]
  by_cases c13:k=13
  ·simp only[if_pos c13]
   exact .succ (by simp only[Fc,if_true];exact Ev.bO4 (rcc true) .ret)
  ·simp only[if_neg c13]
   exact .succ (by simp only[Fc,Bool.false_eq_true,if_false];exact Ev.bO4 (rcc b) .ret)
def okF (its:List It) (S Y:List Bool) (i:Nat) (f:ByteArray×W):Prop:=(S.getD i false=true→Ei its S Y f.2 false=true)∧(Y.getD i false=true→Ei its S Y f.2 true=true)
def Ua (its:List It) (S Y:List Bool):Prop:=∀(i:Nat) it,its[i]?=some it→it.k≠3→G2 its it.nm=some i→∀f∈it.fs,okF its S Y i f
theorem Ps {its:List It}{s:ByteArray}{i:Nat}:C7 its s 0=(i:Int)↔G2 its s=some i:=by
 cases h:G2 its s with
 | none=>
      rw[J2 h];constructor
      ·intro e;omega
      ·intro e;cases e
 | some j=>
  obtain⟨_,_,_,_,e⟩:=D8 h
  rw[e]
  constructor
  ·intro e;congr 1;omega
  ·intro e;cases e;rfl
theorem Pt {l:List D}{its:List It}(h:P1 l its) {S Y:List Bool}(hS:S.length=l.length) (hY:Y.length=l.length):∃r,Ev (fun n=>Xk n l (S.map D.bool) (Y.map D.bool)) (r,l,S.map D.bool,Y.map D.bool)∧(r=true↔Ua its S Y):=by
 have hm:maxLen=9223372036854775807:=rfl
 have inner:∀(i:Nat) (it:It),i<l.length→it∈its→∀(X:Bool×List D×List D×List D),Ev (fun n=>Ht n (i:Int) l (S.map D.bool) (Y.map D.bool)) X→∀j:Nat,j≤(it.fs.map fd).length→
   ∃R,Ev (fun n=>Gz n (i:Int) (it.fs.map fd) (j:Int) l (S.map D.bool) (Y.map D.bool)) R∧((R=X∧∀f∈it.fs.drop j,okF its S Y i f)∨(R=(false,l,S.map D.bool,Y.map D.bool)∧∃f∈it.fs,¬okF its S Y i f)):=by
  intro i it hi hit X hX
  obtain⟨x,r⟩:=h.row hit
  have hl:(it.fs.map fd).length=it.fs.length:=by simp
  have h6:=r.few
  refine down (it.fs.map fd).length ?_ ?_
  ·refine⟨X,.succ ?_,.inl ⟨rfl,by rw[hl];simp⟩⟩
   simp only[Gz,Ad,Int.lt_irrefl,if_false]
   exact .succ (by simp only[JW,Bool.false_eq_true,if_false];exact hX)
  ·rintro j hj ⟨R,ih1,ih2⟩
   have hj':j<it.fs.length:=by omega
   have hx:(it.fs.map fd)[j]?=some (fd it.fs[j]):=by simp[hj']
   have hfok:=(r.fok it.fs[j] (List.getElem_mem hj')).1
   have t6:∀b,Ev (fun n=>Eh n (i:Int) (it.fs.map fd) (j:Int) b l (S.map D.bool) (Y.map D.bool)) (if b=true then (false,l,S.map D.bool,Y.map D.bool)else R):=fun b=>by
    refine .succ ?_
    simp only[Eh,Al,BB hj (show (it.fs.map fd).length≤maxLen by omega)]
    cases b with
    | true=>simp only[if_true];exact .ret
    | false=>simp only[Bool.false_eq_true,if_false];exact ih1
   have gN:∀{L:List Bool} {k:D→Option (Bool×List D×List D×List D)},L.length=l.length→KT (L.map D.bool) ((i:Int).toNat) k=k (.bool (L.getD i false)):=fun {L} {k} hL=>by
    have hi':i<L.length:=by omega
    unfold KT
    rw[Int.toNat_natCast,List.getElem?_map,List.getD_eq_getElem?_getD,List.getElem?_eq_getElem hi']
    rfl
   have nd:∀{L:List Bool} {A:Nat→Option (Bool×List D×List D×List D)} {q},L.length=l.length→Ev A q→Ev (fun n=>FB (0≤(i:Int)∧(i:Int).toNat<(L.map D.bool).length) (A n)) q:=fun {L} {A} {q} hL hA=>by
    obtain⟨N,hN⟩:=hA
    refine⟨N,fun n hn=>?_⟩
    show FB _ (A n)=_
    unfold FB
    rw[if_pos ⟨by omega,by simp;omega⟩]
    exact hN n hn
   have e12:=fun c=>Oa h hS hY it.fs[j].2 c hfok
   -- the second half: is it Sync?
   have half2:Ev (fun n=>FB (0≤(i:Int)∧(i:Int).toNat<(Y.map D.bool).length) (KT (Y.map D.bool) ((i:Int).toNat) fun x53=>CE x53 fun b54=>(if b54=true then BT (it.fs.map fd) (j:Int) fun x55=>B5 x55 fun s56 z57 s58 l59=>bO4 (Ly n z57 s58 l59 true l (S.map D.bool) (Y.map D.bool)) fun b60 l61 l62 l63=>Ak (!b60) fun b64=>Eh n (i:Int) (it.fs.map fd) (j:Int) b64 l61 l62 l63 else Eh n (i:Int) (it.fs.map fd) (j:Int) false l (S.map D.bool) (Y.map D.bool))))
     (if (Y.getD i false&&!Ei its S Y it.fs[j].2 true)=true then (false,l,S.map D.bool,Y.map D.bool)else R):=by
    refine nd hY ?_
    simp only[gN hY,CE]
    cases Y.getD i false with
    | true=>
     simp only[if_true,A0 hx,fd,B5,Bool.true_and]
     refine Ev.bO4 (e12 true) ?_
     simp only[Ak]
     exact t6 _
    | false=>simp only[Bool.false_eq_true,if_false,Bool.false_and];exact t6 false
   have both':Ev (fun n=>Gz n (i:Int) (it.fs.map fd) (j:Int) l (S.map D.bool) (Y.map D.bool)) (if (S.getD i false&&!Ei its S Y it.fs[j].2 false)=true then (false,l,S.map D.bool,Y.map D.bool)else if (Y.getD i false&&!Ei its S Y it.fs[j].2 true)=true then (false,l,S.map D.bool,Y.map D.bool)else R):=by
    refine .succ ?_
    simp only[Gz,Ad,if_pos (G0 hj)]
    refine .succ ?_
    simp only[JW,if_true]
    refine nd hS ?_
    simp only[gN hS,CE]
    cases S.getD i false with
    | true=>
     simp only[if_true,A0 hx,fd,B5,Bool.true_and]
     refine Ev.bO4 (e12 false) ?_
     simp only[Ak]
     cases Ei its S Y it.fs[j].2 false with
     | true=>
      simp only[Bool.not_true,Bool.false_eq_true,if_false]
      have:=half2
      simp only[A0 hx,fd,B5,Ak]at this
      exact this
     | false=>simp only[Bool.not_false,if_true];exact t6 true
    | false=>
     simp only[Bool.false_eq_true,if_false,Bool.false_and]
     exact half2
   refine⟨_,both',?_⟩
   by_cases c1:(S.getD i false&&!Ei its S Y it.fs[j].2 false)=true
   ·rw[if_pos c1]
    refine .inr ⟨rfl,it.fs[j],List.getElem_mem hj',fun ho=>?_⟩
    simp only[Bool.and_eq_true,Bool.not_eq_true']at c1
    have:=ho.1 c1.1
    rw[c1.2]at this
    cases this
   ·rw[if_neg c1]
    by_cases c2:(Y.getD i false&&!Ei its S Y it.fs[j].2 true)=true
    ·rw[if_pos c2]
     refine .inr ⟨rfl,it.fs[j],List.getElem_mem hj',fun ho=>?_⟩
     simp only[Bool.and_eq_true,Bool.not_eq_true']at c2
     have:=ho.2 c2.1
     rw[c2.2]at this
     cases this
    ·rw[if_neg c2]
     rcases ih2 with⟨g1,g2⟩ | g
     ·refine .inl ⟨g1,fun f hf=>?_⟩
      rw[List.drop_eq_getElem_cons hj']at hf
      rcases List.mem_cons.1 hf with rfl | hf
      ·simp only[Bool.and_eq_true,Bool.not_eq_true',not_and,Bool.not_eq_false]at c1 c2
       exact⟨c1,c2⟩
      ·exact g2 f hf
     ·exact .inr g
 have loop:∀i:Nat,i≤l.length→∃r,Ev (fun n=>Fz n (i:Int) l (S.map D.bool) (Y.map D.bool)) (r,l,S.map D.bool,Y.map D.bool)∧(r=true↔∀(j:Nat) it,i≤j→its[j]?=some it→it.k≠3→G2 its it.nm=some j→∀f∈it.fs,okF its S Y j f):=by
  refine down l.length ?_ ?_
  ·refine⟨true,.succ ?_,by
    simp only[true_iff]
    intro j it hj hit
    have:=(List.getElem?_eq_some_iff.1 hit).1
    have:=h.its.1
    omega⟩
   simp only[Fz,Ad,Int.lt_irrefl,if_false]
   exact .succ (by simp only[JV,Bool.false_eq_true,if_false];exact .ret)
  ·rintro i hi ⟨r,ih1,ih2⟩
   obtain⟨x,hx⟩:=Qr hi
   obtain⟨it,hit,R⟩:=h.its.get hx
   have hmem:=List.mem_of_getElem? hit
   obtain⟨a2,a3,a4,a5,a6,a7,a8,a9,a10,a11,a12,a13,a14,a15,rfl,hrow⟩:=R.row
   have e7:Ev (fun n=>Ht n (i:Int) l (S.map D.bool) (Y.map D.bool)) (r,l,S.map D.bool,Y.map D.bool):=.succ (by simp only[Ht,Al,BB hi h.max];exact ih1)
   have skip:∀a2,Ev (fun n=>Eg n (i:Int) a2 true l (S.map D.bool) (Y.map D.bool)) (r,l,S.map D.bool,Y.map D.bool):=fun a2=>.succ (by simp only[Eg,if_true];exact e7)
   have head:∀{q},Ev (fun n=>if it.k=(3:Int)then Eg n (i:Int) a2 true l (S.map D.bool) (Y.map D.bool)else bO4 (XO n it.nm l (S.map D.bool) (Y.map D.bool)) fun z27 l28 l29 l30=>(if z27=(i:Int)then Eg n (i:Int) a2 false l28 l29 l30 else Eg n (i:Int) a2 true l28 l29 l30)) q→Ev (fun n=>Fz n (i:Int) l (S.map D.bool) (Y.map D.bool)) q:=fun hq=>by
    refine .succ ?_
    simp only[Fz,Ad,if_pos (G0 hi)]
    refine .succ ?_
    simp only[JV,if_true,A0 hx,Bv]
    exact hq
   have step:∀(c:¬(it.k≠3∧G2 its it.nm=some i)),(r=true↔∀(j:Nat) it,i≤j→its[j]?=some it→it.k≠3→G2 its it.nm=some j→∀f∈it.fs,okF its S Y j f):=fun c=>by
    rw[ih2]
    constructor
    ·intro g j jt hj hjt k1 k2
     by_cases e:j=i
     ·subst e
      rw[hit]at hjt
      cases hjt
      exact absurd ⟨k1,k2⟩ c
     ·exact g j jt (by omega) hjt k1 k2
    ·intro g j jt hj
     exact g j jt (by omega)
   by_cases c3:it.k=3
   ·refine⟨r,head (by simp only[if_pos c3];exact skip _),step fun e=>e.1 c3⟩
   by_cases cf:C7 its it.nm 0=(i:Int)
   rotate_left
   ·refine⟨r,head ?_,step fun e=>cf (Ps.2 e.2)⟩
    simp only[if_neg c3]
    refine Ev.bO4 (XT h.max h.its it.nm _ _) ?_
    simp only[if_neg cf]
    exact skip _
   obtain⟨rfl,_⟩:=hrow c3
   obtain⟨q,q1,q2⟩:=inner i it hi hmem _ e7 0 (Nat.zero_le _)
   have run:Ev (fun n=>Fz n (i:Int) l (S.map D.bool) (Y.map D.bool)) q:=by
    refine head ?_
    simp only[if_neg c3]
    refine Ev.bO4 (XT h.max h.its it.nm _ _) ?_
    simp only[if_pos cf]
    exact .succ (by simp only[Eg,Bool.false_eq_true,if_false];exact q1)
   have hfst:=Ps.1 cf
   rcases q2 with⟨rfl,q3⟩ | ⟨rfl,f,hf,hno⟩
   ·refine⟨r,run,?_⟩
    rw[ih2]
    constructor
    ·intro g j jt hj hjt k1 k2
     by_cases e:j=i
     ·subst e
      rw[hit]at hjt
      cases hjt
      simpa using q3
     ·exact g j jt (by omega) hjt k1 k2
    ·intro g j jt hj
     exact g j jt (by omega)
   ·refine⟨false,run,?_⟩
    simp only[Bool.false_eq_true,false_iff]
    exact fun g=>hno (g i it (Nat.le_refl _) hit c3 hfst f hf)
 obtain⟨r,h1,h2⟩:=loop 0 (Nat.zero_le _)
 refine⟨r,by unfold Xk;exact h1,?_⟩
 rw[h2]
 constructor
 ·intro g i it hit k1 k2
  exact g i it (Nat.zero_le _) hit k1 k2
 ·intro g i it _ hit k1 k2
  exact g i it hit k1 k2
end Go.Proofs.YtmggjbjpklecgaaGreatDoor
end
set_option linter.unusedVariables false
noncomputable section
namespace Go.Proofs.YtmggjbjpklecgaaGreatDoor
open Go Go.AM
theorem iw {z:Int}(h1: -9223372036854775808≤z) (h2:z≤9223372036854775807):IntKind.i64.wrap z=z:=IntWalk.i64_in _ (by omega)
inductive P2:List D→Prop where
 | mk {l:List D} (h:l.length≤4000) (hr:∀(a:Int) (s:ByteArray) (m:List D),D.agg [.int .u8 a,.str s,.list true 3 m]∈l→P2 m):P2 l
inductive Qu:List D→Prop where
 | mk {l:List D} (h:l.length≤4000) (h5:∀(a0 a1:Int) (a2 a3 a4:ByteArray) (a5 a6:List D) (a7:Int),D.agg [.int .u8 a0,.int .i64 a1,.str a2,.str a3,.str a4,.list false 1 a5,.list true 8 a6,.int .i64 a7]∈l→a5.length≤4000) (h6:∀(a0 a1:Int) (a2 a3 a4:ByteArray) (a5 a6:List D) (a7:Int),D.agg [.int .u8 a0,.int .i64 a1,.str a2,.str a3,.str a4,.list false 1 a5,.list true 8 a6,.int .i64 a7]∈l→Qu a6):Qu l
inductive SY:List D→Prop where
 | mk {l:List D} (h:l.length≤4000) (h3:∀(a0:Int) (a1 a2:ByteArray) (a3:List D) (a4:Int) (a5:ByteArray) (a6:List D) (a7:Int) (a8:ByteArray) (a9 a10 a11 a12 a13:List D) (a14:Int),D.agg [.int .u8 a0,.str a1,.str a2,.list false 1 a3,.int .u8 a4,.str a5,.list true 3 a6,.int .i64 a7,.str a8,.list false 1 a9,.list true 8 a10,.list true 15 a11,.list true 15 a12,.list true 3 a13,.int .i64 a14]∈l→a3.length≤4000∧P2 a6∧a9.length≤4000∧Qu a10∧a13.length≤4000)
   (h11:∀(a0:Int) (a1 a2:ByteArray) (a3:List D) (a4:Int) (a5:ByteArray) (a6:List D) (a7:Int) (a8:ByteArray) (a9 a10 a11 a12 a13:List D) (a14:Int),D.agg [.int .u8 a0,.str a1,.str a2,.list false 1 a3,.int .u8 a4,.str a5,.list true 3 a6,.int .i64 a7,.str a8,.list false 1 a9,.list true 8 a10,.list true 15 a11,.list true 15 a12,.list true 3 a13,.int .i64 a14]∈l→SY a11) (h12:∀(a0:Int) (a1 a2:ByteArray) (a3:List D) (a4:Int) (a5:ByteArray) (a6:List D) (a7:Int) (a8:ByteArray) (a9 a10 a11 a12 a13:List D) (a14:Int),D.agg [.int .u8 a0,.str a1,.str a2,.list false 1 a3,.int .u8 a4,.str a5,.list true 3 a6,.int .i64 a7,.str a8,.list false 1 a9,.list true 8 a10,.list true 15 a11,.list true 15 a12,.list true 3 a13,.int .i64 a14]∈l→SY a12)
   (h13:∀(a0:Int) (a1 a2:ByteArray) (a3:List D) (a4:Int) (a5:ByteArray) (a6:List D) (a7:Int) (a8:ByteArray) (a9 a10 a11 a12 a13:List D) (a14:Int),D.agg [.int .u8 a0,.str a1,.str a2,.list false 1 a3,.int .u8 a4,.str a5,.list true 3 a6,.int .i64 a7,.str a8,.list false 1 a9,.list true 8 a10,.list true 15 a11,.list true 15 a12,.list true 3 a13,.int .i64 a14]∈l→∀(t1 t2:ByteArray) (m:List D),D.agg [.str t1,.str t2,.list true 15 m]∈a13→SY m):SY l
theorem EP (s:ByteArray) (z:Int) (h1: -6≤z) (h2:z≤20000):∃r,Ev (fun n=>Og n s z) r∧ -1≤r∧r≤20000∧(0≤r→r+5≤z):=by
 have sz:∀{γ:Type} (k:Int→Option γ),Jh s k=k (s.size:Int):=fun k=>rfl
 by_cases h3:z<5
 ·exact⟨-1,.succ (.of fun n=>by unfold Og;rw[if_pos h3,Gf,if_pos rfl]),by omega,by omega,by omega⟩
 ·have e:IntKind.i64.wrap (z - 5)=z - 5:=iw (by omega) (by omega)
  by_cases h4:z - 5<(s.size:Int)
  ·exact⟨-1,.succ (.of fun n=>by unfold Og;rw[if_neg h3,sz];simp only[Al];rw[e,if_pos h4,Gf,if_pos rfl]),by omega,by omega,by omega⟩
  ·have e2:IntKind.i64.wrap (z - 5 - (s.size:Int))=z - 5 - (s.size:Int):=iw (by omega) (by omega)
   exact⟨z - 5 - (s.size:Int),.succ (.of fun n=>by unfold Og;rw[if_neg h3,sz];simp only[Al];rw[e,if_neg h4,Gf,if_neg Bool.false_ne_true];simp only[Al];rw[sz,e,e2]),by omega,by omega,by omega⟩
theorem Rp {l:List D}(h:Ao tab 9 l) (z:Int) (h1: -1≤z) (h2:z≤20000):∃r,Ev (fun n=>Xi n l z) r∧ -6≤r∧r≤20000∧(0≤r→r≤z∧l.length≤4000):=by
 have main:∀i:Nat,i≤l.length→∀z,-6≤z→z≤20000→∃r,Ev (fun n=>Fs n l (i:Int) z) r∧ -6≤r∧r≤20000∧(0≤r→r+5*((l.length:Int) - (i:Int))≤z):=by
  refine down l.length ?_ ?_
  ·intro z h1 h2
   refine⟨z,.succ (.succ (.of fun n=>?_)),by omega,by omega,by omega⟩
   rw[Fs];simp only[Ad];rw[if_neg (by omega),Gk,if_neg Bool.false_ne_true]
  ·intro i hi ih z h1 h2
   by_cases hz:(0:Int)≤z
   ·obtain⟨x,hx,_,hr⟩:=h.get hi
    obtain⟨s,rfl,_⟩:=Y8 hr
    obtain⟨z1,g1,g2,g3,g4⟩:=EP s z (by omega) h2
    obtain⟨r,k1,k2,k3,k4⟩:=ih z1 (by omega) (by omega)
    refine⟨r,.succ (.succ (Ev.congr (A:=fun n=>bO1 (Og n s z) fun z10=>Fs n l ((i+1:Nat):Int) z10) (Ev.bO1 g1 k1) fun n=>?_)),k2,k3,by omega⟩
    rw[Fs];simp only[Ad];rw[if_pos (by omega),if_pos hz,Gk,if_pos rfl,A0 hx]
    simp only[B7,Al,BB hi h.1]
   ·refine⟨z,.succ (.succ (.of fun n=>?_)),by omega,by omega,by omega⟩
    rw[Fs];simp only[Ad];rw[if_pos (by omega),if_neg hz,Gk,if_neg Bool.false_ne_true]
 obtain⟨r,h,a,b,c⟩:=main 0 (Nat.zero_le _) (z - 5) (by omega) (by omega)
 exact⟨r,h.congr fun n=>by unfold Xi;simp only[Al,iw (show -9223372036854775808≤z - 5 by omega) (by omega)];rfl,a,b,fun hr=>by have:=c hr;omega⟩
theorem Rq {l:List D}(h:Ao tab 9 l) (s:ByteArray) (z:Int) (h1: -6≤z) (h2:z≤20000):∃r,Ev (fun n=>YU n s l z) r∧ -6≤r∧r≤20000∧(0≤r→r+5≤z∧l.length≤4000):=by
 obtain⟨y,g1,g2,g3,g4⟩:=EP s z h1 h2
 obtain⟨r,k1,k2,k3,k4⟩:=Rp h y g2 g3
 exact⟨r,Ev.bO1 g1 (Ev.bO1 k1 .ret),k2,k3,fun hr=>by have:=k4 hr;omega⟩
theorem Kw (l:List D):Ao tab 28 l→∀z1 s2 z,-6≤z→z≤20000→∃r,Ev (fun n=>UC n z1 s2 l z) r∧ -6≤r∧r≤20000∧(0≤r→r+5≤z∧P2 l):=by
 refine EH (P:=fun l=>Ao tab 28 l→∀z1 s2 z,-6≤z→z≤20000→∃r,Ev (fun n=>UC n z1 s2 l z) r∧ -6≤r∧r≤20000∧(0≤r→r+5≤z∧P2 l)) (fun l ih h=>?_) l
 have loop:∀i:Nat,i≤l.length→∀z,-6≤z→z≤20000→∃r,Ev (fun n=>Fq n l (i:Int) z) r∧ -6≤r∧r≤20000∧(0≤r→r+5*((l.length:Int) - (i:Int))≤z∧∀(j:Nat) (a:Int) (s:ByteArray) (m:List D),i≤j→l[j]?=some (.agg [.int .u8 a,.str s,.list true 3 m])→P2 m):=by
  refine down l.length ?_ ?_
  ·intro z h1 h2
   refine⟨z,.succ (.succ (.of fun n=>?_)),h1,h2,fun _=>⟨by omega,fun j a s m hj hx=>absurd (List.getElem?_eq_some_iff.1 hx).1 (by omega)⟩⟩
   rw[Fq];simp only[Ad];rw[if_neg (by omega),Gg,if_neg Bool.false_ne_true]
  ·intro i hi ihl z h1 h2
   by_cases hz:(0:Int)≤z
   ·obtain⟨x,hx,hm,hr⟩:=h.get hi
    obtain⟨a,s,m,rfl,_,hs,hm'⟩:=VN hr
    obtain⟨y,g1,g2,g3,g4⟩:=ih m (CI (ag:=true) (sz:=3) hm (by simp)) hm' a s z h1 h2
    obtain⟨r,k1,k2,k3,k4⟩:=ihl y g2 g3
    refine⟨r,.succ (.succ (Ev.congr (A:=fun n=>bO1 (UC n a s m z) fun z10=>Fq n l ((i+1:Nat):Int) z10) (Ev.bO1 g1 k1) fun n=>?_)),k2,k3,fun hr0=>?_⟩
    ·rw[Fq];simp only[Ad];rw[if_pos (by omega),if_pos hz,Gg,if_pos rfl,A0 hx]
     simp only[Cl,Al,BB hi h.1]
    ·obtain⟨x1,x2⟩:=k4 hr0
     obtain⟨x3,x4⟩:=g4 (by omega)
     refine⟨by omega,fun j a' s' m' hj hx'=>?_⟩
     by_cases e:j=i
     ·subst e;rw[hx]at hx';cases hx';exact x4
     ·exact x2 j a' s' m' (by omega) hx'
   ·refine⟨z,.succ (.succ (.of fun n=>?_)),h1,h2,by omega⟩
    rw[Fq];simp only[Ad];rw[if_pos (by omega),if_neg hz,Gg,if_neg Bool.false_ne_true]
 intro z1 s2 z h1 h2
 obtain⟨y,g1,g2,g3,g4⟩:=EP s2 z h1 h2
 obtain⟨r,k1,k2,k3,k4⟩:=loop 0 (Nat.zero_le _) y (by omega) g3
 refine⟨r,.succ ((Ev.bO1 g1 k1).congr fun n=>by rw[UC];rfl),k2,k3,fun hr0=>?_⟩
 obtain⟨x1,x2⟩:=k4 hr0
 have:=g4 (by omega)
 refine⟨by omega,.mk (by omega) fun a s m hm=>?_⟩
 obtain⟨j,hj⟩:=List.getElem?_of_mem hm
 exact x2 j a s m (Nat.zero_le _) hj
theorem Pu (l:List D):Ao tab 43 l→∀z1 z2 s3 s4 s5 l6 z8 z,Ao tab 9 l6→ -6≤z→z≤20000→∃r,Ev (fun n=>Vb n z1 z2 s3 s4 s5 l6 l z8 z) r∧ -6≤r∧r≤20000∧(0≤r→r+5≤z∧l6.length≤4000∧Qu l):=by
 refine EH (P:=fun l=>Ao tab 43 l→∀z1 z2 s3 s4 s5 l6 z8 z,Ao tab 9 l6→ -6≤z→z≤20000→∃r,Ev (fun n=>Vb n z1 z2 s3 s4 s5 l6 l z8 z) r∧ -6≤r∧r≤20000∧(0≤r→r+5≤z∧l6.length≤4000∧Qu l)) (fun l ih h=>?_) l
 have loop:∀i:Nat,i≤l.length→∀z,-6≤z→z≤20000→∃r,Ev (fun n=>Ft n l (i:Int) z) r∧ -6≤r∧r≤20000∧(0≤r→r+5*((l.length:Int) - (i:Int))≤z∧∀(j:Nat) (a0 a1:Int) (a2 a3 a4:ByteArray) (a5 a6:List D) (a7:Int),i≤j→l[j]?=some (.agg [.int .u8 a0,.int .i64 a1,.str a2,.str a3,.str a4,.list false 1 a5,.list true 8 a6,.int .i64 a7])→a5.length≤4000∧Qu a6):=by
  refine down l.length ?_ ?_
  ·intro z h1 h2
   refine⟨z,.succ (.succ (.of fun n=>?_)),h1,h2,fun _=>⟨by omega,fun j _ _ _ _ _ _ _ _ hj hx=>absurd (List.getElem?_eq_some_iff.1 hx).1 (by omega)⟩⟩
   rw[Ft];simp only[Ad];rw[if_neg (by omega),Gl,if_neg Bool.false_ne_true]
  ·intro i hi ihl z h1 h2
   by_cases hz:(0:Int)≤z
   ·obtain⟨x,hx,hm,hr⟩:=h.get hi
    obtain⟨b0,b1,b2,b3,b4,b5,b6,b7,rfl,w0,_,w2,w3,w4,w5,w6,_⟩:=VO hr
    obtain⟨y,g1,g2,g3,g4⟩:=ih b6 (CI (ag:=true) (sz:=8) hm (by simp)) w6 b0 b1 b2 b3 b4 b5 b7 z w5 h1 h2
    obtain⟨r,k1,k2,k3,k4⟩:=ihl y g2 g3
    refine⟨r,.succ (.succ (Ev.congr (A:=fun n=>bO1 (Vb n b0 b1 b2 b3 b4 b5 b6 b7 z) fun z10=>Ft n l ((i+1:Nat):Int) z10) (Ev.bO1 g1 k1) fun n=>?_)),k2,k3,fun hr0=>?_⟩
    ·rw[Ft];simp only[Ad];rw[if_pos (by omega),if_pos hz,Gl,if_pos rfl,A0 hx]
     simp only[Cz,Al,BB hi h.1]
    ·obtain⟨x1,x2⟩:=k4 hr0
     obtain⟨x3,x4⟩:=g4 (by omega)
     refine⟨by omega,fun j _ _ _ _ _ _ _ _ hj hx'=>?_⟩
     by_cases e:j=i
     ·subst e;rw[hx]at hx';cases hx';exact x4
     ·exact x2 j _ _ _ _ _ _ _ _ (by omega) hx'
   ·refine⟨z,.succ (.succ (.of fun n=>?_)),h1,h2,by omega⟩
    rw[Ft];simp only[Ad];rw[if_pos (by omega),if_neg hz,Gl,if_neg Bool.false_ne_true]
 intro z1 z2 s3 s4 s5 l6 z8 z h6 h1 h2
 obtain⟨y1,g1,g2,g3,g4⟩:=EP s3 z h1 h2
 obtain⟨y2,j1,j2,j3,j4⟩:=EP s4 y1 (by omega) g3
 obtain⟨y3,i1,i2,i3,i4⟩:=Rq h6 s5 y2 (by omega) j3
 obtain⟨r,k1,k2,k3,k4⟩:=loop 0 (Nat.zero_le _) y3 i2 i3
 refine⟨r,.succ ((Ev.bO1 g1 (Ev.bO1 j1 (Ev.bO1 i1 k1))).congr fun n=>by rw[Vb]),k2,k3,fun hr0=>?_⟩
 obtain⟨x1,x2⟩:=k4 hr0
 obtain⟨x3,x4⟩:=i4 (by omega)
 have:=j4 (by omega)
 have:=g4 (by omega)
 refine⟨by omega,x4,.mk (by omega) (fun a0 a1 a2 a3 a4 a5 a6 a7 hm=>?_) (fun a0 a1 a2 a3 a4 a5 a6 a7 hm=>?_)⟩
 ·obtain⟨j,hj⟩:=List.getElem?_of_mem hm
  exact (x2 j _ _ _ _ _ _ _ _ (Nat.zero_le _) hj).1
 ·obtain⟨j,hj⟩:=List.getElem?_of_mem hm
  exact (x2 j _ _ _ _ _ _ _ _ (Nat.zero_le _) hj).2
def ZC (m:List D):Prop:=∀z:Int,-6≤z→z≤20000→∃r,Ev (fun n=>WT n m z) r∧ -6≤r∧r≤20000∧(0≤r→r≤z∧SY m)
theorem Vm {l18:List D}(h:Ao tab 43 l18) (l1:List D) (z3:Int) (l19 l20 l21:List D):∀i:Nat,i≤l18.length→∀z:Int,-6≤z→z≤20000→∃r,-6≤r∧r≤20000∧(0≤r→r+5*((l18.length:Int) - (i:Int))≤z∧∀(j:Nat) (a0 a1:Int) (a2 a3 a4:ByteArray) (a5 a6:List D) (a7:Int),i≤j→l18[j]?=some (.agg [.int .u8 a0,.int .i64 a1,.str a2,.str a3,.str a4,.list false 1 a5,.list true 8 a6,.int .i64 a7])→a5.length≤4000∧Qu a6)∧
  ∀R,Ev (fun n=>if r<(0:Int)then FH n l1 z3 l19 l20 l21 r true else FH n l1 z3 l19 l20 l21 r false) R→Ev (fun n=>Gn n l1 z3 l18 l19 l20 l21 (i:Int) z) R:=by
 refine down l18.length ?_ ?_
 ·intro z h1 h2
  refine⟨z,h1,h2,fun _=>⟨by omega,fun j _ _ _ _ _ _ _ _ hj hx=>absurd (List.getElem?_eq_some_iff.1 hx).1 (by omega)⟩,fun R hR=>.succ ?_⟩
  simp only[Gn,Ad,Int.lt_irrefl,if_false]
  exact .succ (by simp only[Gp,Bool.false_eq_true,if_false];exact hR)
 ·intro i hi ih z h1 h2
  by_cases c:(0:Int)≤z
  ·obtain⟨x,hx,hm,hr⟩:=h.get hi
   obtain⟨b0,b1,b2,b3,b4,b5,b6,b7,rfl,w0,w1,w2,w3,w4,w5,w6,w7⟩:=VO hr
   obtain⟨y,y1,y2,y3,y4⟩:=Pu b6 w6 b0 b1 b2 b3 b4 b5 b7 z w5 h1 h2
   obtain⟨r,r1,r2,r3,r4⟩:=ih y y2 y3
   refine⟨r,r1,r2,fun hr0=>?_,fun R hR=>.succ ?_⟩
   ·obtain⟨x1,x2⟩:=r3 hr0
    obtain⟨x3,x4⟩:=y4 (by omega)
    refine⟨by omega,fun j _ _ _ _ _ _ _ _ hj hx'=>?_⟩
    by_cases e:j=i
    ·subst e;rw[hx]at hx';cases hx';exact x4
    ·exact x2 j _ _ _ _ _ _ _ _ (by omega) hx'
   ·simp only[Gn,Ad,if_pos (G0 hi),if_pos c]
    refine .succ ?_
    simp only[Gp,if_true,A0 hx,Cz]
    refine Ev.bO1 y1 ?_
    simp only[Al,BB hi h.1]
    exact r4 R hR
  ·refine⟨z,h1,h2,fun h=>absurd h c,fun R hR=>.succ ?_⟩
   simp only[Gn,Ad,if_pos (G0 hi),if_neg c]
   exact .succ (by simp only[Gp,Bool.false_eq_true,if_false];exact hR)
theorem Ub {l21:List D}(h:Ao tab 86 l21) (hin:∀(s1 s2:ByteArray) (m:List D),.agg [.str s1,.str s2,.list true 15 m]∈l21→ZC m) (l1:List D) (z3:Int):∀i:Nat,i≤l21.length→∀z:Int,-6≤z→z≤20000→∃r,-6≤r∧r≤20000∧
  (0≤r→r+5*((l21.length:Int) - (i:Int))≤z∧∀j s1 s2 m,i≤j→l21[j]?=some (.agg [.str s1,.str s2,.list true 15 m])→SY m)∧∀R,Ev (fun n=>FG n l1 (IntKind.wrap .i64 (z3+1)) r) R→Ev (fun n=>Gq n l1 z3 l21 (i:Int) z) R:=by
 refine down l21.length ?_ ?_
 ·intro z h1 h2
  refine⟨z,h1,h2,fun _=>⟨by omega,fun j s1 s2 m hj hx=>absurd (List.getElem?_eq_some_iff.1 hx).1 (by omega)⟩,fun R hR=>.succ ?_⟩
  simp only[Gq,Ad,Int.lt_irrefl,if_false]
  exact .succ (by simp only[Gr,Bool.false_eq_true,if_false,Al];exact hR)
 ·intro i hi ih z h1 h2
  by_cases c:(0:Int)≤z
  ·obtain⟨x,hx,hm,hr⟩:=h.get hi
   obtain⟨t1,t2,m,rfl,w0,w1,w2⟩:=VP hr
   obtain⟨a,a1,a2,a3,a4⟩:=EP t1 z h1 h2
   obtain⟨b,b1,b2,b3,b4⟩:=EP t2 a (by omega) a3
   obtain⟨y,y1,y2,y3,y4⟩:=hin t1 t2 m hm b (by omega) b3
   obtain⟨r,r1,r2,r3,r4⟩:=ih y y2 y3
   refine⟨r,r1,r2,fun hr0=>?_,fun R hR=>.succ ?_⟩
   ·obtain⟨r5,r6⟩:=r3 hr0
    obtain⟨y5,y6⟩:=y4 (by omega)
    have:=b4 (by omega)
    have:=a4 (by omega)
    refine⟨by omega,fun j s1 s2 m' hj hx'=>?_⟩
    by_cases e:j=i
    ·subst e;rw[hx]at hx';cases hx';exact y6
    ·exact r6 j s1 s2 m' (by omega) hx'
   ·simp only[Gq,Ad,if_pos (G0 hi),if_pos c]
    refine .succ ?_
    simp only[Gr,if_true,A0 hx,Gc]
    refine Ev.bO1 a1 (Ev.bO1 b1 (Ev.bO1 y1 ?_))
    simp only[Al,BB hi h.1]
    exact r4 R hR
  ·refine⟨z,h1,h2,fun h=>absurd h c,fun R hR=>.succ ?_⟩
   simp only[Gq,Ad,if_pos (G0 hi),if_neg c]
   exact .succ (by simp only[Gr,Bool.false_eq_true,if_false,Al];exact hR)
structure Sh (a3 a6 a9 a10 a11 a12 a13:List D):Prop where
 n:a3.length≤4000
 t:P2 a6
 p:a9.length≤4000
 e:Qu a10
 b:SY a11
 o:SY a12
 k:a13.length≤4000
 m:∀(t1 t2:ByteArray) (m:List D),D.agg [.str t1,.str t2,.list true 15 m]∈a13→SY m
theorem Vn (l:List D):Ao tab 82 l→ZC l:=by
 refine EH (P:=fun l=>Ao tab 82 l→ZC l) (fun l ih h=>?_) l
 have loop:∀i:Nat,i≤l.length→∀z:Int,-6≤z→z≤20000→∃r,Ev (fun n=>FG n l (i:Int) z) r∧ -6≤r∧r≤20000∧(0≤r→r+5*((l.length:Int) - (i:Int))≤z∧∀(j:Nat) (a0:Int) (a1 a2:ByteArray) (a3:List D) (a4:Int) (a5:ByteArray) (a6:List D) (a7:Int) (a8:ByteArray) (a9 a10 a11 a12 a13:List D) (a14:Int),i≤j→l[j]?=some (.agg [.int .u8 a0,.str a1,.str a2,.list false 1 a3,.int .u8 a4,.str a5,.list true 3 a6,.int .i64 a7,.str a8,.list false 1 a9,.list true 8 a10,.list true 15 a11,.list true 15 a12,.list true 3 a13,.int .i64 a14])→Sh a3 a6 a9 a10 a11 a12 a13):=by
  refine down l.length ?_ ?_
  ·intro z h1 h2
   refine⟨z,.succ ?_,h1,h2,fun _=>⟨by omega,fun j _ _ _ _ _ _ _ _ _ _ _ _ _ _ _ hj hx=>absurd (List.getElem?_eq_some_iff.1 hx).1 (by omega)⟩⟩
   simp only[FG,Ad,Int.lt_irrefl,if_false]
   exact .succ (by simp only[Gm,Bool.false_eq_true,if_false];exact .ret)
  ·intro i hi ihl z h1 h2
   by_cases c:(0:Int)≤z
   ·obtain⟨x,hx,hm,hr⟩:=h.get hi
    obtain⟨a0,a1,a2,a3,a4,a5,a6,a7,a8,a9,a10,a11,a12,a13,a14,rfl,w0,w1,w2,w3,w4,w5,w6,w7,w8,w9,w10,w11,w12,w13,w14⟩:=YC hr
    obtain⟨p1,p2,p3,p4,p5⟩:=EP a1 z h1 h2
    obtain⟨q1,q2,q3,q4,q5⟩:=EP a2 p1 (by omega) p4
    obtain⟨t1,t2,t3,t4,t5⟩:=Rp w3 q1 (by omega) q4
    obtain⟨u1,u2,u3,u4,u5⟩:=Kw a6 w6 a4 a5 t1 t3 t4
    obtain⟨v1,v2,v3,v4,v5⟩:=Rq w9 a8 u1 u3 u4
    obtain⟨e1,e2,e3,e4,e5⟩:=Vm w10 l (i:Int) a11 a12 a13 0 (Nat.zero_le _) v1 v3 v4
    have pre:∀R,Ev (fun n=>if e1<(0:Int)then FH n l (i:Int) a11 a12 a13 e1 true else FH n l (i:Int) a11 a12 a13 e1 false) R→Ev (fun n=>FG n l (i:Int) z) R:=by
     intro R hR
     refine .succ ?_
     simp only[FG,Ad,if_pos (G0 hi),if_pos c]
     refine .succ ?_
     simp only[Gm,if_true,A0 hx,Gb]
     exact Ev.bO1 p2 (Ev.bO1 q2 (Ev.bO1 t2 (Ev.bO1 u2 (Ev.bO1 v2 (e5 R hR)))))
    by_cases ce:e1<0
    ·refine⟨e1,pre _ ?_,e2,e3,fun h=>absurd h (by omega)⟩
     simp only[if_pos ce]
     exact .succ (by simp only[FH,if_true];exact .ret)
    ·have s11:=ih a11 (CI (ag:=true) (sz:=15) hm (by simp)) w11
     have s12:=ih a12 (CI (ag:=true) (sz:=15) hm (by simp)) w12
     have s13:∀(s1 s2:ByteArray) (m:List D),.agg [.str s1,.str s2,.list true 15 m]∈a13→ZC m:=fun s1 s2 m hm2=>ih m (Nat.lt_trans (CI (ag:=true) (sz:=15) hm2 (by simp)) (CI (ag:=true) (sz:=3) hm (by simp))) (by obtain⟨b0,b1,b2,e,_,_,w⟩:=VP (w13.2 _ hm2);cases e;exact w)
     obtain⟨f1,f2,f3,f4,f5⟩:=s11 e1 e2 e3
     obtain⟨g1,g2,g3,g4,g5⟩:=s12 f1 f3 f4
     obtain⟨k1,k2,k3,k4,k5⟩:=Ub w13 s13 l (i:Int) 0 (Nat.zero_le _) g1 g3 g4
     obtain⟨r,r1,r2,r3,r4⟩:=ihl k1 k2 k3
     refine⟨r,pre _ ?_,r2,r3,fun hr0=>?_⟩
     ·simp only[if_neg ce]
      refine .succ ?_
      simp only[FH,Bool.false_eq_true,if_false]
      refine Ev.bO1 f2 (Ev.bO1 g2 (k5 _ ?_))
      rw[BB hi h.1]
      exact r1
     ·obtain⟨x1,x2⟩:=r4 hr0
      obtain⟨x3,x4⟩:=k4 (by omega)
      obtain⟨x5,x6⟩:=g5 (by omega)
      obtain⟨x7,x8⟩:=f5 (by omega)
      obtain⟨x9,x10⟩:=e4 (by omega)
      obtain⟨y1,y1'⟩:=v5 (by omega)
      obtain⟨y2,y2'⟩:=u5 (by omega)
      obtain⟨y3,y3'⟩:=t5 (by omega)
      have y4:=q5 (by omega)
      have y5:=p5 (by omega)
      refine⟨by omega,fun j _ _ _ _ _ _ _ _ _ _ _ _ _ _ _ hj hx'=>?_⟩
      by_cases e:j=i
      ·subst e
       rw[hx]at hx'
       cases hx'
       refine⟨y3',y2',y1',.mk (by omega) (fun b0 b1 b2 b3 b4 b5 b6 b7 hm=>?_) (fun b0 b1 b2 b3 b4 b5 b6 b7 hm=>?_),x8,x6,by omega,fun s1 s2 m hm2=>?_⟩
       ·obtain⟨j,hj⟩:=List.getElem?_of_mem hm
        exact (x10 j _ _ _ _ _ _ _ _ (Nat.zero_le _) hj).1
       ·obtain⟨j,hj⟩:=List.getElem?_of_mem hm
        exact (x10 j _ _ _ _ _ _ _ _ (Nat.zero_le _) hj).2
       ·obtain⟨j,hj⟩:=List.getElem?_of_mem hm2
        exact x4 j s1 s2 m (Nat.zero_le _) hj
      ·exact x2 j _ _ _ _ _ _ _ _ _ _ _ _ _ _ _ (by omega) hx'
   ·refine⟨z,.succ ?_,h1,h2,fun h=>absurd h c⟩
    simp only[FG,Ad,if_pos (G0 hi),if_neg c]
    exact .succ (by simp only[Gm,Bool.false_eq_true,if_false];exact .ret)
 intro z h1 h2
 obtain⟨r,r1,r2,r3,r4⟩:=loop 0 (Nat.zero_le _) z h1 h2
 refine⟨r,.succ (by simp only[WT];exact r1),r2,r3,fun hr=>?_⟩
 obtain⟨x1,x2⟩:=r4 hr
 have get:∀(a0:Int) (a1 a2:ByteArray) (a3:List D) (a4:Int) (a5:ByteArray) (a6:List D) (a7:Int) (a8:ByteArray) (a9 a10 a11 a12 a13:List D) (a14:Int),D.agg [.int .u8 a0,.str a1,.str a2,.list false 1 a3,.int .u8 a4,.str a5,.list true 3 a6,.int .i64 a7,.str a8,.list false 1 a9,.list true 8 a10,.list true 15 a11,.list true 15 a12,.list true 3 a13,.int .i64 a14]∈l→Sh a3 a6 a9 a10 a11 a12 a13:=fun _ _ _ _ _ _ _ _ _ _ _ _ _ _ _ hm=>by
  obtain⟨j,hj⟩:=List.getElem?_of_mem hm
  exact x2 j _ _ _ _ _ _ _ _ _ _ _ _ _ _ _ (Nat.zero_le _) hj
 refine⟨by omega,.mk (by omega) (fun _ _ _ _ _ _ _ _ _ _ _ _ _ _ _ hm=>?_) (fun _ _ _ _ _ _ _ _ _ _ _ _ _ _ _ hm=>(get _ _ _ _ _ _ _ _ _ _ _ _ _ _ _ hm).b) (fun _ _ _ _ _ _ _ _ _ _ _ _ _ _ _ hm=>(get _ _ _ _ _ _ _ _ _ _ _ _ _ _ _ hm).o) (fun _ _ _ _ _ _ _ _ _ _ _ _ _ _ _ hm=>(get _ _ _ _ _ _ _ _ _ _ _ _ _ _ _ hm).m)⟩
 have g:=get _ _ _ _ _ _ _ _ _ _ _ _ _ _ _ hm
 exact⟨g.n,g.t,g.p,g.e,g.k⟩
theorem SY.len {l:List D}(h:SY l):l.length≤4000:=by cases h;assumption
theorem Qu.len {l:List D}(h:Qu l):l.length≤4000:=by cases h;assumption
theorem P2.len {l:List D}(h:P2 l):l.length≤4000:=by cases h;assumption
theorem P2.row {l:List D}(h:P2 l) {a:Int}{s:ByteArray}{m:List D}(hm:D.agg [.int .u8 a,.str s,.list true 3 m]∈l):P2 m:=by
 cases h with
 | mk h hr=>exact hr _ _ _ hm
theorem Qu.row {l:List D}(h:Qu l) {a0 a1:Int}{a2 a3 a4:ByteArray}{a5 a6:List D}{a7:Int}(hm:D.agg [.int .u8 a0,.int .i64 a1,.str a2,.str a3,.str a4,.list false 1 a5,.list true 8 a6,.int .i64 a7]∈l):a5.length≤4000∧Qu a6:=by
 cases h with
 | mk h h5 h6=>exact⟨h5 _ _ _ _ _ _ _ _ hm,h6 _ _ _ _ _ _ _ _ hm⟩
def Z3 (l:List D):Prop:=l.length≤4000∧∀(s:ByteArray) (k:Int) (t:ByteArray) (m:List D),D.agg [.str s,.int .u8 k,.str t,.list true 3 m]∈l→P2 m
theorem Uc {l:List D}(h:Ao tab 67 l):∀z:Int,-6≤z→z≤20000→∃r,Ev (fun n=>YT n l z) r∧ -6≤r∧r≤20000∧(0≤r→r≤z∧Z3 l):=by
 have loop:∀i:Nat,i≤l.length→∀z:Int,-6≤z→z≤20000→∃r,Ev (fun n=>Gi n l (i:Int) z) r∧ -6≤r∧r≤20000∧(0≤r→r+5*((l.length:Int) - (i:Int))≤z∧∀(j:Nat) (s:ByteArray) (k:Int) (t:ByteArray) (m:List D),i≤j→l[j]?=some (.agg [.str s,.int .u8 k,.str t,.list true 3 m])→P2 m):=by
  refine down l.length ?_ ?_
  ·intro z h1 h2
   refine⟨z,.succ ?_,h1,h2,fun _=>⟨by omega,fun j s k t m hj hx=>absurd (List.getElem?_eq_some_iff.1 hx).1 (by omega)⟩⟩
   simp only[Gi,Ad,Int.lt_irrefl,if_false]
   exact .succ (by simp only[Gj,Bool.false_eq_true,if_false];exact .ret)
  ·intro i hi ih z h1 h2
   by_cases c:(0:Int)≤z
   ·obtain⟨x,hx,hm,hr⟩:=h.get hi
    obtain⟨a0,a1,a2,a3,rfl,w0,w1,w2,w3⟩:=W6 hr
    obtain⟨p1,p2,p3,p4,p5⟩:=EP a0 z h1 h2
    obtain⟨u1,u2,u3,u4,u5⟩:=Kw a3 w3 a1 a2 p1 (by omega) p4
    obtain⟨r,r1,r2,r3,r4⟩:=ih u1 u3 u4
    refine⟨r,.succ ?_,r2,r3,fun hr0=>?_⟩
    ·simp only[Gi,Ad,if_pos (G0 hi),if_pos c]
     refine .succ ?_
     simp only[Gj,if_true,A0 hx,B5]
     refine Ev.bO1 p2 (Ev.bO1 u2 ?_)
     simp only[Al,BB hi h.1]
     exact r1
    ·obtain⟨x1,x2⟩:=r4 hr0
     obtain⟨u6,u7⟩:=u5 (by omega)
     have:=p5 (by omega)
     refine⟨by omega,fun j s k t m' hj hx'=>?_⟩
     by_cases e:j=i
     ·subst e;rw[hx]at hx';cases hx';exact u7
     ·exact x2 j s k t m' (by omega) hx'
   ·refine⟨z,.succ ?_,h1,h2,fun h=>absurd h c⟩
    simp only[Gi,Ad,if_pos (G0 hi),if_neg c]
    exact .succ (by simp only[Gj,Bool.false_eq_true,if_false];exact .ret)
 intro z h1 h2
 obtain⟨r,r1,r2,r3,r4⟩:=loop 0 (Nat.zero_le _) z h1 h2
 refine⟨r,(by unfold YT;exact r1),r2,r3,fun hr=>?_⟩
 obtain⟨x1,x2⟩:=r4 hr
 refine⟨by omega,by omega,fun s k t m hm=>?_⟩
 obtain⟨j,hj⟩:=List.getElem?_of_mem hm
 exact x2 j s k t m (Nat.zero_le _) hj
theorem Ud {l:List D}(h:Ao tab 45 l):∃b,Ev (fun n=>F5 n l) b∧(b=false→l.length≤4000∧∀(a0:Int) (a1:ByteArray) (a2:List D) (a3:Int) (a4:ByteArray) (a5 a6:List D) (a7 a8:Int) (a9 a10 a11:ByteArray) (a12 a13:List D) (a14 a15:Int),D.agg [.int .u8 a0,.str a1,.list true 4 a2,.int .u8 a3,.str a4,.list true 3 a5,.list true 15 a6,.int .u8 a7,.int .i64 a8,.str a9,.str a10,.str a11,.list false 1 a12,.list true 8 a13,.int .i64 a14,.int .i64 a15]∈l→Z3 a2∧P2 a5∧SY a6∧a12.length≤4000∧Qu a13):=by
 have loop:∀i:Nat,i≤l.length→∀z:Int,-6≤z→z≤20000→∃b,Ev (fun n=>Lw n l (i:Int) z) b∧(b=false→5*((l.length:Int) - (i:Int))≤z∧∀(j:Nat) (a0:Int) (a1:ByteArray) (a2:List D) (a3:Int) (a4:ByteArray) (a5 a6:List D) (a7 a8:Int) (a9 a10 a11:ByteArray) (a12 a13:List D) (a14 a15:Int),i≤j→l[j]?=some (.agg [.int .u8 a0,.str a1,.list true 4 a2,.int .u8 a3,.str a4,.list true 3 a5,.list true 15 a6,.int .u8 a7,.int .i64 a8,.str a9,.str a10,.str a11,.list false 1 a12,.list true 8 a13,.int .i64 a14,.int .i64 a15])→Z3 a2∧P2 a5∧SY a6∧a12.length≤4000∧Qu a13):=by
  have t_end:∀(z2 z:Int),Ev (fun n=>Lx n l z2 z false) (decide (z<0)):=by
   intro z2 z
   refine .succ ?_
   simp only[Lx,Bool.false_eq_true,if_false]
   by_cases c:z<0
   ·simp only[if_pos c,decide_eq_true c];exact .ret
   ·simp only[if_neg c,decide_eq_false c];exact .ret
  refine down l.length ?_ ?_
  ·intro z h1 h2
   refine⟨decide (z<0),.succ ?_,fun hb=>⟨by have:=of_decide_eq_false hb;omega,fun j _ _ _ _ _ _ _ _ _ _ _ _ _ _ _ _ hj hx=>absurd (List.getElem?_eq_some_iff.1 hx).1 (by omega)⟩⟩
   simp only[Lw,Ad,Int.lt_irrefl,if_false]
   exact t_end _ _
  ·intro i hi ih z h1 h2
   by_cases c:(0:Int)≤z
   ·obtain⟨x,hx,hm,hr⟩:=h.get hi
    obtain⟨a0,a1,a2,a3,a4,a5,a6,a7,a8,a9,a10,a11,a12,a13,a14,a15,rfl,w0,w1,w2,w3,w4,w5,w6,w7,w8,w9,w10,w11,w12,w13,w14,w15⟩:=W5 hr
    obtain⟨p1,p2,p3,p4,p5⟩:=EP a1 z h1 h2
    obtain⟨q1,q2,q3,q4,q5⟩:=Uc w2 p1 (by omega) p4
    obtain⟨u1,u2,u3,u4,u5⟩:=Kw a5 w5 a3 a4 q1 q3 q4
    obtain⟨v1,v2,v3,v4,v5⟩:=Vn a6 w6 u1 u3 u4
    obtain⟨y1,y2,y3,y4,y5⟩:=Pu a13 w13 a7 a8 a9 a10 a11 a12 a14 v1 w12 v3 v4
    obtain⟨b,b1,b2⟩:=ih y1 y3 y4
    refine⟨b,.succ ?_,fun hb=>?_⟩
    ·simp only[Lw,Ad,if_pos (G0 hi),if_pos c]
     refine .succ ?_
     simp only[Lx,if_true,A0 hx,Bv]
     refine Ev.bO1 p2 (Ev.bO1 q2 (Ev.bO1 u2 (Ev.bO1 v2 (Ev.bO1 y2 ?_))))
     simp only[Al,BB hi h.1]
     exact b1
    ·obtain⟨x1,x2⟩:=b2 hb
     obtain⟨g1,g1',g1''⟩:=y5 (by omega)
     obtain⟨g2,g3⟩:=v5 (by omega)
     obtain⟨g4,g4'⟩:=u5 (by omega)
     obtain⟨g5,g6⟩:=q5 (by omega)
     have g7:=p5 (by omega)
     refine⟨by omega,fun j _ _ _ _ _ _ _ _ _ _ _ _ _ _ _ _ hj hx'=>?_⟩
     by_cases e:j=i
     ·subst e;rw[hx]at hx';cases hx';exact⟨g6,g4',g3,g1',g1''⟩
     ·exact x2 j _ _ _ _ _ _ _ _ _ _ _ _ _ _ _ _ (by omega) hx'
   ·refine⟨decide (z<0),.succ ?_,fun hb=>absurd (of_decide_eq_false hb) (by omega)⟩
    simp only[Lw,Ad,if_pos (G0 hi),if_neg c]
    exact t_end _ _
 obtain⟨b,b1,b2⟩:=loop 0 (Nat.zero_le _) 20000 (by omega) (by omega)
 refine⟨b,(by unfold F5;exact b1),fun hb=>⟨by have:=(b2 hb).1;omega,fun _ _ _ _ _ _ _ _ _ _ _ _ _ _ _ _ hx=>?_⟩⟩
 obtain⟨j,hj⟩:=List.getElem?_of_mem hx
 exact (b2 hb).2 j _ _ _ _ _ _ _ _ _ _ _ _ _ _ _ _ (Nat.zero_le _) hj
end Go.Proofs.YtmggjbjpklecgaaGreatDoor
end
set_option linter.unusedVariables false
noncomputable section
namespace Go.Proofs.YtmggjbjpklecgaaGreatDoor
open Go Go.AM
theorem cZ {a0:Int}(w0:(Lit.int .u8 a0).wf=true):Shape tab 5 [.int .u8 a0]:=.int (x:=Bt tab 5) a0 (by kernel_rfl) (by kernel_rfl) w0
theorem dA {a0:ByteArray}(w0:a0.size≤maxLen):Shape tab 9 [.str a0]:=.str (x:=Bt tab 9) a0 (by kernel_rfl) (by kernel_rfl) w0
theorem Z4 {a0:List D}(w0:Ao tab 28 a0):Shape tab 26 [.list true 3 a0]:=by
 have e:D.list (Ax (Bt tab 28).desc) (Bt tab 28).size a0= .list true 3 a0:=by kernel_rfl
 rw[←e]
 exact w0.shape AO (x:=Bt tab 26) (y:=Bt tab 28) (by kernel_rfl) (by kernel_rfl) (by kernel_rfl)
theorem Z5 {a0:Int}{a1:ByteArray}{a2:List D}(w0:(Lit.int .u8 a0).wf=true) (w1:a1.size≤maxLen) (w2:Ao tab 28 a2):Shape tab 28 [.int .u8 a0,.str a1,.list true 3 a2]:=by
 have tt:tab 28=some (Bt tab 28):=by kernel_rfl
 obtain⟨fs,hfs,hall⟩:∃fs,(Bt tab 28).desc= .struct fs∧(fs.toList.all fun f=>[(5,0),(9,1),(26,2)].contains (f.type,f.offset))=true:=⟨(match (Bt tab 28).desc with | .struct fs=>fs | _=>#[]),by kernel_rfl,by kernel_rfl⟩
 refine .struct (x:=Bt tab 28) (fs:=fs) _ tt hfs (by kernel_rfl) (by simp[D.isAgg]) (fun f hf y hy=>?_)
 have hq:=List.all_eq_true.1 hall f hf
 simp only[List.contains_cons,List.contains_nil,Bool.or_false,Bool.or_eq_true,beq_iff_eq,Prod.mk.injEq]at hq
 rcases hq with⟨e1,e2⟩ | ⟨e1,e2⟩ | ⟨e1,e2⟩
 ·rw[e1,show tab 5=some (Bt tab 5)by kernel_rfl]at hy;cases hy;rw[e1,e2,show (Bt tab 5).size=1 by kernel_rfl];exact cZ w0
 ·rw[e1,show tab 9=some (Bt tab 9)by kernel_rfl]at hy;cases hy;rw[e1,e2,show (Bt tab 9).size=1 by kernel_rfl];exact dA w1
 ·rw[e1,show tab 26=some (Bt tab 26)by kernel_rfl]at hy;cases hy;rw[e1,e2,show (Bt tab 26).size=1 by kernel_rfl];exact Z4 w2
theorem Z6 {a0:Int}{a1:ByteArray}{a2:List D}(w0:(Lit.int .u8 a0).wf=true) (w1:a1.size≤maxLen) (w2:Ao tab 28 a2):ER tab 28 (.agg [.int .u8 a0,.str a1,.list true 3 a2]):=⟨Z5 w0 w1 w2,fun y hy=>by rw[show tab 28=some (Bt tab 28)by kernel_rfl]at hy;cases hy;kernel_rfl⟩
end Go.Proofs.YtmggjbjpklecgaaGreatDoor
end
set_option linter.unusedVariables false
noncomputable section
namespace Go.Proofs.YtmggjbjpklecgaaGreatDoor
open Go Go.AM
def Z7 (n:Nat) (z1:Int):Option (Bool):=
 (if z1=(10:Int)then some false else some true)
theorem dB (n:Nat):∀⦃z1 r1⦄,Z7 n z1=some r1->
    AW Tryz.prog inv 67 [.d (.int .u8 z1)] [] (.v (.d (.bool r1))) [] []:=by
 intro z1 r1 h
 unfold Z7 at h
 refine AW.of Ab AO Bp Tryz.func67 rfl (by kernel_rfl) rfl rfl rfl (fun M hM hI=>?_)
 try cbv
 refine AB ?_
 try cbv
 refine AB ?_
 try cbv
 refine Ah (fun e=>?_) (fun e=>?_)
 ·replace h:=AJ e h
  clear e
  try cbv
  obtain rfl:=Option.some.inj h
  refine AF ?_
  try cbv
  exact⟨[],by trivial⟩
 replace h:=AK e h
 clear e
 try cbv
 obtain rfl:=Option.some.inj h
 refine AF ?_
 try cbv
 exact⟨[],by trivial⟩
mutual
def L4:Nat->BA->Int->Option (Int)
 | 0,_,_=>none
 | n+1,s1,z2=>
  Jh s1 fun z3=>(if z2<z3 then NX s1 z2 fun z4=>bO1 (Z7 n z4) fun b5=>L5 n s1 z2 b5 else L5 n s1 z2 false)
def L5:Nat->BA->Int->Bool->Option (Int)
 | 0,_,_,_=>none
 | n+1,s1,z2,b6=>
  (if b6=true then Al (IntKind.wrap .i64 (z2+1)) fun z7=>L4 n s1 z7 else some z2)
end
def Z8 (n:Nat) (s1:BA):Option (Int):=
 L4 n s1 (0:Int)
theorem dC (n:Nat):∀⦃s1 r1⦄,Z8 n s1=some r1->
    AW Tryz.prog inv 66 [.d (.str s1),.c (.fn 67 [])] [] (.v (.d (.int .i64 r1))) [] []:=by
 intro s1 r1 h
 unfold Z8 at h
 refine AW.of Ab AO Bp Tryz.func66 rfl (by kernel_rfl) rfl rfl rfl (fun M hM hI=>?_)
 try cbv
 refine AB ?_
 try cbv
 refine AB ?_
 try cbv
 refine AB ?_
 try cbv
 refine BF (T:=Nat×Int) [0,1,4,5] [] 64 (fun t=>⟨[sS 0 s1,(1,.v (.c (.fn 67 []))),sI 4 0,sI 5 t.2],[],64⟩)
   (fun t=>t.1<=n/\L4 t.1 s1 t.2=some r1) (fun t=>t.1) (n,(0:Int)) ⟨Nat.le_refl _,h⟩ (by cbv) ?_
 clear h
 rintro⟨m1,z2⟩ ⟨hm1,h⟩
 replace hm1:m1<=n:=hm1
 obtain _ | m1:=m1
 ·replace h:L4 0 s1 z2=some r1:=h
  rw[L4]at h
  cases h
 replace h:L4 (m1+1) s1 z2=some r1:=h
 rw[L4]at h
 try cbv
 refine AB ?_
 try cbv
 refine AH 16 [0,1,4,5,16] [] 416 (fun m b=>m<=m1/\L5 m s1 z2 b=some r1) ?_ ?_
 ·try cbv
  replace h:=Bu M h
  obtain⟨z3,hz,h⟩:=h
  refine⟨z3,hz,?_⟩
  clear hz
  try cbv
  refine Aa (fun e=>?_) (fun e=>?_)
  ·replace h:=AJ e h
   clear e
   try cbv
   replace h:=Cg h
   obtain⟨z4,hz,h⟩:=h
   refine⟨z4,hz,?_⟩
   clear hz
   try cbv
   replace h:=AG h
   obtain⟨b5,hr,h⟩:=h
   refine AD rfl rfl ?_
   try cbv
   refine AE hM hI (dB _ hr) rfl ?_
   clear hr
   try cbv
   exact AA (m1,b5) [0,1,4,5,16] [] 416 ⟨by omega,h⟩ (by cbv)
  replace h:=AK (Int.not_lt.2 e) h
  clear e
  try cbv
  exact AA (m1,false) [0,1,4,5,16] [] 416 ⟨by omega,h⟩ (by cbv)
 clear h
 rintro⟨m2,b6⟩ ⟨hm2,h⟩
 try cbv
 replace hm2:m2<=m1:=hm2
 obtain _ | m2:=m2
 ·replace h:L5 0 s1 z2 b6=some r1:=h
  rw[L5]at h
  cases h
 replace h:L5 (m2+1) s1 z2 b6=some r1:=h
 rw[L5]at h
 try cbv
 cases b6
 ·replace h:=Ar h
  try cbv
  refine AB ?_
  try cbv
  obtain rfl:=Option.some.inj h
  refine AF ?_
  try cbv
  exact⟨[],by trivial⟩
 replace h:=Aq h
 try cbv
 replace h:=AN h
 obtain⟨z7,hz,h⟩:=h
 refine⟨z7,hz,?_⟩
 clear hz
 try cbv
 exact An (m2,z7) [0,1,4,5] [] 64 ⟨by omega,h⟩ (Nat.lt_succ_of_le (by omega)) (by cbv)
mutual
def KN:Nat->BA->Int->Option (Int)
 | 0,_,_=>none
 | n+1,s1,z2=>
  Jh s1 fun z3=>(if z2<z3 then L6 n s1 z2 true else L6 n s1 z2 false)
def L6:Nat->BA->Int->Bool->Option (Int)
 | 0,_,_,_=>none
 | n+1,s1,z2,b4=>
  (if b4=true then NX s1 z2 fun z5=>bO1 (ZS n W9 z5) fun z6=>(if (0:Int)<=z6 then L7 n s1 z2 true else L7 n s1 z2 false)else some z2)
def L7:Nat->BA->Int->Bool->Option (Int)
 | 0,_,_,_=>none
 | n+1,s1,z2,b7=>
  (if b7=true then Al (IntKind.wrap .i64 (z2+1)) fun z8=>KN n s1 z8 else Jx s1 z2 fun s9=>bO1 (ZT n s9 ZV) fun b10=>(if b10=true then Jx s1 z2 fun s11=>bO1 (Z8 n s11) fun z12=>Al (IntKind.wrap .i64 (z2+z12)) fun z13=>KN n s1 z13 else some z2))
end
def ZD (n:Nat) (s1:BA):Option (Int):=
 KN n s1 (0:Int)
theorem bN (n:Nat):∀⦃s1 r1⦄,ZD n s1=some r1->
    AW Tryz.prog inv 40 [.d (.str s1)] [] (.v (.d (.int .i64 r1))) [] []:=by
 intro s1 r1 h
 unfold ZD at h
 refine AW.of Ab AO Bp Tryz.func40 rfl (by kernel_rfl) rfl rfl rfl (fun M hM hI=>?_)
 try cbv
 refine AB ?_
 try cbv
 refine AB ?_
 try cbv
 refine AB ?_
 try cbv
 refine BF (T:=Nat×Int) [0,2,3] [] 64 (fun t=>⟨[sS 0 s1,sI 2 0,sI 3 t.2],[],64⟩)
   (fun t=>t.1<=n/\KN t.1 s1 t.2=some r1) (fun t=>t.1) (n,(0:Int)) ⟨Nat.le_refl _,h⟩ (by cbv) ?_
 clear h
 rintro⟨m1,z2⟩ ⟨hm1,h⟩
 replace hm1:m1<=n:=hm1
 obtain _ | m1:=m1
 ·replace h:KN 0 s1 z2=some r1:=h
  rw[KN]at h
  cases h
 replace h:KN (m1+1) s1 z2=some r1:=h
 rw[KN]at h
 try cbv
 refine AB ?_
 try cbv
 refine AH 7 [0,2,3,7] [] 192 (fun m b=>m<=m1/\L6 m s1 z2 b=some r1) ?_ ?_
 ·try cbv
  replace h:=Bu M h
  obtain⟨z3,hz,h⟩:=h
  refine⟨z3,hz,?_⟩
  clear hz
  try cbv
  refine Aa (fun e=>?_) (fun e=>?_)
  ·replace h:=AJ e h
   clear e
   try cbv
   exact AA (m1,true) [0,2,3,7] [] 192 ⟨by omega,h⟩ (by cbv)
  replace h:=AK (Int.not_lt.2 e) h
  clear e
  try cbv
  exact AA (m1,false) [0,2,3,7] [] 192 ⟨by omega,h⟩ (by cbv)
 clear h
 rintro⟨m2,b4⟩ ⟨hm2,h⟩
 try cbv
 replace hm2:m2<=m1:=hm2
 obtain _ | m2:=m2
 ·replace h:L6 0 s1 z2 b4=some r1:=h
  rw[L6]at h
  cases h
 replace h:L6 (m2+1) s1 z2 b4=some r1:=h
 rw[L6]at h
 try cbv
 cases b4
 ·replace h:=Ar h
  try cbv
  refine AB ?_
  try cbv
  obtain rfl:=Option.some.inj h
  refine AF ?_
  try cbv
  exact⟨[],by trivial⟩
 replace h:=Aq h
 try cbv
 refine AH 9 [0,2,3,9] [] 384 (fun m b=>m<=m2/\L7 m s1 z2 b=some r1) ?_ ?_
 ·try cbv
  replace h:=Cg h
  obtain⟨z5,hz,h⟩:=h
  refine⟨z5,hz,?_⟩
  clear hz
  try cbv
  replace h:=AG h
  obtain⟨z6,hr,h⟩:=h
  refine AD rfl rfl ?_
  try cbv
  refine AE hM hI (bC _ hr) rfl ?_
  clear hr
  try cbv
  refine BJ (fun e=>?_) (fun e=>?_)
  ·replace h:=AJ e h
   clear e
   try cbv
   exact AA (m2,true) [0,2,3,9] [] 384 ⟨by omega,h⟩ (by cbv)
  replace h:=AK (Int.not_le.2 e) h
  clear e
  try cbv
  exact AA (m2,false) [0,2,3,9] [] 384 ⟨by omega,h⟩ (by cbv)
 clear h
 rintro⟨m3,b7⟩ ⟨hm3,h⟩
 try cbv
 replace hm3:m3<=m2:=hm3
 obtain _ | m3:=m3
 ·replace h:L7 0 s1 z2 b7=some r1:=h
  rw[L7]at h
  cases h
 replace h:L7 (m3+1) s1 z2 b7=some r1:=h
 rw[L7]at h
 try cbv
 cases b7
 rotate_left
 ·replace h:=Aq h
  try cbv
  replace h:=AN h
  obtain⟨z8,hz,h⟩:=h
  refine⟨z8,hz,?_⟩
  clear hz
  try cbv
  exact An (m3,z8) [0,2,3] [] 64 ⟨by omega,h⟩ (Nat.lt_succ_of_le (by omega)) (by cbv)
 replace h:=Ar h
 try cbv
 refine AB ?_
 try cbv
 replace h:=FQ M h
 obtain⟨s9,hb,hz,h⟩:=h
 refine⟨s9,hb,hz,?_⟩
 clear hb hz
 try cbv
 replace h:=AG h
 obtain⟨b10,hr,h⟩:=h
 refine AD rfl rfl ?_
 try cbv
 refine AE hM hI (bD _ hr) rfl ?_
 clear hr
 try cbv
 cases b10
 ·replace h:=Ar h
  try cbv
  refine AB ?_
  try cbv
  obtain rfl:=Option.some.inj h
  refine AF ?_
  try cbv
  exact⟨[],by trivial⟩
 replace h:=Aq h
 try cbv
 replace h:=FQ M h
 obtain⟨s11,hb,hz,h⟩:=h
 refine⟨s11,hb,hz,?_⟩
 clear hb hz
 try cbv
 replace h:=AG h
 obtain⟨z12,hr,h⟩:=h
 refine AD rfl rfl ?_
 try cbv
 refine AE hM hI (dC _ hr) rfl ?_
 clear hr
 try cbv
 replace h:=AN h
 obtain⟨z13,hz,h⟩:=h
 refine⟨z13,hz,?_⟩
 clear hz
 try cbv
 exact An (m3,z13) [0,2,3] [] 64 ⟨by omega,h⟩ (Nat.lt_succ_of_le (by omega)) (by cbv)
mutual
def Ff:Nat->BA->Int->Option (Int)
 | 0,_,_=>none
 | n+1,s1,z2=>
  Jh s1 fun z3=>(if z2<z3 then NX s1 z2 fun z4=>bO1 (XN n z4) fun b5=>Fg n s1 z2 b5 else Fg n s1 z2 false)
def Fg:Nat->BA->Int->Bool->Option (Int)
 | 0,_,_,_=>none
 | n+1,s1,z2,b6=>
  (if b6=true then Al (IntKind.wrap .i64 (z2+1)) fun z7=>Ff n s1 z7 else some z2)
end
def Ue (n:Nat) (s1:BA):Option (Int):=
 Ff n s1 (0:Int)
theorem Yo (n:Nat):∀⦃s1 r1⦄,Ue n s1=some r1->
    AW Tryz.prog inv 66 [.d (.str s1),.c (.fn 74 [])] [] (.v (.d (.int .i64 r1))) [] []:=by
 intro s1 r1 h
 unfold Ue at h
 refine AW.of Ab AO Bp Tryz.func66 rfl (by kernel_rfl) rfl rfl rfl (fun M hM hI=>?_)
 try cbv
 refine AB ?_
 try cbv
 refine AB ?_
 try cbv
 refine AB ?_
 try cbv
 refine BF (T:=Nat×Int) [0,1,4,5] [] 64 (fun t=>⟨[sS 0 s1,(1,.v (.c (.fn 74 []))),sI 4 0,sI 5 t.2],[],64⟩)
   (fun t=>t.1<=n/\Ff t.1 s1 t.2=some r1) (fun t=>t.1) (n,(0:Int)) ⟨Nat.le_refl _,h⟩ (by cbv) ?_
 clear h
 rintro⟨m1,z2⟩ ⟨hm1,h⟩
 replace hm1:m1<=n:=hm1
 obtain _ | m1:=m1
 ·replace h:Ff 0 s1 z2=some r1:=h
  rw[Ff]at h
  cases h
 replace h:Ff (m1+1) s1 z2=some r1:=h
 rw[Ff]at h
 try cbv
 refine AB ?_
 try cbv
 refine AH 16 [0,1,4,5,16] [] 416 (fun m b=>m<=m1/\Fg m s1 z2 b=some r1) ?_ ?_
 ·try cbv
  replace h:=Bu M h
  obtain⟨z3,hz,h⟩:=h
  refine⟨z3,hz,?_⟩
  clear hz
  try cbv
  refine Aa (fun e=>?_) (fun e=>?_)
  ·replace h:=AJ e h
   clear e
   try cbv
   replace h:=Cg h
   obtain⟨z4,hz,h⟩:=h
   refine⟨z4,hz,?_⟩
   clear hz
   try cbv
   replace h:=AG h
   obtain⟨b5,hr,h⟩:=h
   refine AD rfl rfl ?_
   try cbv
   refine AE hM hI (Zs _ hr) rfl ?_
   clear hr
   try cbv
   exact AA (m1,b5) [0,1,4,5,16] [] 416 ⟨by omega,h⟩ (by cbv)
  replace h:=AK (Int.not_lt.2 e) h
  clear e
  try cbv
  exact AA (m1,false) [0,1,4,5,16] [] 416 ⟨by omega,h⟩ (by cbv)
 clear h
 rintro⟨m2,b6⟩ ⟨hm2,h⟩
 try cbv
 replace hm2:m2<=m1:=hm2
 obtain _ | m2:=m2
 ·replace h:Fg 0 s1 z2 b6=some r1:=h
  rw[Fg]at h
  cases h
 replace h:Fg (m2+1) s1 z2 b6=some r1:=h
 rw[Fg]at h
 try cbv
 cases b6
 ·replace h:=Ar h
  try cbv
  refine AB ?_
  try cbv
  obtain rfl:=Option.some.inj h
  refine AF ?_
  try cbv
  exact⟨[],by trivial⟩
 replace h:=Aq h
 try cbv
 replace h:=AN h
 obtain⟨z7,hz,h⟩:=h
 refine⟨z7,hz,?_⟩
 clear hz
 try cbv
 exact An (m2,z7) [0,1,4,5] [] 64 ⟨by omega,h⟩ (Nat.lt_succ_of_le (by omega)) (by cbv)
def Z9 (n:Nat) (s1:BA):Option (Bool):=
 (if s1=ByteArray.empty then some false else Jh s1 fun z2=>(if z2<=(16:Int)then NX s1 (0:Int) fun z3=>bO1 (XL n z3) fun b4=>(if b4=true then bO1 (Hk n s1) fun z5=>Jh s1 fun z6=>(if z5=z6 then bO1 (UN n s1) fun b7=>Ak (!b7) fun b8=>some b8 else some false)else some false)else some false))
theorem dD (n:Nat):∀⦃s1 r1⦄,Z9 n s1=some r1->
    AW Tryz.prog inv 97 [.d (.str s1),.c (.fn 68 [])] [] (.v (.d (.bool r1))) [] []:=by
 intro s1 r1 h
 unfold Z9 at h
 refine AW.of Ab AO Bp Tryz.func97 rfl (by kernel_rfl) rfl rfl rfl (fun M hM hI=>?_)
 try cbv
 refine AB ?_
 try cbv
 refine AB ?_
 try cbv
 refine Bb (fun e=>?_) (fun e=>?_)
 ·replace h:=AJ (BC.1 e) h
  clear e
  try cbv
  obtain rfl:=Option.some.inj h
  refine AF ?_
  try cbv
  exact⟨[],by trivial⟩
 replace h:=AK (BI.1 e) h
 clear e
 try cbv
 replace h:=Bu M h
 obtain⟨z2,hz,h⟩:=h
 refine⟨z2,hz,?_⟩
 clear hz
 try cbv
 refine BJ (fun e=>?_) (fun e=>?_)
 rotate_left
 ·replace h:=AK (Int.not_le.2 e) h
  clear e
  try cbv
  obtain rfl:=Option.some.inj h
  refine AF ?_
  try cbv
  exact⟨[],by trivial⟩
 replace h:=AJ e h
 clear e
 try cbv
 replace h:=Cg h
 obtain⟨z3,hz,h⟩:=h
 refine⟨z3,hz,?_⟩
 clear hz
 try cbv
 replace h:=AG h
 obtain⟨b4,hr,h⟩:=h
 refine AD rfl rfl ?_
 try cbv
 refine AE hM hI (Zq _ hr) rfl ?_
 clear hr
 try cbv
 cases b4
 ·replace h:=Ar h
  try cbv
  obtain rfl:=Option.some.inj h
  refine AF ?_
  try cbv
  exact⟨[],by trivial⟩
 replace h:=Aq h
 try cbv
 replace h:=AG h
 obtain⟨z5,hr,h⟩:=h
 refine AD rfl rfl ?_
 try cbv
 refine AE hM hI (UM _ hr) rfl ?_
 clear hr
 try cbv
 replace h:=Bu M h
 obtain⟨z6,hz,h⟩:=h
 refine⟨z6,hz,?_⟩
 clear hz
 try cbv
 refine Ah (fun e=>?_) (fun e=>?_)
 ·replace h:=AJ e h
  clear e
  try cbv
  replace h:=AG h
  obtain⟨b7,hr,h⟩:=h
  refine AD rfl rfl ?_
  try cbv
  refine AE hM hI (Zt _ hr) rfl ?_
  clear hr
  try cbv
  replace h:=AL h
  obtain⟨b8,hz,h⟩:=h
  refine⟨b8,AU hz,?_⟩
  clear hz
  try cbv
  obtain rfl:=Option.some.inj h
  refine AF ?_
  try cbv
  exact⟨[],by trivial⟩
 replace h:=AK e h
 clear e
 try cbv
 obtain rfl:=Option.some.inj h
 refine AF ?_
 try cbv
 exact⟨[],by trivial⟩
def aA (n:Nat) (s1:BA):Option (Bool):=
 bO1 (Z9 n s1) fun b2=>some b2
theorem dE (n:Nat):∀⦃s1 r1⦄,aA n s1=some r1->
    AW Tryz.prog inv 72 [.d (.str s1)] [] (.v (.d (.bool r1))) [] []:=by
 intro s1 r1 h
 unfold aA at h
 refine AW.of Ab AO Bp Tryz.func72 rfl (by kernel_rfl) rfl rfl rfl (fun M hM hI=>?_)
 try cbv
 refine AB ?_
 try cbv
 refine AB ?_
 try cbv
 replace h:=AG h
 obtain⟨b2,hr,h⟩:=h
 refine AD rfl rfl ?_
 try cbv
 refine AE hM hI (dD _ hr) rfl ?_
 clear hr
 try cbv
 obtain rfl:=Option.some.inj h
 refine AF ?_
 try cbv
 exact⟨[],by trivial⟩
def L8:Nat->Bool->Option (Int)
 | 0,_=>none
 | n+1,b10=>
  (if b10=true then some (1:Int)else some (0:Int))
mutual
def L9:Nat->BA->Int->Option (Int)
 | 0,_,_=>none
 | n+1,s1,z2=>
  (if z2<(3:Int)then MA n s1 z2 true else MA n s1 z2 false)
def MA:Nat->BA->Int->Bool->Option (Int)
 | 0,_,_,_=>none
 | n+1,s1,z2,b3=>
  (if b3=true then BT ([.str Tp,.str Tq,.str Qj]) z2 fun x4=>B7 x4 fun s5=>bO1 (ZT n s1 s5) fun b6=>(if b6=true then some (2:Int)else Al (IntKind.wrap .i64 (z2+1)) fun z7=>L9 n s1 z7)else NX s1 (0:Int) fun z8=>bO1 (ZS n HL z8) fun z9=>(if (0:Int)<=z9 then L8 n true else L8 n false))
end
def aB (n:Nat) (s1:BA):Option (Int):=
 L9 n s1 (0:Int)
theorem dF (n:Nat):∀⦃s1 r1⦄,aB n s1=some r1->
    AW Tryz.prog inv 76 [.d (.str s1)] [] (.v (.d (.int .i64 r1))) [] []:=by
 intro s1 r1 h
 unfold aB at h
 refine AW.of Ab AO Bp Tryz.func76 rfl (by kernel_rfl) rfl rfl rfl (fun M hM hI=>?_)
 try cbv
 refine AB ?_
 try cbv
 refine AB ?_
 try cbv
 refine AB ?_
 try cbv
 refine⟨false,?_⟩
 try cbv
 refine⟨true,?_⟩
 try cbv
 refine⟨3,(M.lenI_eq _).trans rfl,?_⟩
 try cbv
 refine BF (T:=Nat×Int) [0,2,5,6,7] [] 128 (fun t=>⟨[sS 0 s1,sI 2 0,(5,.v (.c (.tl false 1 ([.str Tp,.str Tq,.str Qj])))),sI 6 3,sI 7 t.2],[],128⟩)
   (fun t=>t.1<=n/\L9 t.1 s1 t.2=some r1) (fun t=>t.1) (n,(0:Int)) ⟨Nat.le_refl _,h⟩ (by cbv) ?_
 clear h
 rintro⟨m1,z2⟩ ⟨hm1,h⟩
 replace hm1:m1<=n:=hm1
 obtain _ | m1:=m1
 ·replace h:L9 0 s1 z2=some r1:=h
  rw[L9]at h
  cases h
 replace h:L9 (m1+1) s1 z2=some r1:=h
 rw[L9]at h
 try cbv
 refine AH 8 [0,2,5,6,7,8] [] 160 (fun m b=>m<=m1/\MA m s1 z2 b=some r1) ?_ ?_
 ·try cbv
  refine Aa (fun e=>?_) (fun e=>?_)
  ·replace h:=AJ e h
   clear e
   try cbv
   exact AA (m1,true) [0,2,5,6,7,8] [] 160 ⟨by omega,h⟩ (by cbv)
  replace h:=AK (Int.not_lt.2 e) h
  clear e
  try cbv
  exact AA (m1,false) [0,2,5,6,7,8] [] 160 ⟨by omega,h⟩ (by cbv)
 clear h
 rintro⟨m2,b3⟩ ⟨hm2,h⟩
 try cbv
 replace hm2:m2<=m1:=hm2
 obtain _ | m2:=m2
 ·replace h:MA 0 s1 z2 b3=some r1:=h
  rw[MA]at h
  cases h
 replace h:MA (m2+1) s1 z2 b3=some r1:=h
 rw[MA]at h
 try cbv
 refine AB ?_
 try cbv
 cases b3
 rotate_left
 ·replace h:=Aq h
  try cbv
  refine AB ?_
  try cbv
  refine AB ?_
  try cbv
  replace h:=Ae h
  obtain⟨x4,⟨hx0,hx⟩,h⟩:=h
  refine⟨x4,hx0,hx,?_⟩
  clear hx0 hx
  replace h:=B3 h
  obtain⟨s5,rfl,h⟩:=h
  try cbv
  refine AB ?_
  try cbv
  replace h:=AG h
  obtain⟨b6,hr,h⟩:=h
  refine AD rfl rfl ?_
  try cbv
  refine AE hM hI (bD _ hr) rfl ?_
  clear hr
  try cbv
  cases b6
  ·replace h:=Ar h
   try cbv
   replace h:=AN h
   obtain⟨z7,hz,h⟩:=h
   refine⟨z7,hz,?_⟩
   clear hz
   try cbv
   exact An (m2,z7) [0,2,5,6,7] [] 128 ⟨by omega,h⟩ (Nat.lt_succ_of_le (by omega)) (by cbv)
  replace h:=Aq h
  try cbv
  refine AB ?_
  try cbv
  obtain rfl:=Option.some.inj h
  refine AF ?_
  try cbv
  exact⟨[],by trivial⟩
 replace h:=Ar h
 try cbv
 refine AB ?_
 try cbv
 refine AH 18 [2,18] [] 288 (fun m b=>m<=m2/\L8 m b=some r1) ?_ ?_
 ·try cbv
  replace h:=Cg h
  obtain⟨z8,hz,h⟩:=h
  refine⟨z8,hz,?_⟩
  clear hz
  try cbv
  replace h:=AG h
  obtain⟨z9,hr,h⟩:=h
  refine AD rfl rfl ?_
  try cbv
  refine AE hM hI (bC _ hr) rfl ?_
  clear hr
  try cbv
  refine BJ (fun e=>?_) (fun e=>?_)
  ·replace h:=AJ e h
   clear e
   try cbv
   exact AA (m2,true) [2,18] [] 288 ⟨by omega,h⟩ (by cbv)
  replace h:=AK (Int.not_le.2 e) h
  clear e
  try cbv
  exact AA (m2,false) [2,18] [] 288 ⟨by omega,h⟩ (by cbv)
 clear h
 rintro⟨m3,b10⟩ ⟨hm3,h⟩
 try cbv
 replace hm3:m3<=m2:=hm3
 obtain _ | m3:=m3
 ·replace h:L8 0 b10=some r1:=h
  rw[L8]at h
  cases h
 replace h:L8 (m3+1) b10=some r1:=h
 rw[L8]at h
 try cbv
 cases b10
 ·replace h:=Ar h
  try cbv
  refine AB ?_
  try cbv
  obtain rfl:=Option.some.inj h
  refine AF ?_
  try cbv
  exact⟨[],by trivial⟩
 replace h:=Aq h
 try cbv
 refine AB ?_
 try cbv
 obtain rfl:=Option.some.inj h
 refine AF ?_
 try cbv
 exact⟨[],by trivial⟩
def Jc:Nat->BA->Int->Option (Int×BA)
 | 0,_,_=>none
 | n+1,s7,z11=>
  some (z11,s7)
def MB:Nat->BA->Int->Bool->Option (Int×BA)
 | 0,_,_,_=>none
 | n+1,s1,z15,b16=>
  (if b16=true then TO s1 (0:Int) z15 fun s17=>some ((5:Int),s17)else some ((0:Int),ByteArray.empty))
def MC:Nat->BA->Int->Bool->Option (Int×BA)
 | 0,_,_,_=>none
 | n+1,s1,z2,b5=>
  (if b5=true then bO1 (Hk n s1) fun z6=>TO s1 (0:Int) z6 fun s7=>bO1 (UN n s7) fun b8=>(if b8=true then Jc n s7 (1:Int)else bO1 (aA n s7) fun b9=>(if b9=true then Jc n s7 (2:Int)else bO1 (Yd n s7) fun b10=>(if b10=true then Jc n s7 (3:Int)else Jc n s7 (0:Int))))else bO1 (XN n z2) fun b12=>(if b12=true then bO1 (Ue n s1) fun z13=>TO s1 (0:Int) z13 fun s14=>none else bO1 (aB n s1) fun z15=>(if (0:Int)<z15 then MB n s1 z15 true else MB n s1 z15 false)))
def aC (n:Nat) (s1:BA):Option (Int×BA):=
 NX s1 (0:Int) fun z2=>bO1 (XL n z2) fun b3=>(if b3=true then MC n s1 z2 true else bO1 (XM n z2) fun b4=>MC n s1 z2 b4)
theorem dG (n:Nat):∀⦃s1 r1 r2⦄,aC n s1=some (r1,r2)->
    AW Tryz.prog inv 41 [.d (.str s1)] [] (.v (.d (.agg [.int .u8 r1,.str r2,.int .i64 0]))) [] []:=by
 intro s1 r1 r2 h
 unfold aC at h
 refine AW.of Ab AO Bp Tryz.func41 rfl (by kernel_rfl) rfl rfl rfl (fun M hM hI=>?_)
 try cbv
 refine AB ?_
 try cbv
 refine AB ?_
 try cbv
 refine AB ?_
 try cbv
 replace h:=Cg h
 obtain⟨z2,hz,h⟩:=h
 refine⟨z2,hz,?_⟩
 clear hz
 try cbv
 refine AH 11 [0,2,3,11] [.loc 0] 352 (fun m b=>m<=n/\MC m s1 z2 b=some (r1,r2)) ?_ ?_
 ·try cbv
  replace h:=AG h
  obtain⟨b3,hr,h⟩:=h
  refine AD rfl rfl ?_
  try cbv
  refine AE hM hI (Zq _ hr) rfl ?_
  clear hr
  try cbv
  cases b3
  ·replace h:=Ar h
   try cbv
   replace h:=AG h
   obtain⟨b4,hr,h⟩:=h
   refine AD rfl rfl ?_
   try cbv
   refine AE hM hI (Zr _ hr) rfl ?_
   clear hr
   try cbv
   exact AA (n,b4) [0,2,3,11] [.loc 0] 352 ⟨by omega,h⟩ (by cbv)
  replace h:=Aq h
  try cbv
  exact AA (n,true) [0,2,3,11] [.loc 0] 352 ⟨by omega,h⟩ (by cbv)
 clear h
 rintro⟨m1,b5⟩ ⟨hm1,h⟩
 try cbv
 replace hm1:m1<=n:=hm1
 obtain _ | m1:=m1
 ·replace h:MC 0 s1 z2 b5=some (r1,r2):=h
  rw[MC]at h
  cases h
 replace h:MC (m1+1) s1 z2 b5=some (r1,r2):=h
 rw[MC]at h
 try cbv
 cases b5
 ·replace h:=Ar h
  try cbv
  refine AB ?_
  try cbv
  replace h:=AG h
  obtain⟨b12,hr,h⟩:=h
  refine AD rfl rfl ?_
  try cbv
  refine AE hM hI (Zs _ hr) rfl ?_
  clear hr
  try cbv
  cases b12
  rotate_left
  ·replace h:=Aq h
   try cbv
   refine AB ?_
   try cbv
   replace h:=AG h
   obtain⟨z13,hr,h⟩:=h
   refine AD rfl rfl ?_
   try cbv
   refine AE hM hI (Yo _ hr) rfl ?_
   clear hr
   try cbv
   replace h:=Ll M h
   obtain⟨s14,hb,hz,h⟩:=h
   refine⟨s14,hb,hz,?_⟩
   clear hb hz
   try cbv
   refine AB ?_
   try cbv
   refine AB ?_
   try cbv
   cases h
  replace h:=Ar h
  try cbv
  refine AB ?_
  try cbv
  refine AB ?_
  try cbv
  replace h:=AG h
  obtain⟨z15,hr,h⟩:=h
  refine AD rfl rfl ?_
  try cbv
  refine AE hM hI (dF _ hr) rfl ?_
  clear hr
  try cbv
  refine AH 60 [0,2,8,60] [.loc 0] 608 (fun m b=>m<=m1/\MB m s1 z15 b=some (r1,r2)) ?_ ?_
  ·try cbv
   refine Aa (fun e=>?_) (fun e=>?_)
   ·replace h:=AJ e h
    clear e
    try cbv
    exact AA (m1,true) [0,2,8,60] [.loc 0] 608 ⟨by omega,h⟩ (by cbv)
   replace h:=AK (Int.not_lt.2 e) h
   clear e
   try cbv
   exact AA (m1,false) [0,2,8,60] [.loc 0] 608 ⟨by omega,h⟩ (by cbv)
  clear h
  rintro⟨m3,b16⟩ ⟨hm3,h⟩
  try cbv
  replace hm3:m3<=m1:=hm3
  obtain _ | m3:=m3
  ·replace h:MB 0 s1 z15 b16=some (r1,r2):=h
   rw[MB]at h
   cases h
  replace h:MB (m3+1) s1 z15 b16=some (r1,r2):=h
  rw[MB]at h
  try cbv
  cases b16
  ·replace h:=Ar h
   try cbv
   refine AB ?_
   try cbv
   obtain⟨rfl,rfl⟩:=En h
   refine AF ?_
   try cbv
   exact⟨[],by trivial⟩
  replace h:=Aq h
  try cbv
  refine AB ?_
  try cbv
  replace h:=Ll M h
  obtain⟨s17,hb,hz,h⟩:=h
  refine⟨s17,hb,hz,?_⟩
  clear hb hz
  try cbv
  obtain⟨rfl,rfl⟩:=En h
  refine AF ?_
  try cbv
  exact⟨[],by trivial⟩
 replace h:=Aq h
 try cbv
 refine AB ?_
 try cbv
 replace h:=AG h
 obtain⟨z6,hr,h⟩:=h
 refine AD rfl rfl ?_
 try cbv
 refine AE hM hI (UM _ hr) rfl ?_
 clear hr
 try cbv
 replace h:=Ll M h
 obtain⟨s7,hb,hz,h⟩:=h
 refine⟨s7,hb,hz,?_⟩
 clear hb hz
 try cbv
 refine Aw (T:=Nat×Int) (fun t=>⟨[sS 0 s1,sL 2 0,sU 3 z2,sL 4 512],[(.loc 0,.cells [.d (.int .u8 0),.d (.str ByteArray.empty),.d (.int .i64 0)]),(.loc 512,.cells [.d (.int .u8 t.2),.d (.str s7),.d (.int .i64 0)])],1024⟩) (fun t=>t.1<=m1/\Jc t.1 s7 t.2=some (r1,r2)) ?_ ?_
 rotate_left
 ·clear h
  rintro⟨m2,z11⟩ ⟨hm2,h⟩
  replace hm2:m2<=m1:=hm2
  obtain _ | m2:=m2
  ·replace h:Jc 0 s7 z11=some (r1,r2):=h
   rw[Jc]at h
   cases h
  replace h:Jc (m2+1) s7 z11=some (r1,r2):=h
  rw[Jc]at h
  try cbv
  refine AB ?_
  try cbv
  obtain⟨rfl,rfl⟩:=En h
  refine AF ?_
  try cbv
  exact⟨[],by trivial⟩
 try cbv
 refine AB ?_
 try cbv
 replace h:=AG h
 obtain⟨b8,hr,h⟩:=h
 refine AD rfl rfl ?_
 try cbv
 refine AE hM hI (Zt _ hr) rfl ?_
 clear hr
 try cbv
 cases b8
 rotate_left
 ·replace h:=Aq h
  try cbv
  exact AA (m1,(1:Int)) [0,2,3,4] [.loc 0,.loc 512] 1024 ⟨by omega,h⟩ (by cbv)
 replace h:=Ar h
 try cbv
 refine AB ?_
 try cbv
 replace h:=AG h
 obtain⟨b9,hr,h⟩:=h
 refine AD rfl rfl ?_
 try cbv
 refine AE hM hI (dE _ hr) rfl ?_
 clear hr
 try cbv
 cases b9
 rotate_left
 ·replace h:=Aq h
  try cbv
  exact AA (m1,(2:Int)) [0,2,3,4] [.loc 0,.loc 512] 1024 ⟨by omega,h⟩ (by cbv)
 replace h:=Ar h
 try cbv
 refine AB ?_
 try cbv
 replace h:=AG h
 obtain⟨b10,hr,h⟩:=h
 refine AD rfl rfl ?_
 try cbv
 refine AE hM hI (bJ _ hr) rfl ?_
 clear hr
 try cbv
 cases b10
 ·replace h:=Ar h
  try cbv
  exact AA (m1,(0:Int)) [0,2,3,4] [.loc 0,.loc 512] 1024 ⟨by omega,h⟩ (by cbv)
 replace h:=Aq h
 try cbv
 exact AA (m1,(3:Int)) [0,2,3,4] [.loc 0,.loc 512] 1024 ⟨by omega,h⟩ (by cbv)
def MD:Nat->LD->Bool->Option (LD×Int×Int)
 | 0,_,_=>none
 | n+1,l5,b20=>
  (if b20=true then some (([]:LD),(0:Int),(4:Int))else some (l5,(0:Int),(0:Int)))
mutual
def ME:Nat->BA->LD->Int->Option (LD×Int×Int)
 | 0,_,_,_=>none
 | n+1,s1,l5,z6=>
  Jh s1 fun z7=>(if z6<z7 then MF n s1 l5 z6 true else MF n s1 l5 z6 false)
def MF:Nat->BA->LD->Int->Bool->Option (LD×Int×Int)
 | 0,_,_,_,_=>none
 | n+1,s1,l5,z6,b8=>
  (if b8=true then Jx s1 z6 fun s9=>bO2 (aC n s9) fun z10 s11=>(if z10=(0:Int)then MG n s1 l5 z6 z10 s11 true else MG n s1 l5 z6 z10 s11 false)else Ad l5 fun z19=>(if (1500:Int)<z19 then MD n l5 true else MD n l5 false))
def MG:Nat->BA->LD->Int->Int->BA->Bool->Option (LD×Int×Int)
 | 0,_,_,_,_,_,_=>none
 | n+1,s1,l5,z6,z10,s11,b12=>
  (if b12=true then some (([]:LD),z6,(20:Int))else D3 32 l5 ([.agg [.int .u8 z10,.str s11,.int .i64 z6]]) fun l13=>Jh s11 fun z14=>Al (IntKind.wrap .i64 (z6+z14)) fun z15=>Jx s1 z15 fun s16=>bO1 (ZD n s16) fun z17=>Al (IntKind.wrap .i64 (z15+z17)) fun z18=>ME n s1 l13 z18)
end
def MH:Nat->BA->Bool->Option (LD×Int×Int)
 | 0,_,_=>none
 | n+1,s1,b3=>
  (if b3=true then some (([]:LD),(0:Int),(3:Int))else bO1 (ZD n s1) fun z4=>ME n s1 ([]:LD) z4)
def aD (n:Nat) (s1:BA):Option (LD×Int×Int):=
 Jh s1 fun z2=>(if (4000:Int)<z2 then MH n s1 true else MH n s1 false)
theorem dH (n:Nat):∀⦃s1 r1 r2 r3⦄,aD n s1=some (r1,r2,r3)->
    AW Tryz.prog inv 23 [.d (.str s1)] [] (.t [.d (.list true 3 r1),.d (.int .i64 r2),.d (.int .i64 r3)]) [] []:=by
 intro s1 r1 r2 r3 h
 unfold aD at h
 refine AW.of Ab AO Bp Tryz.func23 rfl (by kernel_rfl) rfl rfl rfl (fun M hM hI=>?_)
 try cbv
 refine AB ?_
 try cbv
 refine AB ?_
 try cbv
 refine AH 10 [0,2,3,4,10] [] 192 (fun m b=>m<=n/\MH m s1 b=some (r1,r2,r3)) ?_ ?_
 ·try cbv
  replace h:=Bu M h
  obtain⟨z2,hz,h⟩:=h
  refine⟨z2,hz,?_⟩
  clear hz
  try cbv
  refine Aa (fun e=>?_) (fun e=>?_)
  ·replace h:=AJ e h
   clear e
   try cbv
   exact AA (n,true) [0,2,3,4,10] [] 192 ⟨by omega,h⟩ (by cbv)
  replace h:=AK (Int.not_lt.2 e) h
  clear e
  try cbv
  exact AA (n,false) [0,2,3,4,10] [] 192 ⟨by omega,h⟩ (by cbv)
 clear h
 rintro⟨m1,b3⟩ ⟨hm1,h⟩
 try cbv
 replace hm1:m1<=n:=hm1
 obtain _ | m1:=m1
 ·replace h:MH 0 s1 b3=some (r1,r2,r3):=h
  rw[MH]at h
  cases h
 replace h:MH (m1+1) s1 b3=some (r1,r2,r3):=h
 rw[MH]at h
 try cbv
 cases b3
 rotate_left
 ·replace h:=Aq h
  try cbv
  refine AB ?_
  try cbv
  obtain⟨rfl,rfl,rfl⟩:=Pd h
  refine AF ?_
  try cbv
  exact⟨[],by trivial⟩
 replace h:=Ar h
 try cbv
 refine AB ?_
 try cbv
 refine AB ?_
 try cbv
 refine AB ?_
 try cbv
 replace h:=AG h
 obtain⟨z4,hr,h⟩:=h
 refine AD rfl rfl ?_
 try cbv
 refine AE hM hI (bN _ hr) rfl ?_
 clear hr
 try cbv
 refine D7 (T:=Nat×LD×Int) [.slot 5 true 3 78] [0,2,3,4,5,6] [.loc 320] 352 (fun t=>⟨[sS 0 s1,(2,.v (.c (.nils true 3))),sI 3 0,sI 4 0,(5,.v (.c (.lst (.loc 320) true 3 t.2.1))),sI 6 t.2.2],[(.loc 320,.tok t.2.1.length 3 78)],352⟩)
   (fun t=>t.1<=m1/\ME t.1 s1 t.2.1 t.2.2=some (r1,r2,r3)) (fun t=>t.1) (m1,(([]:LD),z4)) ⟨Nat.le_refl _,h⟩ (by cbv) ?_
 clear h
 rintro⟨m2,l5,z6⟩ ⟨hm2,h⟩
 replace hm2:m2<=m1:=hm2
 obtain _ | m2:=m2
 ·replace h:ME 0 s1 l5 z6=some (r1,r2,r3):=h
  rw[ME]at h
  cases h
 replace h:ME (m2+1) s1 l5 z6=some (r1,r2,r3):=h
 rw[ME]at h
 try cbv
 refine AB ?_
 try cbv
 refine AH 16 [0,2,3,4,5,6,16] [.loc 320] 480 (fun m b=>m<=m2/\MF m s1 l5 z6 b=some (r1,r2,r3)) ?_ ?_
 ·try cbv
  replace h:=Bu M h
  obtain⟨z7,hz,h⟩:=h
  refine⟨z7,hz,?_⟩
  clear hz
  try cbv
  refine Aa (fun e=>?_) (fun e=>?_)
  ·replace h:=AJ e h
   clear e
   try cbv
   exact AA (m2,true) [0,2,3,4,5,6,16] [.loc 320] 480 ⟨by omega,h⟩ (by cbv)
  replace h:=AK (Int.not_lt.2 e) h
  clear e
  try cbv
  exact AA (m2,false) [0,2,3,4,5,6,16] [.loc 320] 480 ⟨by omega,h⟩ (by cbv)
 clear h
 rintro⟨m3,b8⟩ ⟨hm3,h⟩
 try cbv
 replace hm3:m3<=m2:=hm3
 obtain _ | m3:=m3
 ·replace h:MF 0 s1 l5 z6 b8=some (r1,r2,r3):=h
  rw[MF]at h
  cases h
 replace h:MF (m3+1) s1 l5 z6 b8=some (r1,r2,r3):=h
 rw[MF]at h
 try cbv
 cases b8
 ·replace h:=Ar h
  try cbv
  refine AB ?_
  try cbv
  refine AH 44 [2,3,4,5,44] [.loc 320] 576 (fun m b=>m<=m3/\MD m l5 b=some (r1,r2,r3)) ?_ ?_
  ·try cbv
   replace h:=AP M h
   obtain⟨z19,hz,h⟩:=h
   refine⟨z19,hz,?_⟩
   clear hz
   try cbv
   refine Aa (fun e=>?_) (fun e=>?_)
   ·replace h:=AJ e h
    clear e
    try cbv
    exact AA (m3,true) [2,3,4,5,44] [.loc 320] 576 ⟨by omega,h⟩ (by cbv)
   replace h:=AK (Int.not_lt.2 e) h
   clear e
   try cbv
   exact AA (m3,false) [2,3,4,5,44] [.loc 320] 576 ⟨by omega,h⟩ (by cbv)
  clear h
  rintro⟨m5,b20⟩ ⟨hm5,h⟩
  try cbv
  replace hm5:m5<=m3:=hm5
  obtain _ | m5:=m5
  ·replace h:MD 0 l5 b20=some (r1,r2,r3):=h
   rw[MD]at h
   cases h
  replace h:MD (m5+1) l5 b20=some (r1,r2,r3):=h
  rw[MD]at h
  try cbv
  cases b20
  ·replace h:=Ar h
   try cbv
   refine AB ?_
   try cbv
   obtain⟨rfl,rfl,rfl⟩:=Pd h
   refine AF ?_
   try cbv
   exact⟨[],by trivial⟩
  replace h:=Aq h
  try cbv
  refine AB ?_
  try cbv
  obtain⟨rfl,rfl,rfl⟩:=Pd h
  refine AF ?_
  try cbv
  exact⟨[],by trivial⟩
 replace h:=Aq h
 try cbv
 refine AB ?_
 try cbv
 replace h:=FQ M h
 obtain⟨s9,hb,hz,h⟩:=h
 refine⟨s9,hb,hz,?_⟩
 clear hb hz
 try cbv
 replace h:=DT h
 obtain⟨z10,s11,hr,h⟩:=h
 refine AD rfl rfl ?_
 try cbv
 refine AE hM hI (dG _ hr) rfl ?_
 clear hr
 try cbv
 refine AB ?_
 try cbv
 refine AH 23 [0,2,3,4,5,6,7,23] [.loc 320,.loc 608] 768 (fun m b=>m<=m3/\MG m s1 l5 z6 z10 s11 b=some (r1,r2,r3)) ?_ ?_
 ·try cbv
  refine Ah (fun e=>?_) (fun e=>?_)
  ·replace h:=AJ e h
   clear e
   try cbv
   exact AA (m3,true) [0,2,3,4,5,6,7,23] [.loc 320,.loc 608] 768 ⟨by omega,h⟩ (by cbv)
  replace h:=AK e h
  clear e
  try cbv
  exact AA (m3,false) [0,2,3,4,5,6,7,23] [.loc 320,.loc 608] 768 ⟨by omega,h⟩ (by cbv)
 clear h
 rintro⟨m4,b12⟩ ⟨hm4,h⟩
 try cbv
 replace hm4:m4<=m3:=hm4
 obtain _ | m4:=m4
 ·replace h:MG 0 s1 l5 z6 z10 s11 b12=some (r1,r2,r3):=h
  rw[MG]at h
  cases h
 replace h:MG (m4+1) s1 l5 z6 z10 s11 b12=some (r1,r2,r3):=h
 rw[MG]at h
 try cbv
 cases b12
 rotate_left
 ·replace h:=Aq h
  try cbv
  refine AB ?_
  try cbv
  obtain⟨rfl,rfl,rfl⟩:=Pd h
  refine AF ?_
  try cbv
  exact⟨[],by trivial⟩
 replace h:=Ar h
 try cbv
 refine AB ?_
 try cbv
 refine AB ?_
 try cbv
 refine⟨false,?_⟩
 try cbv
 refine⟨true,?_⟩
 try cbv
 replace h:=B2 h
 obtain⟨l13,hb,hz,h⟩:=h
 refine⟨false,?_⟩
 try cbv
 first | refine⟨rfl,(M.lock_iff _).2 hb,l13,hz,?_⟩ | refine⟨(M.lock_iff _).2 hb,l13,hz,?_⟩
 clear hb hz
 try cbv
 refine AB ?_
 try cbv
 replace h:=Bu M h
 obtain⟨z14,hz,h⟩:=h
 refine⟨z14,hz,?_⟩
 clear hz
 try cbv
 replace h:=AN h
 obtain⟨z15,hz,h⟩:=h
 refine⟨z15,hz,?_⟩
 clear hz
 try cbv
 replace h:=FQ M h
 obtain⟨s16,hb,hz,h⟩:=h
 refine⟨s16,hb,hz,?_⟩
 clear hb hz
 try cbv
 replace h:=AG h
 obtain⟨z17,hr,h⟩:=h
 refine AD rfl rfl ?_
 try cbv
 refine AE hM hI (bN _ hr) rfl ?_
 clear hr
 try cbv
 replace h:=AN h
 obtain⟨z18,hz,h⟩:=h
 refine⟨z18,hz,?_⟩
 clear hz
 try cbv
 exact An (m4,(l13,z18)) [0,2,3,4,5,6] [.loc 320] 352 ⟨by omega,h⟩ (Nat.lt_succ_of_le (by omega)) (by cbv)
def XY (n:Nat) (z1:Int) (z2:Int):Option LD:=
 some [.agg [.int .i64 z1,.int .i64 z2]]
theorem Yp (n:Nat):∀⦃z1 z2 r1⦄,XY n z1 z2=some r1->
    AW Tryz.prog inv 24 [.d (.int .i64 z1),.d (.int .i64 z2)] [] (.v (.d (.list true 2 r1))) [] []:=by
 intro z1 z2 r1 h
 unfold XY at h
 refine AW.of Ab AO Bp Tryz.func24 rfl (by kernel_rfl) rfl rfl rfl (fun M hM hI=>?_)
 try cbv
 refine AB ?_
 try cbv
 refine AB ?_
 try cbv
 refine⟨false,?_⟩
 try cbv
 refine⟨true,?_⟩
 try cbv
 obtain rfl:=Option.some.inj h
 refine AF ?_
 try cbv
 exact⟨[],by trivial⟩
def MI:Nat->LD->Int->Bool->Bool->Bool->Option (Int×LD×Int×Bool×Bool)
 | 0,_,_,_,_,_=>none
 | n+1,l1,z2,b3,b4,b6=>
  (if b6=true then BT l1 z2 fun x7=>GX x7 fun z8 s9 z10=>some (z10,l1,z2,b3,b4)else some ((0:Int),l1,z2,b3,b4))
def aE (n:Nat) (l1:LD) (z2:Int) (b3:Bool) (b4:Bool):Option (Int×LD×Int×Bool×Bool):=
 Ad l1 fun z5=>(if z2<z5 then MI n l1 z2 b3 b4 true else MI n l1 z2 b3 b4 false)
theorem dI (n:Nat):∀⦃l1 z2 b3 b4 r1 r2 r3 r4 r5⦄,aE n l1 z2 b3 b4=some (r1,r2,r3,r4,r5)->
    AW Tryz.prog inv 42 [.c (.ptr (.ext 0) 0)] [.cells [.d (.list true 3 l1),.d (.int .i64 z2),.d (.bool b3),.d (.bool b4)]] (.v (.d (.int .i64 r1))) [.cells [.d (.list true 3 r2),.d (.int .i64 r3),.d (.bool r4),.d (.bool r5)]] []:=by
 intro l1 z2 b3 b4 r1 r2 r3 r4 r5 h
 unfold aE at h
 refine AW.of Ab AO Bp Tryz.func42 rfl (by kernel_rfl) rfl rfl rfl (fun M hM hI=>?_)
 try cbv
 refine AB ?_
 try cbv
 refine AB ?_
 try cbv
 refine AH 12 [0,2,12] [.ext 0] 352 (fun m b=>m<=n/\MI m l1 z2 b3 b4 b=some (r1,r2,r3,r4,r5)) ?_ ?_
 ·try cbv
  replace h:=AP M h
  obtain⟨z5,hz,h⟩:=h
  refine⟨z5,hz,?_⟩
  clear hz
  try cbv
  refine Aa (fun e=>?_) (fun e=>?_)
  ·replace h:=AJ e h
   clear e
   try cbv
   refine drawn ?_ ?_
   ·show _=true
    kernel_rfl
   try cbv
   exact AA (n,true) [0,2,12] [.ext 0] 352 ⟨by omega,h⟩ (by cbv)
  replace h:=AK (Int.not_lt.2 e) h
  clear e
  try cbv
  refine drawn ?_ ?_
  ·show _=true
   kernel_rfl
  try cbv
  exact AA (n,false) [0,2,12] [.ext 0] 352 ⟨by omega,h⟩ (by cbv)
 clear h
 rintro⟨m1,b6⟩ ⟨hm1,h⟩
 try cbv
 replace hm1:m1<=n:=hm1
 obtain _ | m1:=m1
 ·replace h:MI 0 l1 z2 b3 b4 b6=some (r1,r2,r3,r4,r5):=h
  rw[MI]at h
  cases h
 replace h:MI (m1+1) l1 z2 b3 b4 b6=some (r1,r2,r3,r4,r5):=h
 rw[MI]at h
 try cbv
 cases b6
 ·replace h:=Ar h
  try cbv
  refine AB ?_
  try cbv
  obtain⟨rfl,rfl,rfl,rfl,rfl⟩:=IC h
  refine AF ?_
  try cbv
  exact⟨[],rfl,rfl,⟨rfl,trivial⟩,trivial,trivial⟩
 replace h:=Aq h
 try cbv
 refine AB ?_
 try cbv
 replace h:=Ae h
 obtain⟨x7,⟨hx0,hx⟩,h⟩:=h
 refine⟨x7,hx0,hx,?_⟩
 clear hx0 hx
 replace h:=Dk h
 obtain⟨z8,s9,z10,rfl,h⟩:=h
 try cbv
 refine drawn ?_ ?_
 ·show _=true
  kernel_rfl
 try cbv
 obtain⟨rfl,rfl,rfl,rfl,rfl⟩:=IC h
 refine AF ?_
 try cbv
 exact⟨[],rfl,rfl,⟨rfl,trivial⟩,trivial,trivial⟩
def aF (n:Nat) (s1:BA) (z2:Int) (l3:LD) (z4:Int) (b5:Bool) (b6:Bool):Option (Bool×LD×Int×Bool×Bool):=
 Ak (!b5) fun b7=>(if b7=true then Al (IntKind.wrap .i64 (z4+z2)) fun z8=>Ad l3 fun z9=>(if z8<z9 then Al (IntKind.wrap .i64 (z4+z2)) fun z10=>BT l3 z10 fun x11=>GX x11 fun z12 s13 z14=>(if s13=s1 then some (true,l3,z4,b5,b6)else some (false,l3,z4,b5,b6))else some (false,l3,z4,b5,b6))else some (false,l3,z4,b5,b6))
theorem dJ (n:Nat):∀⦃s1 z2 l3 z4 b5 b6 r1 r2 r3 r4 r5⦄,aF n s1 z2 l3 z4 b5 b6=some (r1,r2,r3,r4,r5)->
    AW Tryz.prog inv 77 [.c (.ptr (.ext 0) 0),.d (.str s1),.d (.int .i64 z2)] [.cells [.d (.list true 3 l3),.d (.int .i64 z4),.d (.bool b5),.d (.bool b6)]] (.v (.d (.bool r1))) [.cells [.d (.list true 3 r2),.d (.int .i64 r3),.d (.bool r4),.d (.bool r5)]] []:=by
 intro s1 z2 l3 z4 b5 b6 r1 r2 r3 r4 r5 h
 unfold aF at h
 refine AW.of Ab AO Bp Tryz.func77 rfl (by kernel_rfl) rfl rfl rfl (fun M hM hI=>?_)
 try cbv
 refine AB ?_
 try cbv
 refine AB ?_
 try cbv
 replace h:=AL h
 obtain⟨b7,hz,h⟩:=h
 refine⟨b7,AU hz,?_⟩
 clear hz
 try cbv
 cases b7
 ·replace h:=Ar h
  try cbv
  refine drawn ?_ ?_
  ·show _=true
   kernel_rfl
  try cbv
  obtain⟨rfl,rfl,rfl,rfl,rfl⟩:=IC h
  refine AF ?_
  try cbv
  exact⟨[],rfl,rfl,⟨rfl,trivial⟩,trivial,trivial⟩
 replace h:=Aq h
 try cbv
 replace h:=AN h
 obtain⟨z8,hz,h⟩:=h
 refine⟨z8,hz,?_⟩
 clear hz
 try cbv
 replace h:=AP M h
 obtain⟨z9,hz,h⟩:=h
 refine⟨z9,hz,?_⟩
 clear hz
 try cbv
 refine Aa (fun e=>?_) (fun e=>?_)
 rotate_left
 ·replace h:=AK (Int.not_lt.2 e) h
  clear e
  try cbv
  refine drawn ?_ ?_
  ·show _=true
   kernel_rfl
  try cbv
  obtain⟨rfl,rfl,rfl,rfl,rfl⟩:=IC h
  refine AF ?_
  try cbv
  exact⟨[],rfl,rfl,⟨rfl,trivial⟩,trivial,trivial⟩
 replace h:=AJ e h
 clear e
 try cbv
 replace h:=AN h
 obtain⟨z10,hz,h⟩:=h
 refine⟨z10,hz,?_⟩
 clear hz
 try cbv
 replace h:=Ae h
 obtain⟨x11,⟨hx0,hx⟩,h⟩:=h
 refine⟨x11,hx0,hx,?_⟩
 clear hx0 hx
 replace h:=Dk h
 obtain⟨z12,s13,z14,rfl,h⟩:=h
 try cbv
 refine Bb (fun e=>?_) (fun e=>?_)
 ·replace h:=AJ (BC.1 e) h
  clear e
  try cbv
  refine drawn ?_ ?_
  ·show _=true
   kernel_rfl
  try cbv
  obtain⟨rfl,rfl,rfl,rfl,rfl⟩:=IC h
  refine AF ?_
  try cbv
  exact⟨[],rfl,rfl,⟨rfl,trivial⟩,trivial,trivial⟩
 replace h:=AK (BI.1 e) h
 clear e
 try cbv
 refine drawn ?_ ?_
 ·show _=true
  kernel_rfl
 try cbv
 obtain⟨rfl,rfl,rfl,rfl,rfl⟩:=IC h
 refine AF ?_
 try cbv
 exact⟨[],rfl,rfl,⟨rfl,trivial⟩,trivial,trivial⟩
def MJ:Nat->LD->Bool->Bool->Bool->Int->Option (Bool×LD×Int×Bool×Bool)
 | 0,_,_,_,_,_=>none
 | n+1,l7,b9,b10,b12,z13=>
  some (b12,l7,z13,b9,b10)
def Uf (n:Nat) (s1:BA) (l2:LD) (z3:Int) (b4:Bool) (b5:Bool):Option (Bool×LD×Int×Bool×Bool):=
 bO5 (aF n s1 (0:Int) l2 z3 b4 b5) fun b6 l7 z8 b9 b10=>(if b6=true then Al (IntKind.wrap .i64 (z8+1)) fun z11=>MJ n l7 b9 b10 true z11 else MJ n l7 b9 b10 false z8)
theorem Vo (n:Nat):∀⦃s1 l2 z3 b4 b5 r1 r2 r3 r4 r5⦄,Uf n s1 l2 z3 b4 b5=some (r1,r2,r3,r4,r5)->
    AW Tryz.prog inv 43 [.c (.ptr (.ext 0) 0),.d (.str s1)] [.cells [.d (.list true 3 l2),.d (.int .i64 z3),.d (.bool b4),.d (.bool b5)]] (.v (.d (.bool r1))) [.cells [.d (.list true 3 r2),.d (.int .i64 r3),.d (.bool r4),.d (.bool r5)]] []:=by
 intro s1 l2 z3 b4 b5 r1 r2 r3 r4 r5 h
 unfold Uf at h
 refine AW.of Ab AO Bp Tryz.func43 rfl (by kernel_rfl) rfl rfl rfl (fun M hM hI=>?_)
 try cbv
 refine AB ?_
 try cbv
 refine AB ?_
 try cbv
 replace h:=Bk h
 obtain⟨b6,l7,z8,b9,b10,hr,h⟩:=h
 refine AD rfl rfl ?_
 try cbv
 refine AI hM hI [.ext 0] (dJ _ hr) rfl (by simp) ⟨rfl,trivial⟩ ⟨trivial,trivial⟩ (by simp) ?_
 clear hr
 try cbv
 refine Aw (T:=Nat×Bool×Int) (fun t=>⟨[sB 4 false,sB 5 t.2.1],[(.ext 0,.cells [.d (.list true 3 l7),.d (.int .i64 t.2.2),.d (.bool b9),.d (.bool b10)])],448⟩) (fun t=>t.1<=n/\MJ t.1 l7 b9 b10 t.2.1 t.2.2=some (r1,r2,r3,r4,r5)) ?_ ?_
 ·try cbv
  refine AB ?_
  try cbv
  cases b6
  ·replace h:=Ar h
   try cbv
   exact AA (n,(false,z8)) [4,5] [.ext 0] 448 ⟨by omega,h⟩ (by cbv)
  replace h:=Aq h
  try cbv
  replace h:=AN h
  obtain⟨z11,hz,h⟩:=h
  refine⟨z11,hz,?_⟩
  clear hz
  try cbv
  exact AA (n,(true,z11)) [4,5] [.ext 0] 448 ⟨by omega,h⟩ (by cbv)
 clear h
 rintro⟨m1,b12,z13⟩ ⟨hm1,h⟩
 replace hm1:m1<=n:=hm1
 obtain _ | m1:=m1
 ·replace h:MJ 0 l7 b9 b10 b12 z13=some (r1,r2,r3,r4,r5):=h
  rw[MJ]at h
  cases h
 replace h:MJ (m1+1) l7 b9 b10 b12 z13=some (r1,r2,r3,r4,r5):=h
 rw[MJ]at h
 try cbv
 refine AB ?_
 try cbv
 obtain⟨rfl,rfl,rfl,rfl,rfl⟩:=IC h
 refine AF ?_
 try cbv
 exact⟨[],rfl,rfl,⟨rfl,trivial⟩,trivial,trivial⟩
def Jd:Nat->LD->Int->Bool->Bool->Bool->Option (BA×LD×Int×Bool×Bool)
 | 0,_,_,_,_,_=>none
 | n+1,l2,z3,b5,b11,b12=>
  (if b11=true then some (ByteArray.empty,l2,z3,true,b5)else Al (IntKind.wrap .i64 (z3+1)) fun z13=>Al (IntKind.wrap .i64 (z13 - 1)) fun z14=>BT l2 z14 fun x15=>GX x15 fun z16 s17 z18=>some (s17,l2,z13,b12,b5))
def Yq (n:Nat) (z1:Int) (l2:LD) (z3:Int) (b4:Bool) (b5:Bool):Option (BA×LD×Int×Bool×Bool):=
 (if b4=true then Jd n l2 z3 b5 true true else Ad l2 fun z6=>(if z6<=z3 then Jd n l2 z3 b5 true false else BT l2 z3 fun x7=>GX x7 fun z8 s9 z10=>(if z8=z1 then Jd n l2 z3 b5 false false else Jd n l2 z3 b5 true false)))
theorem aG (n:Nat):∀⦃z1 l2 z3 b4 b5 r1 r2 r3 r4 r5⦄,Yq n z1 l2 z3 b4 b5=some (r1,r2,r3,r4,r5)->
    AW Tryz.prog inv 78 [.c (.ptr (.ext 0) 0),.d (.int .u8 z1)] [.cells [.d (.list true 3 l2),.d (.int .i64 z3),.d (.bool b4),.d (.bool b5)]] (.v (.d (.str r1))) [.cells [.d (.list true 3 r2),.d (.int .i64 r3),.d (.bool r4),.d (.bool r5)]] []:=by
 intro z1 l2 z3 b4 b5 r1 r2 r3 r4 r5 h
 unfold Yq at h
 refine AW.of Ab AO Bp Tryz.func78 rfl (by kernel_rfl) rfl rfl rfl (fun M hM hI=>?_)
 try cbv
 refine AB ?_
 try cbv
 refine AB ?_
 try cbv
 refine Aw (T:=Nat×Bool×Bool) (fun t=>⟨[sE 0 0,(4,.v (.d (.str ByteArray.empty))),sB 35 t.2.1],[(.ext 0,.cells [.d (.list true 3 l2),.d (.int .i64 z3),.d (.bool t.2.2),.d (.bool b5)])],1024⟩) (fun t=>t.1<=n/\Jd t.1 l2 z3 b5 t.2.1 t.2.2=some (r1,r2,r3,r4,r5)) ?_ ?_
 ·try cbv
  cases b4
  rotate_left
  ·replace h:=Aq h
   try cbv
   refine drawn ?_ ?_
   ·show _=true
    kernel_rfl
   try cbv
   exact AA (n,(true,true)) [0,4,35] [.ext 0] 1024 ⟨by omega,h⟩ (by cbv)
  replace h:=Ar h
  try cbv
  replace h:=AP M h
  obtain⟨z6,hz,h⟩:=h
  refine⟨z6,hz,?_⟩
  clear hz
  try cbv
  refine BJ (fun e=>?_) (fun e=>?_)
  ·replace h:=AJ e h
   clear e
   try cbv
   refine drawn ?_ ?_
   ·show _=true
    kernel_rfl
   try cbv
   exact AA (n,(true,false)) [0,4,35] [.ext 0] 1024 ⟨by omega,h⟩ (by cbv)
  replace h:=AK (Int.not_le.2 e) h
  clear e
  try cbv
  replace h:=Ae h
  obtain⟨x7,⟨hx0,hx⟩,h⟩:=h
  refine⟨x7,hx0,hx,?_⟩
  clear hx0 hx
  replace h:=Dk h
  obtain⟨z8,s9,z10,rfl,h⟩:=h
  try cbv
  refine Ah (fun e=>?_) (fun e=>?_)
  ·replace h:=AJ e h
   clear e
   try cbv
   refine drawn ?_ ?_
   ·show _=true
    kernel_rfl
   try cbv
   exact AA (n,(false,false)) [0,4,35] [.ext 0] 1024 ⟨by omega,h⟩ (by cbv)
  replace h:=AK e h
  clear e
  try cbv
  refine drawn ?_ ?_
  ·show _=true
   kernel_rfl
  try cbv
  exact AA (n,(true,false)) [0,4,35] [.ext 0] 1024 ⟨by omega,h⟩ (by cbv)
 clear h
 rintro⟨m1,b11,b12⟩ ⟨hm1,h⟩
 replace hm1:m1<=n:=hm1
 obtain _ | m1:=m1
 ·replace h:Jd 0 l2 z3 b5 b11 b12=some (r1,r2,r3,r4,r5):=h
  rw[Jd]at h
  cases h
 replace h:Jd (m1+1) l2 z3 b5 b11 b12=some (r1,r2,r3,r4,r5):=h
 rw[Jd]at h
 try cbv
 cases b11
 rotate_left
 ·replace h:=Aq h
  try cbv
  refine AB ?_
  try cbv
  refine AB ?_
  try cbv
  obtain⟨rfl,rfl,rfl,rfl,rfl⟩:=IC h
  refine AF ?_
  try cbv
  exact⟨[],rfl,rfl,⟨rfl,trivial⟩,trivial,trivial⟩
 replace h:=Ar h
 try cbv
 refine AB ?_
 try cbv
 replace h:=AN h
 obtain⟨z13,hz,h⟩:=h
 refine⟨z13,hz,?_⟩
 clear hz
 try cbv
 refine AB ?_
 try cbv
 replace h:=AN h
 obtain⟨z14,hz,h⟩:=h
 refine⟨z14,hz,?_⟩
 clear hz
 try cbv
 replace h:=Ae h
 obtain⟨x15,⟨hx0,hx⟩,h⟩:=h
 refine⟨x15,hx0,hx,?_⟩
 clear hx0 hx
 replace h:=Dk h
 obtain⟨z16,s17,z18,rfl,h⟩:=h
 try cbv
 refine drawn ?_ ?_
 ·show _=true
  kernel_rfl
 try cbv
 obtain⟨rfl,rfl,rfl,rfl,rfl⟩:=IC h
 refine AF ?_
 try cbv
 exact⟨[],rfl,rfl,⟨rfl,trivial⟩,trivial,trivial⟩
def Yr (n:Nat) (l1:LD) (z2:Int) (b3:Bool) (b4:Bool):Option (BA×LD×Int×Bool×Bool):=
 bO5 (Yq n (3:Int) l1 z2 b3 b4) fun s5 l6 z7 b8 b9=>some (s5,l6,z7,b8,b9)
theorem aH (n:Nat):∀⦃l1 z2 b3 b4 r1 r2 r3 r4 r5⦄,Yr n l1 z2 b3 b4=some (r1,r2,r3,r4,r5)->
    AW Tryz.prog inv 44 [.c (.ptr (.ext 0) 0)] [.cells [.d (.list true 3 l1),.d (.int .i64 z2),.d (.bool b3),.d (.bool b4)]] (.v (.d (.str r1))) [.cells [.d (.list true 3 r2),.d (.int .i64 r3),.d (.bool r4),.d (.bool r5)]] []:=by
 intro l1 z2 b3 b4 r1 r2 r3 r4 r5 h
 unfold Yr at h
 refine AW.of Ab AO Bp Tryz.func44 rfl (by kernel_rfl) rfl rfl rfl (fun M hM hI=>?_)
 try cbv
 refine AB ?_
 try cbv
 refine AB ?_
 try cbv
 replace h:=Bk h
 obtain⟨s5,l6,z7,b8,b9,hr,h⟩:=h
 refine AD rfl rfl ?_
 try cbv
 refine AI hM hI [.ext 0] (aG _ hr) rfl (by simp) ⟨rfl,trivial⟩ ⟨trivial,trivial⟩ (by simp) ?_
 clear hr
 try cbv
 obtain⟨rfl,rfl,rfl,rfl,rfl⟩:=IC h
 refine AF ?_
 try cbv
 exact⟨[],rfl,rfl,⟨rfl,trivial⟩,trivial,trivial⟩
mutual
def MK:Nat->LD->Int->Int->LD->Int->Bool->Bool->Option (LD×Int×Bool×Bool)
 | 0,_,_,_,_,_,_,_=>none
 | n+1,l1,z6,z7,l8,z9,b10,b11=>
  (if z7<z6 then ML n l1 z6 z7 l8 z9 b10 b11 true else ML n l1 z6 z7 l8 z9 b10 b11 false)
def ML:Nat->LD->Int->Int->LD->Int->Bool->Bool->Bool->Option (LD×Int×Bool×Bool)
 | 0,_,_,_,_,_,_,_,_=>none
 | n+1,l1,z6,z7,l8,z9,b10,b11,b12=>
  (if b12=true then BT l1 z7 fun x13=>B7 x13 fun s14=>bO5 (Uf n s14 l8 z9 b10 b11) fun b15 l16 z17 b18 b19=>Ak (!b15) fun b20=>Al (IntKind.wrap .i64 (z7+1)) fun z21=>MK n l1 z6 z21 l16 z17 b20 b19 else some (l8,z9,b10,b11))
end
def SZ (n:Nat) (l1:LD) (l2:LD) (z3:Int) (b4:Bool) (b5:Bool):Option (LD×Int×Bool×Bool):=
 Ad l1 fun z6=>MK n l1 z6 (0:Int) l2 z3 b4 b5
theorem Ug (n:Nat):∀⦃l1 l2 z3 b4 b5 r1 r2 r3 r4⦄,SZ n l1 l2 z3 b4 b5=some (r1,r2,r3,r4)->
    AW Tryz.prog inv 45 [.c (.ptr (.ext 0) 0),.d (.list false 1 l1)] [.cells [.d (.list true 3 l2),.d (.int .i64 z3),.d (.bool b4),.d (.bool b5)]] (.t []) [.cells [.d (.list true 3 r1),.d (.int .i64 r2),.d (.bool r3),.d (.bool r4)]] []:=by
 intro l1 l2 z3 b4 b5 r1 r2 r3 r4 h
 unfold SZ at h
 refine AW.of Ab AO Bp Tryz.func45 rfl (by kernel_rfl) rfl rfl rfl (fun M hM hI=>?_)
 try cbv
 refine AB ?_
 try cbv
 replace h:=AP M h
 obtain⟨z6,hz,h⟩:=h
 refine⟨z6,hz,?_⟩
 clear hz
 try cbv
 refine BF (T:=Nat×Int×LD×Int×Bool×Bool) [0,6,7,8] [.ext 0] 96 (fun t=>⟨[sE 0 0,sF 6 1 l1,sI 7 z6,sI 8 t.2.1],[(.ext 0,.cells [.d (.list true 3 t.2.2.1),.d (.int .i64 t.2.2.2.1),.d (.bool t.2.2.2.2.1),.d (.bool t.2.2.2.2.2)])],96⟩)
   (fun t=>t.1<=n/\MK t.1 l1 z6 t.2.1 t.2.2.1 t.2.2.2.1 t.2.2.2.2.1 t.2.2.2.2.2=some (r1,r2,r3,r4)) (fun t=>t.1) (n,((0:Int),l2,z3,b4,b5)) ⟨Nat.le_refl _,h⟩ (by cbv) ?_
 clear h
 rintro⟨m1,z7,l8,z9,b10,b11⟩ ⟨hm1,h⟩
 replace hm1:m1<=n:=hm1
 obtain _ | m1:=m1
 ·replace h:MK 0 l1 z6 z7 l8 z9 b10 b11=some (r1,r2,r3,r4):=h
  rw[MK]at h
  cases h
 replace h:MK (m1+1) l1 z6 z7 l8 z9 b10 b11=some (r1,r2,r3,r4):=h
 rw[MK]at h
 try cbv
 refine AH 9 [0,6,7,8,9] [.ext 0] 128 (fun m b=>m<=m1/\ML m l1 z6 z7 l8 z9 b10 b11 b=some (r1,r2,r3,r4)) ?_ ?_
 ·try cbv
  refine Aa (fun e=>?_) (fun e=>?_)
  ·replace h:=AJ e h
   clear e
   try cbv
   exact AA (m1,true) [0,6,7,8,9] [.ext 0] 128 ⟨by omega,h⟩ (by cbv)
  replace h:=AK (Int.not_lt.2 e) h
  clear e
  try cbv
  exact AA (m1,false) [0,6,7,8,9] [.ext 0] 128 ⟨by omega,h⟩ (by cbv)
 clear h
 rintro⟨m2,b12⟩ ⟨hm2,h⟩
 try cbv
 replace hm2:m2<=m1:=hm2
 obtain _ | m2:=m2
 ·replace h:ML 0 l1 z6 z7 l8 z9 b10 b11 b12=some (r1,r2,r3,r4):=h
  rw[ML]at h
  cases h
 replace h:ML (m2+1) l1 z6 z7 l8 z9 b10 b11 b12=some (r1,r2,r3,r4):=h
 rw[ML]at h
 try cbv
 refine AB ?_
 try cbv
 cases b12
 ·replace h:=Ar h
  try cbv
  obtain⟨rfl,rfl,rfl,rfl⟩:=D5 h
  refine AF ?_
  try cbv
  exact⟨[],rfl,rfl,⟨rfl,trivial⟩,trivial,trivial⟩
 replace h:=Aq h
 try cbv
 refine AB ?_
 try cbv
 refine AB ?_
 try cbv
 replace h:=Ae h
 obtain⟨x13,⟨hx0,hx⟩,h⟩:=h
 refine⟨x13,hx0,hx,?_⟩
 clear hx0 hx
 replace h:=B3 h
 obtain⟨s14,rfl,h⟩:=h
 try cbv
 replace h:=Bk h
 obtain⟨b15,l16,z17,b18,b19,hr,h⟩:=h
 refine AD rfl rfl ?_
 try cbv
 refine AI hM hI [.ext 0] (Vo _ hr) rfl (by simp) ⟨rfl,trivial⟩ ⟨trivial,trivial⟩ (by simp) ?_
 clear hr
 try cbv
 replace h:=AL h
 obtain⟨b20,hz,h⟩:=h
 refine⟨b20,AU hz,?_⟩
 clear hz
 try cbv
 replace h:=AN h
 obtain⟨z21,hz,h⟩:=h
 refine⟨z21,hz,?_⟩
 clear hz
 try cbv
 exact An (m2,(z21,l16,z17,b20,b19)) [0,6,7,8] [.ext 0] 96 ⟨by omega,h⟩ (Nat.lt_succ_of_le (by omega)) (by cbv)
def ZE (n:Nat) (l1:LD) (z2:Int) (b3:Bool) (b4:Bool):Option (BA×LD×Int×Bool×Bool):=
 bO5 (Yq n (2:Int) l1 z2 b3 b4) fun s5 l6 z7 b8 b9=>some (s5,l6,z7,b8,b9)
theorem bO (n:Nat):∀⦃l1 z2 b3 b4 r1 r2 r3 r4 r5⦄,ZE n l1 z2 b3 b4=some (r1,r2,r3,r4,r5)->
    AW Tryz.prog inv 49 [.c (.ptr (.ext 0) 0)] [.cells [.d (.list true 3 l1),.d (.int .i64 z2),.d (.bool b3),.d (.bool b4)]] (.v (.d (.str r1))) [.cells [.d (.list true 3 r2),.d (.int .i64 r3),.d (.bool r4),.d (.bool r5)]] []:=by
 intro l1 z2 b3 b4 r1 r2 r3 r4 r5 h
 unfold ZE at h
 refine AW.of Ab AO Bp Tryz.func49 rfl (by kernel_rfl) rfl rfl rfl (fun M hM hI=>?_)
 try cbv
 refine AB ?_
 try cbv
 refine AB ?_
 try cbv
 replace h:=Bk h
 obtain⟨s5,l6,z7,b8,b9,hr,h⟩:=h
 refine AD rfl rfl ?_
 try cbv
 refine AI hM hI [.ext 0] (aG _ hr) rfl (by simp) ⟨rfl,trivial⟩ ⟨trivial,trivial⟩ (by simp) ?_
 clear hr
 try cbv
 obtain⟨rfl,rfl,rfl,rfl,rfl⟩:=IC h
 refine AF ?_
 try cbv
 exact⟨[],rfl,rfl,⟨rfl,trivial⟩,trivial,trivial⟩
def aI (n:Nat):Option LD:=
 IE (.str Pl) [.int .u8 1] [] fun l1=>IE (.str Lq) [.int .u8 2] l1 fun l2=>IE (.str Lr) [.int .u8 3] l2 fun l3=>IE (.str GZ) [.int .u8 10] l3 fun l4=>some l4
theorem dK (n:Nat):∀⦃r1⦄,aI n=some r1->
    AW Tryz.prog inv 80 [] [] (.v (.c (.ow (.loc 0)))) [] [.tree (.fmap false) true 2 r1 none]:=by
 intro r1 h
 unfold aI at h
 refine AW.of Ab AO Bp Tryz.func80 rfl (by kernel_rfl) rfl rfl rfl (fun M hM hI=>?_)
 try cbv
 refine AB ?_
 try cbv
 refine AB ?_
 try cbv
 replace h:=CW h
 obtain⟨l1,hz,h⟩:=h
 refine⟨l1,(M.lock_iff _).2 hz,?_⟩
 clear hz
 try cbv
 replace h:=CW h
 obtain⟨l2,hz,h⟩:=h
 refine⟨l2,(M.lock_iff _).2 hz,?_⟩
 clear hz
 try cbv
 replace h:=CW h
 obtain⟨l3,hz,h⟩:=h
 refine⟨l3,(M.lock_iff _).2 hz,?_⟩
 clear hz
 try cbv
 replace h:=CW h
 obtain⟨l4,hz,h⟩:=h
 refine⟨l4,(M.lock_iff _).2 hz,?_⟩
 clear hz
 try cbv
 obtain rfl:=Option.some.inj h
 refine AF ?_
 try cbv
 exact⟨[.loc 32],rfl,rfl,trivial,⟨rfl,trivial⟩,trivial⟩
def aJ (n:Nat):Option LD:=
 IE (.str Pm) [.int .u8 5] [] fun l1=>IE (.str Ls) [.int .u8 6] l1 fun l2=>IE (.str Tr) [.int .u8 7] l2 fun l3=>IE (.str Pn) [.int .u8 8] l3 fun l4=>IE (.str Ir) [.int .u8 9] l4 fun l5=>IE (.str Ga) [.int .u8 11] l5 fun l6=>IE (.str EK) [.int .u8 12] l6 fun l7=>some l7
theorem dL (n:Nat):∀⦃r1⦄,aJ n=some r1->
    AW Tryz.prog inv 81 [] [] (.v (.c (.ow (.loc 0)))) [] [.tree (.fmap false) true 2 r1 none]:=by
 intro r1 h
 unfold aJ at h
 refine AW.of Ab AO Bp Tryz.func81 rfl (by kernel_rfl) rfl rfl rfl (fun M hM hI=>?_)
 try cbv
 refine AB ?_
 try cbv
 refine AB ?_
 try cbv
 replace h:=CW h
 obtain⟨l1,hz,h⟩:=h
 refine⟨l1,(M.lock_iff _).2 hz,?_⟩
 clear hz
 try cbv
 replace h:=CW h
 obtain⟨l2,hz,h⟩:=h
 refine⟨l2,(M.lock_iff _).2 hz,?_⟩
 clear hz
 try cbv
 replace h:=CW h
 obtain⟨l3,hz,h⟩:=h
 refine⟨l3,(M.lock_iff _).2 hz,?_⟩
 clear hz
 try cbv
 replace h:=CW h
 obtain⟨l4,hz,h⟩:=h
 refine⟨l4,(M.lock_iff _).2 hz,?_⟩
 clear hz
 try cbv
 replace h:=CW h
 obtain⟨l5,hz,h⟩:=h
 refine⟨l5,(M.lock_iff _).2 hz,?_⟩
 clear hz
 try cbv
 replace h:=CW h
 obtain⟨l6,hz,h⟩:=h
 refine⟨l6,(M.lock_iff _).2 hz,?_⟩
 clear hz
 try cbv
 replace h:=CW h
 obtain⟨l7,hz,h⟩:=h
 refine⟨l7,(M.lock_iff _).2 hz,?_⟩
 clear hz
 try cbv
 obtain rfl:=Option.some.inj h
 refine AF ?_
 try cbv
 exact⟨[.loc 32],rfl,rfl,trivial,⟨rfl,trivial⟩,trivial⟩
mutual
def MN:Nat->LD->Int->Bool->Bool->Int->Option (Int×BA×LD×LD×Int×Bool×Bool)
 | 0,_,_,_,_,_=>none
 | n+1,l15,z16,b17,b18,z19=>
  bO7 (Xm n l15 z16 b17 b18) fun z20 s21 l22 l23 z24 b25 b26=>some (z19,ByteArray.empty,[.agg [.int .u8 z20,.str s21,.list true 3 l22]],l23,z24,b25,b26)
def Je:Nat->LD->Int->Bool->Bool->Bool->Option (Int×BA×LD×LD×Int×Bool×Bool)
 | 0,_,_,_,_,_=>none
 | n+1,l6,z7,b8,b9,b33=>
  (if b33=true then bO5 (Yr n l6 z7 b8 b9) fun s34 l35 z36 b37 b38=>some ((4:Int),s34,([]:LD),l35,z36,b37,b38)else bO5 (Yq n (1:Int) l6 z7 b8 b9) fun s39 l40 z41 b42 b43=>bO1 (aI n) fun l44=>(findF false (.str s39) l44 (fun x45=>RY x45 fun z46=>MO n z7 s39 l40 z41 b42 b43 z46 true) (MO n z7 s39 l40 z41 b42 b43 (0:Int) false)))
def MO:Nat->Int->BA->LD->Int->Bool->Bool->Int->Bool->Option (Int×BA×LD×LD×Int×Bool×Bool)
 | 0,_,_,_,_,_,_,_,_=>none
 | n+1,z7,s39,l40,z41,b42,b43,z47,b48=>
  (if b48=true then some (z47,ByteArray.empty,([]:LD),l40,z41,b42,b43)else bO1 (aJ n) fun l49=>(findF false (.str s39) l49 (fun x50=>RY x50 fun z51=>MP n z7 l40 z41 b42 b43 z51 true) (MP n z7 l40 z41 b42 b43 (0:Int) false)))
def MP:Nat->Int->LD->Int->Bool->Bool->Int->Bool->Option (Int×BA×LD×LD×Int×Bool×Bool)
 | 0,_,_,_,_,_,_,_=>none
 | n+1,z7,l40,z41,b42,b43,z52,b53=>
  Ak (!b53) fun b54=>(if b54=true then some ((0:Int),ByteArray.empty,([]:LD),l40,z7,true,b43)else bO4 (SZ n ([.str YH]) l40 z41 b42 b43) fun l55 z56 b57 b58=>bO7 (Xm n l55 z56 b57 b58) fun z59 s60 l61 l62 z63 b64 b65=>bO4 (SZ n ([.str YI]) l62 z63 b64 b65) fun l66 z67 b68 b69=>some (z52,ByteArray.empty,[.agg [.int .u8 z59,.str s60,.list true 3 l61]],l66,z67,b68,b69))
def Xm:Nat->LD->Int->Bool->Bool->Option (Int×BA×LD×LD×Int×Bool×Bool)
 | 0,_,_,_,_=>none
 | n+1,l1,z2,b3,b4=>
  bO5 (Uf n YG l1 z2 b3 b4) fun b5 l6 z7 b8 b9=>(if b5=true then bO5 (Uf n Pk l6 z7 b8 b9) fun b10 l11 z12 b13 b14=>(if b10=true then MN n l11 z12 b13 b14 (14:Int)else MN n l11 z12 b13 b14 (13:Int))else Ak (!b8) fun b27=>(if b27=true then Ad l6 fun z28=>(if z7<z28 then BT l6 z7 fun x29=>GX x29 fun z30 s31 z32=>(if z30=(3:Int)then Je n l6 z7 b8 b9 true else Je n l6 z7 b8 b9 false)else Je n l6 z7 b8 b9 false)else Je n l6 z7 b8 b9 false))
end
theorem bP (n:Nat):∀⦃l1 z2 b3 b4 r1 r2 r3 r4 r5 r6 r7⦄,Xm n l1 z2 b3 b4=some (r1,r2,r3,r4,r5,r6,r7)->
    AW Tryz.prog inv 50 [.c (.ptr (.ext 0) 0)] [.cells [.d (.list true 3 l1),.d (.int .i64 z2),.d (.bool b3),.d (.bool b4)]] (.v (.d (.agg [.int .u8 r1,.str r2,.list true 3 r3]))) [.cells [.d (.list true 3 r4),.d (.int .i64 r5),.d (.bool r6),.d (.bool r7)]] []:=by
 induction n using Nat.strongRecOn with | _ n ih=>
 obtain _ | n:=n
 ·intro l1 z2 b3 b4 r1 r2 r3 r4 r5 r6 r7 h
  cases (show (none:Option _)=some _ from h)
 intro l1 z2 b3 b4 r1 r2 r3 r4 r5 r6 r7 h
 rw[Xm]at h
 refine AW.of Ab AO Bp Tryz.func50 rfl (by kernel_rfl) rfl rfl rfl (fun M hM hI=>?_)
 try cbv
 refine AB ?_
 try cbv
 refine AB ?_
 try cbv
 refine AB ?_
 try cbv
 replace h:=Bk h
 obtain⟨b5,l6,z7,b8,b9,hr,h⟩:=h
 refine AD rfl rfl ?_
 try cbv
 refine AI hM hI [.ext 0] (Vo _ hr) rfl (by simp) ⟨rfl,trivial⟩ ⟨trivial,trivial⟩ (by simp) ?_
 clear hr
 try cbv
 cases b5
 rotate_left
 ·replace h:=Aq h
  try cbv
  refine AB ?_
  try cbv
  refine Aw (T:=Nat×LD×Int×Bool×Bool×Int) (fun t=>⟨[sE 0 0,sL 2 0,sL 3 128],[(.ext 0,.cells [.d (.list true 3 t.2.1),.d (.int .i64 t.2.2.1),.d (.bool t.2.2.2.1),.d (.bool t.2.2.2.2.1)]),(.loc 0,.cells [.d (.int .u8 0),.d (.str ByteArray.empty),.nils true 3]),(.loc 128,.cells [.d (.int .u8 t.2.2.2.2.2),.d (.str ByteArray.empty),.nils true 3])],320⟩) (fun t=>t.1<=n/\MN t.1 t.2.1 t.2.2.1 t.2.2.2.1 t.2.2.2.2.1 t.2.2.2.2.2=some (r1,r2,r3,r4,r5,r6,r7)) ?_ ?_
  ·try cbv
   refine AB ?_
   try cbv
   replace h:=Bk h
   obtain⟨b10,l11,z12,b13,b14,hr,h⟩:=h
   refine AD rfl rfl ?_
   try cbv
   refine AI hM hI [.ext 0] (Vo _ hr) rfl (by simp) ⟨rfl,trivial⟩ ⟨trivial,trivial⟩ (by simp) ?_
   clear hr
   try cbv
   cases b10
   ·replace h:=Ar h
    try cbv
    exact AA (n,(l11,z12,b13,b14,(13:Int))) [0,2,3] [.ext 0,.loc 0,.loc 128] 320 ⟨by omega,h⟩ (by cbv)
   replace h:=Aq h
   try cbv
   exact AA (n,(l11,z12,b13,b14,(14:Int))) [0,2,3] [.ext 0,.loc 0,.loc 128] 320 ⟨by omega,h⟩ (by cbv)
  clear h
  rintro⟨m1,l15,z16,b17,b18,z19⟩ ⟨hm1,h⟩
  replace hm1:m1<=n:=hm1
  obtain _ | m1:=m1
  ·replace h:MN 0 l15 z16 b17 b18 z19=some (r1,r2,r3,r4,r5,r6,r7):=h
   rw[MN]at h
   cases h
  replace h:MN (m1+1) l15 z16 b17 b18 z19=some (r1,r2,r3,r4,r5,r6,r7):=h
  rw[MN]at h
  try cbv
  refine AB ?_
  try cbv
  replace h:=Il h
  obtain⟨z20,s21,l22,l23,z24,b25,b26,hr,h⟩:=h
  refine AD rfl rfl ?_
  try cbv
  refine AI hM hI [.ext 0] ((ih _ (by omega)) hr) rfl (by simp) ⟨rfl,trivial⟩ ⟨trivial,trivial⟩ (by simp) ?_
  clear hr
  try cbv
  refine⟨false,?_⟩
  try cbv
  refine⟨true,?_⟩
  try cbv
  refine AB ?_
  try cbv
  obtain⟨rfl,rfl,rfl,rfl,rfl,rfl,rfl⟩:=TP h
  refine AF ?_
  try cbv
  exact⟨[],rfl,rfl,⟨rfl,trivial⟩,trivial,trivial⟩
 replace h:=Ar h
 try cbv
 refine AB ?_
 try cbv
 refine AH 52 [0,2,52] [.ext 0,.loc 0] 1088 (fun m b=>m<=n/\Je m l6 z7 b8 b9 b=some (r1,r2,r3,r4,r5,r6,r7)) ?_ ?_
 ·try cbv
  replace h:=AL h
  obtain⟨b27,hz,h⟩:=h
  refine⟨b27,AU hz,?_⟩
  clear hz
  try cbv
  cases b27
  ·replace h:=Ar h
   try cbv
   refine drawn ?_ ?_
   ·show _=true
    kernel_rfl
   try cbv
   exact AA (n,false) [0,2,52] [.ext 0,.loc 0] 1088 ⟨by omega,h⟩ (by cbv)
  replace h:=Aq h
  try cbv
  replace h:=AP M h
  obtain⟨z28,hz,h⟩:=h
  refine⟨z28,hz,?_⟩
  clear hz
  try cbv
  refine Aa (fun e=>?_) (fun e=>?_)
  rotate_left
  ·replace h:=AK (Int.not_lt.2 e) h
   clear e
   try cbv
   refine drawn ?_ ?_
   ·show _=true
    kernel_rfl
   try cbv
   exact AA (n,false) [0,2,52] [.ext 0,.loc 0] 1088 ⟨by omega,h⟩ (by cbv)
  replace h:=AJ e h
  clear e
  try cbv
  replace h:=Ae h
  obtain⟨x29,⟨hx0,hx⟩,h⟩:=h
  refine⟨x29,hx0,hx,?_⟩
  clear hx0 hx
  replace h:=Dk h
  obtain⟨z30,s31,z32,rfl,h⟩:=h
  try cbv
  refine Ah (fun e=>?_) (fun e=>?_)
  ·replace h:=AJ e h
   clear e
   try cbv
   refine drawn ?_ ?_
   ·show _=true
    kernel_rfl
   try cbv
   exact AA (n,true) [0,2,52] [.ext 0,.loc 0] 1088 ⟨by omega,h⟩ (by cbv)
  replace h:=AK e h
  clear e
  try cbv
  refine drawn ?_ ?_
  ·show _=true
   kernel_rfl
  try cbv
  exact AA (n,false) [0,2,52] [.ext 0,.loc 0] 1088 ⟨by omega,h⟩ (by cbv)
 clear h
 rintro⟨m2,b33⟩ ⟨hm2,h⟩
 try cbv
 replace hm2:m2<=n:=hm2
 obtain _ | m2:=m2
 ·replace h:Je 0 l6 z7 b8 b9 b33=some (r1,r2,r3,r4,r5,r6,r7):=h
  rw[Je]at h
  cases h
 replace h:Je (m2+1) l6 z7 b8 b9 b33=some (r1,r2,r3,r4,r5,r6,r7):=h
 rw[Je]at h
 try cbv
 cases b33
 rotate_left
 ·replace h:=Aq h
  try cbv
  refine AB ?_
  try cbv
  replace h:=Bk h
  obtain⟨s34,l35,z36,b37,b38,hr,h⟩:=h
  refine AD rfl rfl ?_
  try cbv
  refine AI hM hI [.ext 0] (aH _ hr) rfl (by simp) ⟨rfl,trivial⟩ ⟨trivial,trivial⟩ (by simp) ?_
  clear hr
  try cbv
  obtain⟨rfl,rfl,rfl,rfl,rfl,rfl,rfl⟩:=TP h
  refine AF ?_
  try cbv
  exact⟨[],rfl,rfl,⟨rfl,trivial⟩,trivial,trivial⟩
 replace h:=Ar h
 try cbv
 refine AB ?_
 try cbv
 refine AB ?_
 try cbv
 replace h:=Bk h
 obtain⟨s39,l40,z41,b42,b43,hr,h⟩:=h
 refine AD rfl rfl ?_
 try cbv
 refine AI hM hI [.ext 0] (aG _ hr) rfl (by simp) ⟨rfl,trivial⟩ ⟨trivial,trivial⟩ (by simp) ?_
 clear hr
 try cbv
 refine AB ?_
 try cbv
 refine Aw (T:=Nat×Int×Bool) (fun t=>⟨[sE 0 0,sL 2 0,sI 4 z7,sS 5 s39,sU 6 t.2.1,sB 7 t.2.2],[(.ext 0,.cells [.d (.list true 3 l40),.d (.int .i64 z41),.d (.bool b42),.d (.bool b43)]),(.loc 0,.cells [.d (.int .u8 0),.d (.str ByteArray.empty),.nils true 3])],1600⟩) (fun t=>t.1<=m2/\MO t.1 z7 s39 l40 z41 b42 b43 t.2.1 t.2.2=some (r1,r2,r3,r4,r5,r6,r7)) ?_ ?_
 ·try cbv
  replace h:=AG h
  obtain⟨l44,hr,h⟩:=h
  refine AD rfl rfl ?_
  try cbv
  refine AI hM hI [] (dK _ hr) rfl (by simp) trivial trivial (by simp) ?_
  clear hr
  try cbv
  replace h:=Jy h
  rcases h with⟨x45,hz,h⟩ | ⟨hz,h⟩
  ·replace h:=NZ h
   obtain⟨z46,rfl,h⟩:=h
   refine⟨some _,(M.lock_iff _).2 hz,?_⟩
   clear hz
   try cbv
   exact AA (m2,(z46,true)) [0,2,4,5,6,7] [.ext 0,.loc 0] 1600 ⟨by omega,h⟩ (by cbv)
  refine⟨none,(M.lock_iff _).2 hz,?_⟩
  clear hz
  try cbv
  exact AA (m2,((0:Int),false)) [0,2,4,5,6,7] [.ext 0,.loc 0] 1600 ⟨by omega,h⟩ (by cbv)
 clear h
 rintro⟨m3,z47,b48⟩ ⟨hm3,h⟩
 replace hm3:m3<=m2:=hm3
 obtain _ | m3:=m3
 ·replace h:MO 0 z7 s39 l40 z41 b42 b43 z47 b48=some (r1,r2,r3,r4,r5,r6,r7):=h
  rw[MO]at h
  cases h
 replace h:MO (m3+1) z7 s39 l40 z41 b42 b43 z47 b48=some (r1,r2,r3,r4,r5,r6,r7):=h
 rw[MO]at h
 try cbv
 refine AB ?_
 try cbv
 cases b48
 rotate_left
 ·replace h:=Aq h
  try cbv
  refine AB ?_
  try cbv
  obtain⟨rfl,rfl,rfl,rfl,rfl,rfl,rfl⟩:=TP h
  refine AF ?_
  try cbv
  exact⟨[],rfl,rfl,⟨rfl,trivial⟩,trivial,trivial⟩
 replace h:=Ar h
 try cbv
 refine Aw (T:=Nat×Int×Bool) (fun t=>⟨[sE 0 0,sL 2 0,sI 4 z7,sU 8 t.2.1,sB 9 t.2.2],[(.ext 0,.cells [.d (.list true 3 l40),.d (.int .i64 z41),.d (.bool b42),.d (.bool b43)]),(.loc 0,.cells [.d (.int .u8 0),.d (.str ByteArray.empty),.nils true 3])],1888⟩) (fun t=>t.1<=m3/\MP t.1 z7 l40 z41 b42 b43 t.2.1 t.2.2=some (r1,r2,r3,r4,r5,r6,r7)) ?_ ?_
 ·try cbv
  replace h:=AG h
  obtain⟨l49,hr,h⟩:=h
  refine AD rfl rfl ?_
  try cbv
  refine AI hM hI [] (dL _ hr) rfl (by simp) trivial trivial (by simp) ?_
  clear hr
  try cbv
  replace h:=Jy h
  rcases h with⟨x50,hz,h⟩ | ⟨hz,h⟩
  ·replace h:=NZ h
   obtain⟨z51,rfl,h⟩:=h
   refine⟨some _,(M.lock_iff _).2 hz,?_⟩
   clear hz
   try cbv
   exact AA (m3,(z51,true)) [0,2,4,8,9] [.ext 0,.loc 0] 1888 ⟨by omega,h⟩ (by cbv)
  refine⟨none,(M.lock_iff _).2 hz,?_⟩
  clear hz
  try cbv
  exact AA (m3,((0:Int),false)) [0,2,4,8,9] [.ext 0,.loc 0] 1888 ⟨by omega,h⟩ (by cbv)
 clear h
 rintro⟨m4,z52,b53⟩ ⟨hm4,h⟩
 replace hm4:m4<=m3:=hm4
 obtain _ | m4:=m4
 ·replace h:MP 0 z7 l40 z41 b42 b43 z52 b53=some (r1,r2,r3,r4,r5,r6,r7):=h
  rw[MP]at h
  cases h
 replace h:MP (m4+1) z7 l40 z41 b42 b43 z52 b53=some (r1,r2,r3,r4,r5,r6,r7):=h
 rw[MP]at h
 try cbv
 refine AB ?_
 try cbv
 refine AB ?_
 try cbv
 replace h:=AL h
 obtain⟨b54,hz,h⟩:=h
 refine⟨b54,AU hz,?_⟩
 clear hz
 try cbv
 cases b54
 rotate_left
 ·replace h:=Aq h
  try cbv
  refine AB ?_
  try cbv
  refine AB ?_
  try cbv
  obtain⟨rfl,rfl,rfl,rfl,rfl,rfl,rfl⟩:=TP h
  refine AF ?_
  try cbv
  exact⟨[],rfl,rfl,⟨rfl,trivial⟩,trivial,trivial⟩
 replace h:=Ar h
 try cbv
 refine AB ?_
 try cbv
 refine⟨false,?_⟩
 try cbv
 refine⟨true,?_⟩
 try cbv
 replace h:=BR h
 obtain⟨l55,z56,b57,b58,hr,h⟩:=h
 refine AD rfl rfl ?_
 try cbv
 refine AI hM hI [.ext 0] (Ug _ hr) rfl (by simp) ⟨rfl,trivial⟩ ⟨trivial,trivial⟩ (by simp) ?_
 clear hr
 try cbv
 refine AB ?_
 try cbv
 replace h:=Il h
 obtain⟨z59,s60,l61,l62,z63,b64,b65,hr,h⟩:=h
 refine AD rfl rfl ?_
 try cbv
 refine AI hM hI [.ext 0] ((ih _ (by omega)) hr) rfl (by simp) ⟨rfl,trivial⟩ ⟨trivial,trivial⟩ (by simp) ?_
 clear hr
 try cbv
 refine⟨false,?_⟩
 try cbv
 refine⟨true,?_⟩
 try cbv
 refine AB ?_
 try cbv
 refine⟨false,?_⟩
 try cbv
 refine⟨true,?_⟩
 try cbv
 replace h:=BR h
 obtain⟨l66,z67,b68,b69,hr,h⟩:=h
 refine AD rfl rfl ?_
 try cbv
 refine AI hM hI [.ext 0] (Ug _ hr) rfl (by simp) ⟨rfl,trivial⟩ ⟨trivial,trivial⟩ (by simp) ?_
 clear hr
 try cbv
 refine AB ?_
 try cbv
 obtain⟨rfl,rfl,rfl,rfl,rfl,rfl,rfl⟩:=TP h
 refine AF ?_
 try cbv
 exact⟨[],rfl,rfl,⟨rfl,trivial⟩,trivial,trivial⟩
def Ys (n:Nat) (l1:LD) (z2:Int) (b3:Bool) (b4:Bool):Option (BA×Int×BA×LD×LD×Int×Bool×Bool):=
 bO5 (ZE n l1 z2 b3 b4) fun s5 l6 z7 b8 b9=>bO4 (SZ n ([.str YF]) l6 z7 b8 b9) fun l10 z11 b12 b13=>bO7 (Xm n l10 z11 b12 b13) fun z14 s15 l16 l17 z18 b19 b20=>some (s5,z14,s15,l16,l17,z18,b19,b20)
theorem aK (n:Nat):∀⦃l1 z2 b3 b4 r1 r2 r3 r4 r5 r6 r7 r8⦄,Ys n l1 z2 b3 b4=some (r1,r2,r3,r4,r5,r6,r7,r8)->
    AW Tryz.prog inv 47 [.c (.ptr (.ext 0) 0)] [.cells [.d (.list true 3 l1),.d (.int .i64 z2),.d (.bool b3),.d (.bool b4)]] (.v (.d (.agg [.str r1,.int .u8 r2,.str r3,.list true 3 r4]))) [.cells [.d (.list true 3 r5),.d (.int .i64 r6),.d (.bool r7),.d (.bool r8)]] []:=by
 intro l1 z2 b3 b4 r1 r2 r3 r4 r5 r6 r7 r8 h
 unfold Ys at h
 refine AW.of Ab AO Bp Tryz.func47 rfl (by kernel_rfl) rfl rfl rfl (fun M hM hI=>?_)
 try cbv
 refine AB ?_
 try cbv
 refine AB ?_
 try cbv
 replace h:=Bk h
 obtain⟨s5,l6,z7,b8,b9,hr,h⟩:=h
 refine AD rfl rfl ?_
 try cbv
 refine AI hM hI [.ext 0] (bO _ hr) rfl (by simp) ⟨rfl,trivial⟩ ⟨trivial,trivial⟩ (by simp) ?_
 clear hr
 try cbv
 refine AB ?_
 try cbv
 refine⟨false,?_⟩
 try cbv
 refine⟨true,?_⟩
 try cbv
 replace h:=BR h
 obtain⟨l10,z11,b12,b13,hr,h⟩:=h
 refine AD rfl rfl ?_
 try cbv
 refine AI hM hI [.ext 0] (Ug _ hr) rfl (by simp) ⟨rfl,trivial⟩ ⟨trivial,trivial⟩ (by simp) ?_
 clear hr
 try cbv
 refine AB ?_
 try cbv
 replace h:=Il h
 obtain⟨z14,s15,l16,l17,z18,b19,b20,hr,h⟩:=h
 refine AD rfl rfl ?_
 try cbv
 refine AI hM hI [.ext 0] (bP _ hr) rfl (by simp) ⟨rfl,trivial⟩ ⟨trivial,trivial⟩ (by simp) ?_
 clear hr
 try cbv
 refine AB ?_
 try cbv
 obtain⟨rfl,rfl,rfl,rfl,rfl,rfl,rfl,rfl⟩:=Wv h
 refine AF ?_
 try cbv
 exact⟨[],rfl,rfl,⟨rfl,trivial⟩,trivial,trivial⟩
def ZF (n:Nat) (z1:Int) (z2:Int) (l3:LD) (z4:Int) (b5:Bool) (b6:Bool):Option (LD×Int×Bool×Bool):=
 (if b6=true then some (l3,z4,b5,true)else (if z2<z1 then some (l3,z4,b5,true)else some (l3,z4,b5,false)))
theorem bQ (n:Nat):∀⦃z1 z2 l3 z4 b5 b6 r1 r2 r3 r4⦄,ZF n z1 z2 l3 z4 b5 b6=some (r1,r2,r3,r4)->
  AW Tryz.prog inv 79 [.c (.ptr (.ext 0) 0),.d (.int .i64 z1),.d (.int .i64 z2)] [.cells [.d (.list true 3 l3),.d (.int .i64 z4),.d (.bool b5),.d (.bool b6)]] (.t []) [.cells [.d (.list true 3 r1),.d (.int .i64 r2),.d (.bool r3),.d (.bool r4)]] []:=by
 intro z1 z2 l3 z4 b5 b6 r1 r2 r3 r4 h
 unfold ZF at h
 refine AW.of Ab AO Bp Tryz.func79 rfl (by kernel_rfl) rfl rfl rfl (fun M hM hI=>?_)
 try cbv
 cases b6
 ·replace h:=Ar h
  try cbv
  refine Aa (fun e=>?_) (fun e=>?_)
  ·replace h:=AJ e h
   clear e
   try cbv
   obtain⟨rfl,rfl,rfl,rfl⟩:=D5 h
   refine AF ?_
   try cbv
   exact⟨[],rfl,rfl,⟨rfl,trivial⟩,trivial,trivial⟩
  ·replace h:=AK (Int.not_lt.2 e) h
   clear e
   try cbv
   obtain⟨rfl,rfl,rfl,rfl⟩:=D5 h
   refine AF ?_
   try cbv
   exact⟨[],rfl,rfl,⟨rfl,trivial⟩,trivial,trivial⟩
 ·replace h:=Aq h
  try cbv
  obtain⟨rfl,rfl,rfl,rfl⟩:=D5 h
  refine AF ?_
  try cbv
  exact⟨[],rfl,rfl,⟨rfl,trivial⟩,trivial,trivial⟩
def MQ:Nat->BA->LD->LD->Int->Bool->Bool->Option (LD×LD×Int×Bool×Bool)
 | 0,_,_,_,_,_,_=>none
 | n+1,s1,l33,l34,z35,b36,b37=>
  bO5 (Uf n WR l34 z35 b36 b37) fun b38 l39 z40 b41 b42=>(if b38=true then bO8 (Ys n l39 z40 b41 b42) fun s43 z44 s45 l46 l47 z48 b49 b50=>D3 64 l33 ([.agg [.str s43,.int .u8 z44,.str s45,.list true 3 l46]]) fun l51=>MQ n s1 l51 l47 z48 b49 b50 else bO4 (SZ n ([.str s1]) l39 z40 b41 b42) fun l60 z61 b62 b63=>Ad l33 fun z64=>bO4 (ZF n z64 (6:Int) l60 z61 b62 b63) fun l65 z66 b67 b68=>some (l33,l65,z66,b67,b68))
def ZG (n:Nat) (s1:BA) (l2:LD) (z3:Int) (b4:Bool) (b5:Bool):Option (LD×LD×Int×Bool×Bool):=
 bO5 (Uf n s1 l2 z3 b4 b5) fun b6 l7 z8 b9 b10=>(if b6=true then some (([]:LD),l7,z8,b9,b10)else bO8 (Ys n l7 z8 b9 b10) fun s11 z12 s13 l14 l15 z16 b17 b18=>bO5 (Uf n WR l15 z16 b17 b18) fun b19 l20 z21 b22 b23=>(if b19=true then bO8 (Ys n l20 z21 b22 b23) fun s24 z25 s26 l27 l28 z29 b30 b31=>D3 64 ([.agg [.str s11,.int .u8 z12,.str s13,.list true 3 l14]]) ([.agg [.str s24,.int .u8 z25,.str s26,.list true 3 l27]]) fun l32=>MQ n s1 l32 l28 z29 b30 b31 else bO4 (SZ n ([.str s1]) l20 z21 b22 b23) fun l52 z53 b54 b55=>bO4 (ZF n (1:Int) (6:Int) l52 z53 b54 b55) fun l56 z57 b58 b59=>some ([.agg [.str s11,.int .u8 z12,.str s13,.list true 3 l14]],l56,z57,b58,b59)))
theorem bR (n:Nat):∀⦃s1 l2 z3 b4 b5 r1 r2 r3 r4 r5⦄,ZG n s1 l2 z3 b4 b5=some (r1,r2,r3,r4,r5)->
    AW Tryz.prog inv 46 [.c (.ptr (.ext 0) 0),.d (.str s1),.c (.bm 47 (.ext 0))] [.cells [.d (.list true 3 l2),.d (.int .i64 z3),.d (.bool b4),.d (.bool b5)]] (.v (.d (.list true 4 r1))) [.cells [.d (.list true 3 r2),.d (.int .i64 r3),.d (.bool r4),.d (.bool r5)]] []:=by
 intro s1 l2 z3 b4 b5 r1 r2 r3 r4 r5 h
 unfold ZG at h
 refine AW.of Ab AO Bp Tryz.func46 rfl (by kernel_rfl) rfl rfl rfl (fun M hM hI=>?_)
 try cbv
 refine AB ?_
 try cbv
 refine AB ?_
 try cbv
 refine AB ?_
 try cbv
 replace h:=Bk h
 obtain⟨b6,l7,z8,b9,b10,hr,h⟩:=h
 refine AD rfl rfl ?_
 try cbv
 refine AI hM hI [.ext 0] (Vo _ hr) rfl (by simp) ⟨rfl,trivial⟩ ⟨trivial,trivial⟩ (by simp) ?_
 clear hr
 try cbv
 cases b6
 rotate_left
 ·replace h:=Aq h
  try cbv
  refine AB ?_
  try cbv
  obtain⟨rfl,rfl,rfl,rfl,rfl⟩:=IC h
  refine AF ?_
  try cbv
  exact⟨[],rfl,rfl,⟨rfl,trivial⟩,trivial,trivial⟩
 replace h:=Ar h
 try cbv
 refine AB ?_
 try cbv
 replace h:=FR h
 obtain⟨s11,z12,s13,l14,l15,z16,b17,b18,hr,h⟩:=h
 refine AD rfl rfl ?_
 try cbv
 refine AI hM hI [.ext 0] (aK _ hr) rfl (by simp) ⟨rfl,trivial⟩ ⟨trivial,trivial⟩ (by simp) ?_
 clear hr
 try cbv
 refine⟨false,?_⟩
 try cbv
 refine⟨true,?_⟩
 try cbv
 refine AB ?_
 try cbv
 refine Pa 1 ?_
 try cbv
 refine AB ?_
 try cbv
 refine AB ?_
 try cbv
 replace h:=Bk h
 obtain⟨b19,l20,z21,b22,b23,hr,h⟩:=h
 refine AD rfl rfl ?_
 try cbv
 refine AI hM hI [.ext 0] (Vo _ hr) rfl (by simp) ⟨rfl,trivial⟩ ⟨trivial,trivial⟩ (by simp) ?_
 clear hr
 try cbv
 cases b19
 ·replace h:=Ar h
  try cbv
  refine AB ?_
  try cbv
  refine⟨false,?_⟩
  try cbv
  refine⟨true,?_⟩
  try cbv
  replace h:=BR h
  obtain⟨l52,z53,b54,b55,hr,h⟩:=h
  refine AD rfl rfl ?_
  try cbv
  refine AI hM hI [.ext 0] (Ug _ hr) rfl (by simp) ⟨rfl,trivial⟩ ⟨trivial,trivial⟩ (by simp) ?_
  clear hr
  try cbv
  refine AB ?_
  try cbv
  refine⟨1,(M.lenI_eq _).trans rfl,?_⟩
  try cbv
  replace h:=BR h
  obtain⟨l56,z57,b58,b59,hr,h⟩:=h
  refine AD rfl rfl ?_
  try cbv
  refine AI hM hI [.ext 0] (bQ _ hr) rfl (by simp) ⟨rfl,trivial⟩ ⟨trivial,trivial⟩ (by simp) ?_
  clear hr
  try cbv
  refine AB ?_
  try cbv
  obtain⟨rfl,rfl,rfl,rfl,rfl⟩:=IC h
  refine AF ?_
  try cbv
  exact⟨[],rfl,rfl,⟨rfl,trivial⟩,trivial,trivial⟩
 replace h:=Aq h
 try cbv
 replace h:=FR h
 obtain⟨s24,z25,s26,l27,l28,z29,b30,b31,hr,h⟩:=h
 refine AD rfl rfl ?_
 try cbv
 refine AI hM hI [.ext 0] (aK _ hr) rfl (by simp) ⟨rfl,trivial⟩ ⟨trivial,trivial⟩ (by simp) ?_
 clear hr
 try cbv
 refine⟨false,?_⟩
 try cbv
 refine⟨true,?_⟩
 try cbv
 replace h:=B2 h
 obtain⟨l32,hb,hz,h⟩:=h
 refine⟨false,?_⟩
 try cbv
 refine⟨(M.lock_iff _).2 hb,l32,hz,true,.inr (by simp),?_⟩
 clear hb hz
 try cbv
 refine SR (T:=Nat×LD×LD×Int×Bool×Bool) [0,1,2,6,7] [.ext 0,.loc 448] 512 (fun t=>⟨[sE 0 0,sS 1 s1,(2,.v (.c (.bm 47 (.ext 0)))),(6,.v (.c (.nils true 4))),(7,.v (.c (.lst (.loc 448) true 4 t.2.1)))],[(.ext 0,.cells [.d (.list true 3 t.2.2.1),.d (.int .i64 t.2.2.2.1),.d (.bool t.2.2.2.2.1),.d (.bool t.2.2.2.2.2)]),(.loc 448,.tok t.2.1.length 4 67)],512⟩)
   (fun t=>t.1<=n/\MQ t.1 s1 t.2.1 t.2.2.1 t.2.2.2.1 t.2.2.2.2.1 t.2.2.2.2.2=some (r1,r2,r3,r4,r5)) (fun t=>t.1) (n,(l32,l28,z29,b30,b31)) ⟨Nat.le_refl _,h⟩ (by cbv) ?_
 clear h
 rintro⟨m1,l33,l34,z35,b36,b37⟩ ⟨hm1,h⟩
 replace hm1:m1<=n:=hm1
 obtain _ | m1:=m1
 ·replace h:MQ 0 s1 l33 l34 z35 b36 b37=some (r1,r2,r3,r4,r5):=h
  rw[MQ]at h
  cases h
 replace h:MQ (m1+1) s1 l33 l34 z35 b36 b37=some (r1,r2,r3,r4,r5):=h
 rw[MQ]at h
 try cbv
 refine AB ?_
 try cbv
 refine AB ?_
 try cbv
 replace h:=Bk h
 obtain⟨b38,l39,z40,b41,b42,hr,h⟩:=h
 refine AD rfl rfl ?_
 try cbv
 refine AI hM hI [.ext 0] (Vo _ hr) rfl (by simp) ⟨rfl,trivial⟩ ⟨trivial,trivial⟩ (by simp) ?_
 clear hr
 try cbv
 cases b38
 rotate_left
 ·replace h:=Aq h
  try cbv
  replace h:=FR h
  obtain⟨s43,z44,s45,l46,l47,z48,b49,b50,hr,h⟩:=h
  refine AD rfl rfl ?_
  try cbv
  refine AI hM hI [.ext 0] (aK _ hr) rfl (by simp) ⟨rfl,trivial⟩ ⟨trivial,trivial⟩ (by simp) ?_
  clear hr
  try cbv
  refine⟨false,?_⟩
  try cbv
  refine⟨true,?_⟩
  try cbv
  replace h:=B2 h
  obtain⟨l51,hb,hz,h⟩:=h
  refine⟨false,?_⟩
  try cbv
  first | refine⟨rfl,(M.lock_iff _).2 hb,l51,hz,?_⟩ | refine⟨(M.lock_iff _).2 hb,l51,hz,?_⟩
  clear hb hz
  try cbv
  exact An (m1,(l51,l47,z48,b49,b50)) [0,1,2,6,7] [.ext 0,.loc 448] 512 ⟨by omega,h⟩ (Nat.lt_succ_of_le (by omega)) (by cbv)
 replace h:=Ar h
 try cbv
 refine AB ?_
 try cbv
 refine⟨false,?_⟩
 try cbv
 refine⟨true,?_⟩
 try cbv
 replace h:=BR h
 obtain⟨l60,z61,b62,b63,hr,h⟩:=h
 refine AD rfl rfl ?_
 try cbv
 refine AI hM hI [.ext 0] (Ug _ hr) rfl (by simp) ⟨rfl,trivial⟩ ⟨trivial,trivial⟩ (by simp) ?_
 clear hr
 try cbv
 refine AB ?_
 try cbv
 replace h:=AP M h
 obtain⟨z64,hz,h⟩:=h
 refine⟨z64,hz,?_⟩
 clear hz
 try cbv
 replace h:=BR h
 obtain⟨l65,z66,b67,b68,hr,h⟩:=h
 refine AD rfl rfl ?_
 try cbv
 refine AI hM hI [.ext 0] (bQ _ hr) rfl (by simp) ⟨rfl,trivial⟩ ⟨trivial,trivial⟩ (by simp) ?_
 clear hr
 try cbv
 refine AB ?_
 try cbv
 obtain⟨rfl,rfl,rfl,rfl,rfl⟩:=IC h
 refine AF ?_
 try cbv
 exact⟨[],rfl,rfl,⟨rfl,trivial⟩,trivial,trivial⟩
def Uh (n:Nat) (s1:BA) (l2:LD) (z3:Int) (b4:Bool) (b5:Bool):Option (LD×Int×Bool×Bool):=
 bO5 (Uf n s1 l2 z3 b4 b5) fun b6 l7 z8 b9 b10=>(if b6=true then some (l7,z8,b9,b10)else none)
theorem Yt (n:Nat):∀⦃s1 l2 z3 b4 b5 r1 r2 r3 r4⦄,Uh n s1 l2 z3 b4 b5=some (r1,r2,r3,r4)->
    AW Tryz.prog inv 46 [.c (.ptr (.ext 0) 0),.d (.str s1),.c (.bm 48 (.ext 0))] [.cells [.d (.list true 3 l2),.d (.int .i64 z3),.d (.bool b4),.d (.bool b5)]] (.v (.d (.list true 4 []))) [.cells [.d (.list true 3 r1),.d (.int .i64 r2),.d (.bool r3),.d (.bool r4)]] []:=by
 intro s1 l2 z3 b4 b5 r1 r2 r3 r4 h
 unfold Uh at h
 refine AW.of Ab AO Bp Tryz.func46 rfl (by kernel_rfl) rfl rfl rfl (fun M hM hI=>?_)
 try cbv
 refine AB ?_
 try cbv
 refine AB ?_
 try cbv
 refine AB ?_
 try cbv
 replace h:=Bk h
 obtain⟨b6,l7,z8,b9,b10,hr,h⟩:=h
 refine AD rfl rfl ?_
 try cbv
 refine AI hM hI [.ext 0] (Vo _ hr) rfl (by simp) ⟨rfl,trivial⟩ ⟨trivial,trivial⟩ (by simp) ?_
 clear hr
 try cbv
 cases b6
 ·replace h:=Ar h
  try cbv
  refine AB ?_
  try cbv
  cases h
 replace h:=Aq h
 try cbv
 refine AB ?_
 try cbv
 obtain⟨rfl,rfl,rfl,rfl⟩:=D5 h
 refine AF ?_
 try cbv
 exact⟨[],rfl,rfl,⟨rfl,trivial⟩,trivial,trivial⟩
def MR:Nat->Int->LD->Int->Bool->Bool->Int->BA->LD->Option (Int×BA×LD×Int×LD×Int×Bool×Bool)
 | 0,_,_,_,_,_,_,_,_=>none
 | n+1,z5,l80,z81,b82,b83,z84,s85,l86=>
  some (z84,s85,l86,z5,l80,z81,b82,b83)
def aL (n:Nat) (l1:LD) (z2:Int) (b3:Bool) (b4:Bool):Option (Int×BA×LD×Int×LD×Int×Bool×Bool):=
 bO5 (aE n l1 z2 b3 b4) fun z5 l6 z7 b8 b9=>bO5 (Uf n GY l6 z7 b8 b9) fun b10 l11 z12 b13 b14=>(if b10=true then bO5 (Yr n l11 z12 b13 b14) fun s15 l16 z17 b18 b19=>bO4 (SZ n ([.str ZW]) l16 z17 b18 b19) fun l20 z21 b22 b23=>bO5 (ZG n WQ l20 z21 b22 b23) fun l24 l25 z26 b27 b28=>MR n z5 l25 z26 b27 b28 (1:Int) s15 l24 else bO5 (Uf n Lu l11 z12 b13 b14) fun b29 l30 z31 b32 b33=>(if b29=true then bO5 (Yr n l30 z31 b32 b33) fun s34 l35 z36 b37 b38=>bO4 (SZ n ([.str ZW]) l35 z36 b37 b38) fun l39 z40 b41 b42=>bO4 (Uh n WQ l39 z40 b41 b42) fun l43 z44 b45 b46=>MR n z5 l43 z44 b45 b46 (2:Int) s34 ([]:LD)else bO4 (SZ n ([.str Ts]) l30 z31 b32 b33) fun l47 z48 b49 b50=>bO5 (ZE n l47 z48 b49 b50) fun s51 l52 z53 b54 b55=>bO4 (SZ n ([.str YJ]) l52 z53 b54 b55) fun l56 z57 b58 b59=>bO5 (ZG n YK l56 z57 b58 b59) fun l60 l61 z62 b63 b64=>bO4 (SZ n ([.str Qj]) l61 z62 b63 b64) fun l65 z66 b67 b68=>bO7 (Xm n l65 z66 b67 b68) fun z69 s70 l71 l72 z73 b74 b75=>bO4 (SZ n ([.str ZW]) l72 z73 b74 b75) fun l76 z77 b78 b79=>none))
theorem dM (n:Nat):∀⦃l1 z2 b3 b4 r1 r2 r3 r4 r5 r6 r7 r8⦄,aL n l1 z2 b3 b4=some (r1,r2,r3,r4,r5,r6,r7,r8)->
    AW Tryz.prog inv 25 [.c (.ptr (.ext 0) 0)] [.cells [.d (.list true 3 l1),.d (.int .i64 z2),.d (.bool b3),.d (.bool b4)]] (.v (.d (.agg [.int .u8 r1,.str r2,.list true 4 r3,.int .u8 0,.str ByteArray.empty,.list true 3 [],.list true 15 [],.int .u8 0,.int .i64 0,.str ByteArray.empty,.str ByteArray.empty,.str ByteArray.empty,.list false 1 [],.list true 8 [],.int .i64 0,.int .i64 r4]))) [.cells [.d (.list true 3 r5),.d (.int .i64 r6),.d (.bool r7),.d (.bool r8)]] []:=by
 intro l1 z2 b3 b4 r1 r2 r3 r4 r5 r6 r7 r8 h
 unfold aL at h
 refine AW.of Ab AO Bp Tryz.func25 rfl (by kernel_rfl) rfl rfl rfl (fun M hM hI=>?_)
 try cbv
 refine AB ?_
 try cbv
 refine AB ?_
 try cbv
 replace h:=Bk h
 obtain⟨z5,l6,z7,b8,b9,hr,h⟩:=h
 refine AD rfl rfl ?_
 try cbv
 refine AI hM hI [.ext 0] (dI _ hr) rfl (by simp) ⟨rfl,trivial⟩ ⟨trivial,trivial⟩ (by simp) ?_
 clear hr
 try cbv
 refine Aw (T:=Nat×LD×Int×Bool×Bool×Int×BA×LD) (fun t=>⟨[sL 2 0,sL 3 128],[(.ext 0,.cells [.d (.list true 3 t.2.1),.d (.int .i64 t.2.2.1),.d (.bool t.2.2.2.1),.d (.bool t.2.2.2.2.1)]),(.loc 0,.cells [.d (.int .u8 0),.d (.str ByteArray.empty),.nils true 4,.d (.int .u8 0),.d (.str ByteArray.empty),.nils true 3,.nils true 15,.d (.int .u8 0),.d (.int .i64 0),.d (.str ByteArray.empty),.d (.str ByteArray.empty),.d (.str ByteArray.empty),.nils false 1,.nils true 8,.d (.int .i64 0),.d (.int .i64 0)]),(.loc 128,.cells [.d (.int .u8 t.2.2.2.2.2.1),.d (.str t.2.2.2.2.2.2.1),.d (.list true 4 t.2.2.2.2.2.2.2),.d (.int .u8 0),.d (.str ByteArray.empty),.nils true 3,.nils true 15,.d (.int .u8 0),.d (.int .i64 0),.d (.str ByteArray.empty),.d (.str ByteArray.empty),.d (.str ByteArray.empty),.nils false 1,.nils true 8,.d (.int .i64 0),.d (.int .i64 z5)])],864⟩) (fun t=>t.1<=n/\MR t.1 z5 t.2.1 t.2.2.1 t.2.2.2.1 t.2.2.2.2.1 t.2.2.2.2.2.1 t.2.2.2.2.2.2.1 t.2.2.2.2.2.2.2=some (r1,r2,r3,r4,r5,r6,r7,r8)) ?_ ?_
 rotate_left
 ·clear h
  rintro⟨m1,l80,z81,b82,b83,z84,s85,l86⟩ ⟨hm1,h⟩
  replace hm1:m1<=n:=hm1
  obtain _ | m1:=m1
  ·replace h:MR 0 z5 l80 z81 b82 b83 z84 s85 l86=some (r1,r2,r3,r4,r5,r6,r7,r8):=h
   rw[MR]at h
   cases h
  replace h:MR (m1+1) z5 l80 z81 b82 b83 z84 s85 l86=some (r1,r2,r3,r4,r5,r6,r7,r8):=h
  rw[MR]at h
  try cbv
  refine AB ?_
  try cbv
  obtain⟨rfl,rfl,rfl,rfl,rfl,rfl,rfl,rfl⟩:=Wv h
  refine AF ?_
  try cbv
  exact⟨[],rfl,rfl,⟨rfl,trivial⟩,trivial,trivial⟩
 try cbv
 refine AB ?_
 try cbv
 replace h:=Bk h
 obtain⟨b10,l11,z12,b13,b14,hr,h⟩:=h
 refine AD rfl rfl ?_
 try cbv
 refine AI hM hI [.ext 0] (Vo _ hr) rfl (by simp) ⟨rfl,trivial⟩ ⟨trivial,trivial⟩ (by simp) ?_
 clear hr
 try cbv
 cases b10
 rotate_left
 ·replace h:=Aq h
  try cbv
  refine AB ?_
  try cbv
  replace h:=Bk h
  obtain⟨s15,l16,z17,b18,b19,hr,h⟩:=h
  refine AD rfl rfl ?_
  try cbv
  refine AI hM hI [.ext 0] (aH _ hr) rfl (by simp) ⟨rfl,trivial⟩ ⟨trivial,trivial⟩ (by simp) ?_
  clear hr
  try cbv
  refine AB ?_
  try cbv
  refine⟨false,?_⟩
  try cbv
  refine⟨true,?_⟩
  try cbv
  replace h:=BR h
  obtain⟨l20,z21,b22,b23,hr,h⟩:=h
  refine AD rfl rfl ?_
  try cbv
  refine AI hM hI [.ext 0] (Ug _ hr) rfl (by simp) ⟨rfl,trivial⟩ ⟨trivial,trivial⟩ (by simp) ?_
  clear hr
  try cbv
  replace h:=Bk h
  obtain⟨l24,l25,z26,b27,b28,hr,h⟩:=h
  refine AD rfl rfl ?_
  try cbv
  refine AI hM hI [.ext 0] (bR _ hr) rfl (by simp) ⟨rfl,trivial⟩ ⟨trivial,trivial⟩ (by simp) ?_
  clear hr
  try cbv
  exact AA (n,(l25,z26,b27,b28,(1:Int),s15,l24)) [2,3] [.ext 0,.loc 0,.loc 128] 864 ⟨by omega,h⟩ (by cbv)
 replace h:=Ar h
 try cbv
 refine AB ?_
 try cbv
 replace h:=Bk h
 obtain⟨b29,l30,z31,b32,b33,hr,h⟩:=h
 refine AD rfl rfl ?_
 try cbv
 refine AI hM hI [.ext 0] (Vo _ hr) rfl (by simp) ⟨rfl,trivial⟩ ⟨trivial,trivial⟩ (by simp) ?_
 clear hr
 try cbv
 cases b29
 rotate_left
 ·replace h:=Aq h
  try cbv
  refine AB ?_
  try cbv
  replace h:=Bk h
  obtain⟨s34,l35,z36,b37,b38,hr,h⟩:=h
  refine AD rfl rfl ?_
  try cbv
  refine AI hM hI [.ext 0] (aH _ hr) rfl (by simp) ⟨rfl,trivial⟩ ⟨trivial,trivial⟩ (by simp) ?_
  clear hr
  try cbv
  refine AB ?_
  try cbv
  refine⟨false,?_⟩
  try cbv
  refine⟨true,?_⟩
  try cbv
  replace h:=BR h
  obtain⟨l39,z40,b41,b42,hr,h⟩:=h
  refine AD rfl rfl ?_
  try cbv
  refine AI hM hI [.ext 0] (Ug _ hr) rfl (by simp) ⟨rfl,trivial⟩ ⟨trivial,trivial⟩ (by simp) ?_
  clear hr
  try cbv
  replace h:=BR h
  obtain⟨l43,z44,b45,b46,hr,h⟩:=h
  refine AD rfl rfl ?_
  try cbv
  refine AI hM hI [.ext 0] (Yt _ hr) rfl (by simp) ⟨rfl,trivial⟩ ⟨trivial,trivial⟩ (by simp) ?_
  clear hr
  try cbv
  exact AA (n,(l43,z44,b45,b46,(2:Int),s34,([]:LD))) [2,3] [.ext 0,.loc 0,.loc 128] 864 ⟨by omega,h⟩ (by cbv)
 replace h:=Ar h
 try cbv
 refine AB ?_
 try cbv
 refine⟨false,?_⟩
 try cbv
 refine⟨true,?_⟩
 try cbv
 replace h:=BR h
 obtain⟨l47,z48,b49,b50,hr,h⟩:=h
 refine AD rfl rfl ?_
 try cbv
 refine AI hM hI [.ext 0] (Ug _ hr) rfl (by simp) ⟨rfl,trivial⟩ ⟨trivial,trivial⟩ (by simp) ?_
 clear hr
 try cbv
 refine AB ?_
 try cbv
 replace h:=Bk h
 obtain⟨s51,l52,z53,b54,b55,hr,h⟩:=h
 refine AD rfl rfl ?_
 try cbv
 refine AI hM hI [.ext 0] (bO _ hr) rfl (by simp) ⟨rfl,trivial⟩ ⟨trivial,trivial⟩ (by simp) ?_
 clear hr
 try cbv
 refine AB ?_
 try cbv
 refine⟨false,?_⟩
 try cbv
 refine⟨true,?_⟩
 try cbv
 replace h:=BR h
 obtain⟨l56,z57,b58,b59,hr,h⟩:=h
 refine AD rfl rfl ?_
 try cbv
 refine AI hM hI [.ext 0] (Ug _ hr) rfl (by simp) ⟨rfl,trivial⟩ ⟨trivial,trivial⟩ (by simp) ?_
 clear hr
 try cbv
 refine AB ?_
 try cbv
 replace h:=Bk h
 obtain⟨l60,l61,z62,b63,b64,hr,h⟩:=h
 refine AD rfl rfl ?_
 try cbv
 refine AI hM hI [.ext 0] (bR _ hr) rfl (by simp) ⟨rfl,trivial⟩ ⟨trivial,trivial⟩ (by simp) ?_
 clear hr
 try cbv
 refine AB ?_
 try cbv
 refine⟨false,?_⟩
 try cbv
 refine⟨true,?_⟩
 try cbv
 replace h:=BR h
 obtain⟨l65,z66,b67,b68,hr,h⟩:=h
 refine AD rfl rfl ?_
 try cbv
 refine AI hM hI [.ext 0] (Ug _ hr) rfl (by simp) ⟨rfl,trivial⟩ ⟨trivial,trivial⟩ (by simp) ?_
 clear hr
 try cbv
 refine AB ?_
 try cbv
 replace h:=Il h
 obtain⟨z69,s70,l71,l72,z73,b74,b75,hr,h⟩:=h
 refine AD rfl rfl ?_
 try cbv
 refine AI hM hI [.ext 0] (bP _ hr) rfl (by simp) ⟨rfl,trivial⟩ ⟨trivial,trivial⟩ (by simp) ?_
 clear hr
 try cbv
 refine AB ?_
 try cbv
 refine⟨false,?_⟩
 try cbv
 refine⟨true,?_⟩
 try cbv
 replace h:=BR h
 obtain⟨l76,z77,b78,b79,hr,h⟩:=h
 refine AD rfl rfl ?_
 try cbv
 refine AI hM hI [.ext 0] (Ug _ hr) rfl (by simp) ⟨rfl,trivial⟩ ⟨trivial,trivial⟩ (by simp) ?_
 clear hr
 try cbv
 refine AB ?_
 try cbv
 cases h
mutual
def MS:Nat->LD->Int->Int->Int->Option (Int)
 | 0,_,_,_,_=>none
 | n+1,l3,z4,z5,z6=>
  (if z6<z4 then MT n l3 z4 z5 z6 true else MT n l3 z4 z5 z6 false)
def MT:Nat->LD->Int->Int->Int->Bool->Option (Int)
 | 0,_,_,_,_,_=>none
 | n+1,l3,z4,z5,z6,b7=>
  (if b7=true then BT l3 z6 fun x8=>Cl x8 fun z9 s10 l11=>bO1 (Yu n z9 s10 l11) fun z12=>Al (if z12>z5 then z12 else z5) fun z13=>Al (IntKind.wrap .i64 (z6+1)) fun z14=>MS n l3 z4 z13 z14 else Al (IntKind.wrap .i64 (z5+1)) fun z15=>some z15)
def Yu:Nat->Int->BA->LD->Option (Int)
 | 0,_,_,_=>none
 | n+1,z1,s2,l3=>
  Ad l3 fun z4=>MS n l3 z4 (0:Int) (0:Int)
end
theorem bT (n:Nat):∀⦃z1 s2 l3 r1⦄,Yu n z1 s2 l3=some r1->
    AW Tryz.prog inv 85 [.d (.agg [.int .u8 z1,.str s2,.list true 3 l3])] [] (.v (.d (.int .i64 r1))) [] []:=by
 induction n using Nat.strongRecOn with | _ n ih=>
 obtain _ | n:=n
 ·intro z1 s2 l3 r1 h
  cases (show (none:Option _)=some _ from h)
 intro z1 s2 l3 r1 h
 rw[Yu]at h
 refine AW.of Ab AO Bp Tryz.func85 rfl (by kernel_rfl) rfl rfl rfl (fun M hM hI=>?_)
 try cbv
 refine AB ?_
 try cbv
 refine AB ?_
 try cbv
 refine AB ?_
 try cbv
 refine AB ?_
 try cbv
 replace h:=AP M h
 obtain⟨z4,hz,h⟩:=h
 refine⟨z4,hz,?_⟩
 clear hz
 try cbv
 refine BF (T:=Nat×Int×Int) [2,3,7,8,9] [] 224 (fun t=>⟨[sI 2 0,sI 3 t.2.1,sT 7 3 l3,sI 8 z4,sI 9 t.2.2],[],224⟩)
   (fun t=>t.1<=n/\MS t.1 l3 z4 t.2.1 t.2.2=some r1) (fun t=>t.1) (n,((0:Int),(0:Int))) ⟨Nat.le_refl _,h⟩ (by cbv) ?_
 clear h
 rintro⟨m1,z5,z6⟩ ⟨hm1,h⟩
 replace hm1:m1<=n:=hm1
 obtain _ | m1:=m1
 ·replace h:MS 0 l3 z4 z5 z6=some r1:=h
  rw[MS]at h
  cases h
 replace h:MS (m1+1) l3 z4 z5 z6=some r1:=h
 rw[MS]at h
 try cbv
 refine AH 10 [2,3,7,8,9,10] [] 256 (fun m b=>m<=m1/\MT m l3 z4 z5 z6 b=some r1) ?_ ?_
 ·try cbv
  refine Aa (fun e=>?_) (fun e=>?_)
  ·replace h:=AJ e h
   clear e
   try cbv
   exact AA (m1,true) [2,3,7,8,9,10] [] 256 ⟨by omega,h⟩ (by cbv)
  replace h:=AK (Int.not_lt.2 e) h
  clear e
  try cbv
  exact AA (m1,false) [2,3,7,8,9,10] [] 256 ⟨by omega,h⟩ (by cbv)
 clear h
 rintro⟨m2,b7⟩ ⟨hm2,h⟩
 try cbv
 replace hm2:m2<=m1:=hm2
 obtain _ | m2:=m2
 ·replace h:MT 0 l3 z4 z5 z6 b7=some r1:=h
  rw[MT]at h
  cases h
 replace h:MT (m2+1) l3 z4 z5 z6 b7=some r1:=h
 rw[MT]at h
 try cbv
 refine AB ?_
 try cbv
 cases b7
 ·replace h:=Ar h
  try cbv
  refine AB ?_
  try cbv
  replace h:=AN h
  obtain⟨z15,hz,h⟩:=h
  refine⟨z15,hz,?_⟩
  clear hz
  try cbv
  obtain rfl:=Option.some.inj h
  refine AF ?_
  try cbv
  exact⟨[],by trivial⟩
 replace h:=Aq h
 try cbv
 refine AB ?_
 try cbv
 refine AB ?_
 try cbv
 replace h:=Ae h
 obtain⟨x8,⟨hx0,hx⟩,h⟩:=h
 refine⟨x8,hx0,hx,?_⟩
 clear hx0 hx
 replace h:=DE h
 obtain⟨z9,s10,l11,rfl,h⟩:=h
 try cbv
 replace h:=AG h
 obtain⟨z12,hr,h⟩:=h
 refine AD rfl rfl ?_
 try cbv
 refine AE hM hI ((ih _ (by omega)) hr) rfl ?_
 clear hr
 try cbv
 replace h:=AN h
 obtain⟨z13,hz,h⟩:=h
 refine⟨z13,hz,?_⟩
 clear hz
 try cbv
 replace h:=AN h
 obtain⟨z14,hz,h⟩:=h
 refine⟨z14,hz,?_⟩
 clear hz
 try cbv
 exact An (m2,(z13,z14)) [2,3,7,8,9] [] 224 ⟨by omega,h⟩ (Nat.lt_succ_of_le (by omega)) (by cbv)
mutual
def MU:Nat->LD->Int->Int->Int->Option (Int)
 | 0,_,_,_,_=>none
 | n+1,l7,z9,z10,z11=>
  (if z11<z9 then MV n l7 z9 z10 z11 true else MV n l7 z9 z10 z11 false)
def MV:Nat->LD->Int->Int->Int->Bool->Option (Int)
 | 0,_,_,_,_,_=>none
 | n+1,l7,z9,z10,z11,b12=>
  (if b12=true then BT l7 z11 fun x13=>Cz x13 fun z14 z15 s16 s17 s18 l19 l20 z21=>bO1 (ZH n z14 z15 s16 s17 s18 l19 l20 z21) fun z22=>Al (if z22>z10 then z22 else z10) fun z23=>Al (IntKind.wrap .i64 (z11+1)) fun z24=>MU n l7 z9 z23 z24 else Al (IntKind.wrap .i64 (z10+1)) fun z25=>some z25)
def ZH:Nat->Int->Int->BA->BA->BA->LD->LD->Int->Option (Int)
 | 0,_,_,_,_,_,_,_,_=>none
 | n+1,z1,z2,s3,s4,s5,l6,l7,z8=>
  Ad l7 fun z9=>MU n l7 z9 (0:Int) (0:Int)
end
theorem dN (n:Nat):∀⦃z1 z2 s3 s4 s5 l6 l7 z8 r1⦄,ZH n z1 z2 s3 s4 s5 l6 l7 z8=some r1->
    AW Tryz.prog inv 86 [.d (.agg [.int .u8 z1,.int .i64 z2,.str s3,.str s4,.str s5,.list false 1 l6,.list true 8 l7,.int .i64 z8])] [] (.v (.d (.int .i64 r1))) [] []:=by
 induction n using Nat.strongRecOn with | _ n ih=>
 obtain _ | n:=n
 ·intro z1 z2 s3 s4 s5 l6 l7 z8 r1 h
  cases (show (none:Option _)=some _ from h)
 intro z1 z2 s3 s4 s5 l6 l7 z8 r1 h
 rw[ZH]at h
 refine AW.of Ab AO Bp Tryz.func86 rfl (by kernel_rfl) rfl rfl rfl (fun M hM hI=>?_)
 try cbv
 refine AB ?_
 try cbv
 refine AB ?_
 try cbv
 refine AB ?_
 try cbv
 refine AB ?_
 try cbv
 replace h:=AP M h
 obtain⟨z9,hz,h⟩:=h
 refine⟨z9,hz,?_⟩
 clear hz
 try cbv
 refine BF (T:=Nat×Int×Int) [2,3,7,8,9] [] 224 (fun t=>⟨[sI 2 0,sI 3 t.2.1,sT 7 8 l7,sI 8 z9,sI 9 t.2.2],[],224⟩)
   (fun t=>t.1<=n/\MU t.1 l7 z9 t.2.1 t.2.2=some r1) (fun t=>t.1) (n,((0:Int),(0:Int))) ⟨Nat.le_refl _,h⟩ (by cbv) ?_
 clear h
 rintro⟨m1,z10,z11⟩ ⟨hm1,h⟩
 replace hm1:m1<=n:=hm1
 obtain _ | m1:=m1
 ·replace h:MU 0 l7 z9 z10 z11=some r1:=h
  rw[MU]at h
  cases h
 replace h:MU (m1+1) l7 z9 z10 z11=some r1:=h
 rw[MU]at h
 try cbv
 refine AH 10 [2,3,7,8,9,10] [] 256 (fun m b=>m<=m1/\MV m l7 z9 z10 z11 b=some r1) ?_ ?_
 ·try cbv
  refine Aa (fun e=>?_) (fun e=>?_)
  ·replace h:=AJ e h
   clear e
   try cbv
   exact AA (m1,true) [2,3,7,8,9,10] [] 256 ⟨by omega,h⟩ (by cbv)
  replace h:=AK (Int.not_lt.2 e) h
  clear e
  try cbv
  exact AA (m1,false) [2,3,7,8,9,10] [] 256 ⟨by omega,h⟩ (by cbv)
 clear h
 rintro⟨m2,b12⟩ ⟨hm2,h⟩
 try cbv
 replace hm2:m2<=m1:=hm2
 obtain _ | m2:=m2
 ·replace h:MV 0 l7 z9 z10 z11 b12=some r1:=h
  rw[MV]at h
  cases h
 replace h:MV (m2+1) l7 z9 z10 z11 b12=some r1:=h
 rw[MV]at h
 try cbv
 refine AB ?_
 try cbv
 cases b12
 ·replace h:=Ar h
  try cbv
  refine AB ?_
  try cbv
  replace h:=AN h
  obtain⟨z25,hz,h⟩:=h
  refine⟨z25,hz,?_⟩
  clear hz
  try cbv
  obtain rfl:=Option.some.inj h
  refine AF ?_
  try cbv
  exact⟨[],by trivial⟩
 replace h:=Aq h
 try cbv
 refine AB ?_
 try cbv
 refine AB ?_
 try cbv
 replace h:=Ae h
 obtain⟨x13,⟨hx0,hx⟩,h⟩:=h
 refine⟨x13,hx0,hx,?_⟩
 clear hx0 hx
 replace h:=CB h
 obtain⟨z14,z15,s16,s17,s18,l19,l20,z21,rfl,h⟩:=h
 try cbv
 replace h:=AG h
 obtain⟨z22,hr,h⟩:=h
 refine AD rfl rfl ?_
 try cbv
 refine AE hM hI ((ih _ (by omega)) hr) rfl ?_
 clear hr
 try cbv
 replace h:=AN h
 obtain⟨z23,hz,h⟩:=h
 refine⟨z23,hz,?_⟩
 clear hz
 try cbv
 replace h:=AN h
 obtain⟨z24,hz,h⟩:=h
 refine⟨z24,hz,?_⟩
 clear hz
 try cbv
 exact An (m2,(z23,z24)) [2,3,7,8,9] [] 224 ⟨by omega,h⟩ (Nat.lt_succ_of_le (by omega)) (by cbv)
def MW:Nat->LD->Int->Bool->Option (Int)
 | 0,_,_,_=>none
 | n+1,l7,z21,b33=>
  (if b33=true then BT l7 0 fun x34=>Gb x34 fun z35 s36 s37 l38 z39 s40 l41 z42 s43 l44 l45 l46 l47 l48 z49=>none else Al (IntKind.wrap .i64 (z21+1)) fun z50=>some z50)
def Nc:Nat->LD->Int->Int->Option (Int)
 | 0,_,_,_=>none
 | n+1,l7,z21,z32=>
  (if (0:Int)<z32 then MW n l7 z21 true else MW n l7 z21 false)
mutual
def MX:Nat->LD->LD->Int->Int->Int->Option (Int)
 | 0,_,_,_,_,_=>none
 | n+1,l3,l7,z20,z21,z22=>
  (if z22<z20 then MY n l3 l7 z20 z21 z22 true else MY n l3 l7 z20 z21 z22 false)
def MY:Nat->LD->LD->Int->Int->Int->Bool->Option (Int)
 | 0,_,_,_,_,_,_=>none
 | n+1,l3,l7,z20,z21,z22,b23=>
  (if b23=true then BT l3 z22 fun x24=>B5 x24 fun s25 z26 s27 l28=>bO1 (Yu n z26 s27 l28) fun z29=>Al (if z29>z21 then z29 else z21) fun z30=>Al (IntKind.wrap .i64 (z22+1)) fun z31=>MX n l3 l7 z20 z30 z31 else Ad l7 fun z32=>Nc n l7 z21 z32)
end
def aN (n:Nat) (z1:Int) (s2:BA) (l3:LD) (z4:Int) (s5:BA) (l6:LD) (l7:LD) (z8:Int) (z9:Int) (s10:BA) (s11:BA) (s12:BA) (l13:LD) (l14:LD) (z15:Int) (z16:Int):Option (Int):=
 bO1 (Yu n z4 s5 l6) fun z17=>bO1 (ZH n z8 z9 s10 s11 s12 l13 l14 z15) fun z18=>Al (if z18>z17 then z18 else z17) fun z19=>Ad l3 fun z20=>MX n l3 l7 z20 z19 (0:Int)
theorem dP (n:Nat):∀⦃z1 s2 l3 z4 s5 l6 l7 z8 z9 s10 s11 s12 l13 l14 z15 z16 r1⦄,aN n z1 s2 l3 z4 s5 l6 l7 z8 z9 s10 s11 s12 l13 l14 z15 z16=some r1->
    AW Tryz.prog inv 52 [.d (.agg [.int .u8 z1,.str s2,.list true 4 l3,.int .u8 z4,.str s5,.list true 3 l6,.list true 15 l7,.int .u8 z8,.int .i64 z9,.str s10,.str s11,.str s12,.list false 1 l13,.list true 8 l14,.int .i64 z15,.int .i64 z16])] [] (.v (.d (.int .i64 r1))) [] []:=by
 intro z1 s2 l3 z4 s5 l6 l7 z8 z9 s10 s11 s12 l13 l14 z15 z16 r1 h
 unfold aN at h
 refine AW.of Ab AO Bp Tryz.func52 rfl (by kernel_rfl) rfl rfl rfl (fun M hM hI=>?_)
 try cbv
 refine AB ?_
 try cbv
 refine AB ?_
 try cbv
 replace h:=AG h
 obtain⟨z17,hr,h⟩:=h
 first | refine .inr (.inl ⟨[],?_⟩) | refine .inl ⟨[],?_⟩
 try cbv
 refine AE hM hI (bT _ hr) rfl ?_
 clear hr
 try cbv
 replace h:=AG h
 obtain⟨z18,hr,h⟩:=h
 first | refine .inr (.inl ⟨[],?_⟩) | refine .inl ⟨[],?_⟩
 try cbv
 refine AE hM hI (dN _ hr) rfl ?_
 clear hr
 try cbv
 replace h:=AN h
 obtain⟨z19,hz,h⟩:=h
 refine⟨z19,hz,?_⟩
 clear hz
 try cbv
 refine drawn ?_ ?_
 ·show _=true
  kernel_rfl
 try cbv
 refine AB ?_
 try cbv
 refine AB ?_
 try cbv
 replace h:=AP M h
 obtain⟨z20,hz,h⟩:=h
 refine⟨z20,hz,?_⟩
 clear hz
 try cbv
 refine BF (T:=Nat×Int×Int) [1,2,3,16,17,18] [.loc 0] 448 (fun t=>⟨[sL 1 0,sI 2 0,sI 3 t.2.1,sT 16 4 l3,sI 17 z20,sI 18 t.2.2],[(.loc 0,.cells [.d (.int .u8 z1),.d (.str s2),.d (.list true 4 l3),.d (.int .u8 z4),.d (.str s5),.d (.list true 3 l6),.d (.list true 15 l7),.d (.int .u8 z8),.d (.int .i64 z9),.d (.str s10),.d (.str s11),.d (.str s12),.d (.list false 1 l13),.d (.list true 8 l14),.d (.int .i64 z15),.d (.int .i64 z16)])],448⟩)
   (fun t=>t.1<=n/\MX t.1 l3 l7 z20 t.2.1 t.2.2=some r1) (fun t=>t.1) (n,(z19,(0:Int))) ⟨Nat.le_refl _,h⟩ (by cbv) ?_
 clear h
 rintro⟨m1,z21,z22⟩ ⟨hm1,h⟩
 replace hm1:m1<=n:=hm1
 obtain _ | m1:=m1
 ·replace h:MX 0 l3 l7 z20 z21 z22=some r1:=h
  rw[MX]at h
  cases h
 replace h:MX (m1+1) l3 l7 z20 z21 z22=some r1:=h
 rw[MX]at h
 try cbv
 refine AH 19 [1,2,3,16,17,18,19] [.loc 0] 480 (fun m b=>m<=m1/\MY m l3 l7 z20 z21 z22 b=some r1) ?_ ?_
 ·try cbv
  refine Aa (fun e=>?_) (fun e=>?_)
  ·replace h:=AJ e h
   clear e
   try cbv
   exact AA (m1,true) [1,2,3,16,17,18,19] [.loc 0] 480 ⟨by omega,h⟩ (by cbv)
  replace h:=AK (Int.not_lt.2 e) h
  clear e
  try cbv
  exact AA (m1,false) [1,2,3,16,17,18,19] [.loc 0] 480 ⟨by omega,h⟩ (by cbv)
 clear h
 rintro⟨m2,b23⟩ ⟨hm2,h⟩
 try cbv
 replace hm2:m2<=m1:=hm2
 obtain _ | m2:=m2
 ·replace h:MY 0 l3 l7 z20 z21 z22 b23=some r1:=h
  rw[MY]at h
  cases h
 replace h:MY (m2+1) l3 l7 z20 z21 z22 b23=some r1:=h
 rw[MY]at h
 try cbv
 refine AB ?_
 try cbv
 cases b23
 rotate_left
 ·replace h:=Aq h
  try cbv
  refine AB ?_
  try cbv
  refine AB ?_
  try cbv
  replace h:=Ae h
  obtain⟨x24,⟨hx0,hx⟩,h⟩:=h
  refine⟨x24,hx0,hx,?_⟩
  clear hx0 hx
  replace h:=CQ h
  obtain⟨s25,z26,s27,l28,rfl,h⟩:=h
  try cbv
  replace h:=AG h
  obtain⟨z29,hr,h⟩:=h
  refine AD rfl rfl ?_
  try cbv
  refine AE hM hI (bT _ hr) rfl ?_
  clear hr
  try cbv
  replace h:=AN h
  obtain⟨z30,hz,h⟩:=h
  refine⟨z30,hz,?_⟩
  clear hz
  try cbv
  replace h:=AN h
  obtain⟨z31,hz,h⟩:=h
  refine⟨z31,hz,?_⟩
  clear hz
  try cbv
  exact An (m2,(z30,z31)) [1,2,3,16,17,18] [.loc 0] 448 ⟨by omega,h⟩ (Nat.lt_succ_of_le (by omega)) (by cbv)
 replace h:=Ar h
 try cbv
 refine AB ?_
 try cbv
 refine AB ?_
 try cbv
 replace h:=AP M h
 obtain⟨z32,hz,h⟩:=h
 refine⟨z32,hz,?_⟩
 clear hz
 try cbv
 refine BF (T:=Nat×Unit) [2,3,29,30,31] [] 608 (fun t=>⟨[sI 2 0,sI 3 z21,sT 29 15 l7,sI 30 z32,sI 31 0],[],608⟩)
   (fun t=>t.1<=m2/\Nc t.1 l7 z21 z32=some r1) (fun t=>t.1) (m2,()) ⟨Nat.le_refl _,h⟩ (by cbv) ?_
 clear h
 rintro⟨m3,_⟩ ⟨hm3,h⟩
 replace hm3:m3<=m2:=hm3
 obtain _ | m3:=m3
 ·replace h:Nc 0 l7 z21 z32=some r1:=h
  rw[Nc]at h
  cases h
 replace h:Nc (m3+1) l7 z21 z32=some r1:=h
 rw[Nc]at h
 try cbv
 refine AH 32 [2,3,29,30,31,32] [] 640 (fun m b=>m<=m3/\MW m l7 z21 b=some r1) ?_ ?_
 ·try cbv
  refine Aa (fun e=>?_) (fun e=>?_)
  ·replace h:=AJ e h
   clear e
   try cbv
   exact AA (m3,true) [2,3,29,30,31,32] [] 640 ⟨by omega,h⟩ (by cbv)
  replace h:=AK (Int.not_lt.2 e) h
  clear e
  try cbv
  exact AA (m3,false) [2,3,29,30,31,32] [] 640 ⟨by omega,h⟩ (by cbv)
 clear h
 rintro⟨m4,b33⟩ ⟨hm4,h⟩
 try cbv
 replace hm4:m4<=m3:=hm4
 obtain _ | m4:=m4
 ·replace h:MW 0 l7 z21 b33=some r1:=h
  rw[MW]at h
  cases h
 replace h:MW (m4+1) l7 z21 b33=some r1:=h
 rw[MW]at h
 try cbv
 refine AB ?_
 try cbv
 cases b33
 ·replace h:=Ar h
  try cbv
  refine AB ?_
  try cbv
  replace h:=AN h
  obtain⟨z50,hz,h⟩:=h
  refine⟨z50,hz,?_⟩
  clear hz
  try cbv
  obtain rfl:=Option.some.inj h
  refine AF ?_
  try cbv
  exact⟨[],by trivial⟩
 replace h:=Aq h
 try cbv
 refine AB ?_
 try cbv
 refine AB ?_
 try cbv
 replace h:=Ae h
 obtain⟨x34,⟨hx0,hx⟩,h⟩:=h
 refine⟨x34,hx0,hx,?_⟩
 clear hx0 hx
 replace h:=FT h
 obtain⟨z35,s36,s37,l38,z39,s40,l41,z42,s43,l44,l45,l46,l47,l48,z49,rfl,h⟩:=h
 try cbv
 cases h
mutual
def MZ:Nat->LD->Int->Int->Int->Option (Int)
 | 0,_,_,_,_=>none
 | n+1,l1,z2,z3,z4=>
  (if z4<z2 then Ma n l1 z2 z3 z4 true else Ma n l1 z2 z3 z4 false)
def Ma:Nat->LD->Int->Int->Int->Bool->Option (Int)
 | 0,_,_,_,_,_=>none
 | n+1,l1,z2,z3,z4,b5=>
  (if b5=true then BT l1 z4 fun x6=>Bv x6 fun z7 s8 l9 z10 s11 l12 l13 z14 z15 s16 s17 s18 l19 l20 z21 z22=>bO1 (aN n z7 s8 l9 z10 s11 l12 l13 z14 z15 s16 s17 s18 l19 l20 z21 z22) fun z23=>Al (if z23>z3 then z23 else z3) fun z24=>Al (IntKind.wrap .i64 (z4+1)) fun z25=>MZ n l1 z2 z24 z25 else Al (IntKind.wrap .i64 (z3+1)) fun z26=>some z26)
end
def aO (n:Nat) (l1:LD):Option (Int):=
 Ad l1 fun z2=>MZ n l1 z2 (0:Int) (0:Int)
theorem dQ (n:Nat):∀⦃l1 r1⦄,aO n l1=some r1->
    AW Tryz.prog inv 26 [.d (.agg [.list true 16 l1])] [] (.v (.d (.int .i64 r1))) [] []:=by
 intro l1 r1 h
 unfold aO at h
 refine AW.of Ab AO Bp Tryz.func26 rfl (by kernel_rfl) rfl rfl rfl (fun M hM hI=>?_)
 try cbv
 refine AB ?_
 try cbv
 refine AB ?_
 try cbv
 refine AB ?_
 try cbv
 refine AB ?_
 try cbv
 replace h:=AP M h
 obtain⟨z2,hz,h⟩:=h
 refine⟨z2,hz,?_⟩
 clear hz
 try cbv
 refine BF (T:=Nat×Int×Int) [2,3,7,8,9] [] 224 (fun t=>⟨[sI 2 0,sI 3 t.2.1,sT 7 16 l1,sI 8 z2,sI 9 t.2.2],[],224⟩)
   (fun t=>t.1<=n/\MZ t.1 l1 z2 t.2.1 t.2.2=some r1) (fun t=>t.1) (n,((0:Int),(0:Int))) ⟨Nat.le_refl _,h⟩ (by cbv) ?_
 clear h
 rintro⟨m1,z3,z4⟩ ⟨hm1,h⟩
 replace hm1:m1<=n:=hm1
 obtain _ | m1:=m1
 ·replace h:MZ 0 l1 z2 z3 z4=some r1:=h
  rw[MZ]at h
  cases h
 replace h:MZ (m1+1) l1 z2 z3 z4=some r1:=h
 rw[MZ]at h
 try cbv
 refine AH 10 [2,3,7,8,9,10] [] 256 (fun m b=>m<=m1/\Ma m l1 z2 z3 z4 b=some r1) ?_ ?_
 ·try cbv
  refine Aa (fun e=>?_) (fun e=>?_)
  ·replace h:=AJ e h
   clear e
   try cbv
   exact AA (m1,true) [2,3,7,8,9,10] [] 256 ⟨by omega,h⟩ (by cbv)
  replace h:=AK (Int.not_lt.2 e) h
  clear e
  try cbv
  exact AA (m1,false) [2,3,7,8,9,10] [] 256 ⟨by omega,h⟩ (by cbv)
 clear h
 rintro⟨m2,b5⟩ ⟨hm2,h⟩
 try cbv
 replace hm2:m2<=m1:=hm2
 obtain _ | m2:=m2
 ·replace h:Ma 0 l1 z2 z3 z4 b5=some r1:=h
  rw[Ma]at h
  cases h
 replace h:Ma (m2+1) l1 z2 z3 z4 b5=some r1:=h
 rw[Ma]at h
 try cbv
 refine AB ?_
 try cbv
 cases b5
 ·replace h:=Ar h
  try cbv
  refine AB ?_
  try cbv
  replace h:=AN h
  obtain⟨z26,hz,h⟩:=h
  refine⟨z26,hz,?_⟩
  clear hz
  try cbv
  obtain rfl:=Option.some.inj h
  refine AF ?_
  try cbv
  exact⟨[],by trivial⟩
 replace h:=Aq h
 try cbv
 refine AB ?_
 try cbv
 refine AB ?_
 try cbv
 replace h:=Ae h
 obtain⟨x6,⟨hx0,hx⟩,h⟩:=h
 refine⟨x6,hx0,hx,?_⟩
 clear hx0 hx
 replace h:=B4 h
 obtain⟨z7,s8,l9,z10,s11,l12,l13,z14,z15,s16,s17,s18,l19,l20,z21,z22,rfl,h⟩:=h
 try cbv
 replace h:=AG h
 obtain⟨z23,hr,h⟩:=h
 refine AD rfl rfl ?_
 try cbv
 refine AE hM hI (dP _ hr) rfl ?_
 clear hr
 try cbv
 replace h:=AN h
 obtain⟨z24,hz,h⟩:=h
 refine⟨z24,hz,?_⟩
 clear hz
 try cbv
 replace h:=AN h
 obtain⟨z25,hz,h⟩:=h
 refine⟨z25,hz,?_⟩
 clear hz
 try cbv
 exact An (m2,(z24,z25)) [2,3,7,8,9] [] 224 ⟨by omega,h⟩ (Nat.lt_succ_of_le (by omega)) (by cbv)
def Mb:Nat->LD->Bool->Option (LD×LD)
 | 0,_,_=>none
 | n+1,l11,b38=>
  (if b38=true then bO1 (XY n (50:Int) (0:Int)) fun l39=>some (([]:LD),l39)else some (l11,([]:LD)))
def KO:Nat->LD->Bool->Option (LD×LD)
 | 0,_,_=>none
 | n+1,l11,b35=>
  (if b35=true then bO1 (XY n (4:Int) (0:Int)) fun l36=>some (([]:LD),l36)else bO1 (aO n l11) fun z37=>(if (40:Int)<z37 then Mb n l11 true else Mb n l11 false))
def KP:Nat->BA->LD->Int->Bool->LD->Bool->Bool->Option (LD×LD)
 | 0,_,_,_,_,_,_,_=>none
 | n+1,s1,l2,z8,b10,l11,b25,b26=>
  (if b25=true then BT l2 z8 fun x27=>GX x27 fun z28 s29 z30=>bO1 (XY n (51:Int) z30) fun l31=>some (([]:LD),l31)else (if b26=true then Jh s1 fun z32=>bO1 (XY n (51:Int) z32) fun l33=>some (([]:LD),l33)else (if b10=true then KO n l11 true else Ad l11 fun z34=>(if (30:Int)<z34 then KO n l11 true else KO n l11 false))))
mutual
def Mc:Nat->BA->LD->LD->Int->Bool->Bool->LD->Option (LD×LD)
 | 0,_,_,_,_,_,_,_=>none
 | n+1,s1,l2,l7,z8,b9,b10,l11=>
  Ad l2 fun z12=>(if z8<z12 then Ak (!b9) fun b13=>Md n s1 l2 l7 z8 b9 b10 l11 b13 else Md n s1 l2 l7 z8 b9 b10 l11 false)
def Md:Nat->BA->LD->LD->Int->Bool->Bool->LD->Bool->Option (LD×LD)
 | 0,_,_,_,_,_,_,_,_=>none
 | n+1,s1,l2,l7,z8,b9,b10,l11,b14=>
  (if b14=true then bO8 (aL n l7 z8 b9 b10) fun z15 s16 l17 z18 l19 z20 b21 b22=>D3 248 l11 ([.agg [.int .u8 z15,.str s16,.list true 4 l17,.int .u8 0,.str ByteArray.empty,.list true 3 [],.list true 15 [],.int .u8 0,.int .i64 0,.str ByteArray.empty,.str ByteArray.empty,.str ByteArray.empty,.list false 1 [],.list true 8 [],.int .i64 0,.int .i64 z18]]) fun l23=>Mc n s1 l2 l19 z20 b21 b22 l23 else (if b9=true then Ad l2 fun z24=>(if z8<z24 then KP n s1 l2 z8 b10 l11 true true else KP n s1 l2 z8 b10 l11 false true)else KP n s1 l2 z8 b10 l11 false false))
end
def Me:Nat->BA->LD->Int->Int->Bool->Option (LD×LD)
 | 0,_,_,_,_,_=>none
 | n+1,s1,l2,z3,z4,b5=>
  (if b5=true then bO1 (XY n z4 z3) fun l6=>some (([]:LD),l6)else Mc n s1 l2 l2 (0:Int) false false ([]:LD))
def ZI (n:Nat) (s1:BA):Option (LD×LD):=
 bO3 (aD n s1) fun l2 z3 z4=>(if z4=(0:Int)then Me n s1 l2 z3 z4 false else Me n s1 l2 z3 z4 true)
theorem dR (n:Nat):∀⦃s1 r1 r2⦄,ZI n s1=some (r1,r2)->
    AW Tryz.prog inv 13 [.d (.str s1)] [] (.t [.d (.agg [.list true 16 r1]),.d (.list true 2 r2)]) [] []:=by
 intro s1 r1 r2 h
 unfold ZI at h
 refine AW.of Ab AO Bp Tryz.func13 rfl (by kernel_rfl) rfl rfl rfl (fun M hM hI=>?_)
 try cbv
 refine AB ?_
 try cbv
 refine AB ?_
 try cbv
 replace h:=D4 h
 obtain⟨l2,z3,z4,hr,h⟩:=h
 refine AD rfl rfl ?_
 try cbv
 refine AE hM hI (dH _ hr) rfl ?_
 clear hr
 try cbv
 refine AB ?_
 try cbv
 refine AH 16 [0,2,3,4,5,6,16] [.loc 0] 416 (fun m b=>m<=n/\Me m s1 l2 z3 z4 b=some (r1,r2)) ?_ ?_
 ·try cbv
  refine Ah (fun e=>?_) (fun e=>?_)
  ·replace h:=AJ e h
   clear e
   try cbv
   exact AA (n,false) [0,2,3,4,5,6,16] [.loc 0] 416 ⟨by omega,h⟩ (by cbv)
  replace h:=AK e h
  clear e
  try cbv
  exact AA (n,true) [0,2,3,4,5,6,16] [.loc 0] 416 ⟨by omega,h⟩ (by cbv)
 clear h
 rintro⟨m1,b5⟩ ⟨hm1,h⟩
 try cbv
 replace hm1:m1<=n:=hm1
 obtain _ | m1:=m1
 ·replace h:Me 0 s1 l2 z3 z4 b5=some (r1,r2):=h
  rw[Me]at h
  cases h
 replace h:Me (m1+1) s1 l2 z3 z4 b5=some (r1,r2):=h
 rw[Me]at h
 try cbv
 cases b5
 rotate_left
 ·replace h:=Aq h
  try cbv
  refine AB ?_
  try cbv
  replace h:=AG h
  obtain⟨l6,hr,h⟩:=h
  refine AD rfl rfl ?_
  try cbv
  refine AE hM hI (Yp _ hr) rfl ?_
  clear hr
  try cbv
  obtain⟨rfl,rfl⟩:=En h
  refine AF ?_
  try cbv
  exact⟨[],by trivial⟩
 replace h:=Ar h
 try cbv
 refine AB ?_
 try cbv
 refine AB ?_
 try cbv
 refine AB ?_
 try cbv
 refine D7 (T:=Nat×LD×Int×Bool×Bool×LD) [.cell (.loc 544) 0 true 16 45] [0,2,3,4,7,8] [.loc 0,.loc 480,.loc 544,.loc 576] 608 (fun t=>⟨[sS 0 s1,sL 2 0,(3,.v (.c (.nils true 2))),sT 4 3 l2,sL 7 480,sL 8 544],[(.loc 0,.cells [.nils true 16]),(.loc 480,.cells [.d (.list true 3 t.2.1),.d (.int .i64 t.2.2.1),.d (.bool t.2.2.2.1),.d (.bool t.2.2.2.2.1)]),(.loc 544,.cells [.lst (.loc 576) true 16 t.2.2.2.2.2]),(.loc 576,.tok t.2.2.2.2.2.length 16 45)],608⟩)
   (fun t=>t.1<=m1/\Mc t.1 s1 l2 t.2.1 t.2.2.1 t.2.2.2.1 t.2.2.2.2.1 t.2.2.2.2.2=some (r1,r2)) (fun t=>t.1) (m1,(l2,(0:Int),false,false,([]:LD))) ⟨Nat.le_refl _,h⟩ (by cbv) ?_
 clear h
 rintro⟨m2,l7,z8,b9,b10,l11⟩ ⟨hm2,h⟩
 replace hm2:m2<=m1:=hm2
 obtain _ | m2:=m2
 ·replace h:Mc 0 s1 l2 l7 z8 b9 b10 l11=some (r1,r2):=h
  rw[Mc]at h
  cases h
 replace h:Mc (m2+1) s1 l2 l7 z8 b9 b10 l11=some (r1,r2):=h
 rw[Mc]at h
 try cbv
 refine AB ?_
 try cbv
 refine AH 37 [0,2,3,4,7,8,37] [.loc 0,.loc 480,.loc 544,.loc 576] 1056 (fun m b=>m<=m2/\Md m s1 l2 l7 z8 b9 b10 l11 b=some (r1,r2)) ?_ ?_
 ·try cbv
  replace h:=AP M h
  obtain⟨z12,hz,h⟩:=h
  refine⟨z12,hz,?_⟩
  clear hz
  try cbv
  refine Aa (fun e=>?_) (fun e=>?_)
  ·replace h:=AJ e h
   clear e
   try cbv
   replace h:=AL h
   obtain⟨b13,hz,h⟩:=h
   refine⟨b13,AU hz,?_⟩
   clear hz
   try cbv
   exact AA (m2,b13) [0,2,3,4,7,8,37] [.loc 0,.loc 480,.loc 544,.loc 576] 1056 ⟨by omega,h⟩ (by cbv)
  replace h:=AK (Int.not_lt.2 e) h
  clear e
  try cbv
  exact AA (m2,false) [0,2,3,4,7,8,37] [.loc 0,.loc 480,.loc 544,.loc 576] 1056 ⟨by omega,h⟩ (by cbv)
 clear h
 rintro⟨m3,b14⟩ ⟨hm3,h⟩
 try cbv
 replace hm3:m3<=m2:=hm3
 obtain _ | m3:=m3
 ·replace h:Md 0 s1 l2 l7 z8 b9 b10 l11 b14=some (r1,r2):=h
  rw[Md]at h
  cases h
 replace h:Md (m3+1) s1 l2 l7 z8 b9 b10 l11 b14=some (r1,r2):=h
 rw[Md]at h
 try cbv
 cases b14
 rotate_left
 ·replace h:=Aq h
  try cbv
  replace h:=FR h
  obtain⟨z15,s16,l17,z18,l19,z20,b21,b22,hr,h⟩:=h
  first | refine .inr (.inl ⟨[],?_⟩) | refine .inl ⟨[],?_⟩
  try cbv
  refine AI hM hI [.loc 480] (dM _ hr) rfl (by simp) ⟨rfl,trivial⟩ ⟨trivial,trivial⟩ (by simp) ?_
  clear hr
  try cbv
  refine⟨false,?_⟩
  try cbv
  refine⟨true,?_⟩
  try cbv
  replace h:=B2 h
  obtain⟨l23,hb,hz,h⟩:=h
  refine⟨false,?_⟩
  try cbv
  first | refine⟨rfl,(M.lock_iff _).2 hb,l23,hz,?_⟩ | refine⟨(M.lock_iff _).2 hb,l23,hz,?_⟩
  clear hb hz
  try cbv
  refine drawn ?_ ?_
  ·show _=true
   kernel_rfl
  try cbv
  exact An (m3,(l19,z20,b21,b22,l23)) [0,2,3,4,7,8] [.loc 0,.loc 480,.loc 544,.loc 576] 608 ⟨by omega,h⟩ (Nat.lt_succ_of_le (by omega)) (by cbv)
 replace h:=Ar h
 try cbv
 refine AB ?_
 try cbv
 refine Aw (T:=Nat×Bool×Bool) (fun t=>⟨[sS 0 s1,sL 2 0,(3,.v (.c (.nils true 2))),sT 4 3 l2,sL 7 480,sL 8 544,sB 45 t.2.1],[(.loc 0,.cells [.nils true 16]),(.loc 480,.cells [.d (.list true 3 l7),.d (.int .i64 z8),.d (.bool t.2.2),.d (.bool b10)]),(.loc 544,.cells [.lst (.loc 576) true 16 l11]),(.loc 576,.tok l11.length 16 45)],1504⟩) (fun t=>t.1<=m3/\KP t.1 s1 l2 z8 b10 l11 t.2.1 t.2.2=some (r1,r2)) ?_ ?_
 ·try cbv
  cases b9
  ·replace h:=Ar h
   try cbv
   exact AA (m3,(false,false)) [0,2,3,4,7,8,45] [.loc 0,.loc 480,.loc 544,.loc 576] 1504 ⟨by omega,h⟩ (by cbv)
  replace h:=Aq h
  try cbv
  replace h:=AP M h
  obtain⟨z24,hz,h⟩:=h
  refine⟨z24,hz,?_⟩
  clear hz
  try cbv
  refine Aa (fun e=>?_) (fun e=>?_)
  ·replace h:=AJ e h
   clear e
   try cbv
   exact AA (m3,(true,true)) [0,2,3,4,7,8,45] [.loc 0,.loc 480,.loc 544,.loc 576] 1504 ⟨by omega,h⟩ (by cbv)
  replace h:=AK (Int.not_lt.2 e) h
  clear e
  try cbv
  exact AA (m3,(false,true)) [0,2,3,4,7,8,45] [.loc 0,.loc 480,.loc 544,.loc 576] 1504 ⟨by omega,h⟩ (by cbv)
 clear h
 rintro⟨m4,b25,b26⟩ ⟨hm4,h⟩
 replace hm4:m4<=m3:=hm4
 obtain _ | m4:=m4
 ·replace h:KP 0 s1 l2 z8 b10 l11 b25 b26=some (r1,r2):=h
  rw[KP]at h
  cases h
 replace h:KP (m4+1) s1 l2 z8 b10 l11 b25 b26=some (r1,r2):=h
 rw[KP]at h
 try cbv
 cases b25
 rotate_left
 ·replace h:=Aq h
  try cbv
  refine AB ?_
  try cbv
  replace h:=Ae h
  obtain⟨x27,⟨hx0,hx⟩,h⟩:=h
  refine⟨x27,hx0,hx,?_⟩
  clear hx0 hx
  replace h:=Dk h
  obtain⟨z28,s29,z30,rfl,h⟩:=h
  try cbv
  replace h:=AG h
  obtain⟨l31,hr,h⟩:=h
  refine AD rfl rfl ?_
  try cbv
  refine AE hM hI (Yp _ hr) rfl ?_
  clear hr
  try cbv
  obtain⟨rfl,rfl⟩:=En h
  refine AF ?_
  try cbv
  exact⟨[],by trivial⟩
 replace h:=Ar h
 try cbv
 refine AB ?_
 try cbv
 cases b26
 rotate_left
 ·replace h:=Aq h
  try cbv
  refine AB ?_
  try cbv
  replace h:=Bu M h
  obtain⟨z32,hz,h⟩:=h
  refine⟨z32,hz,?_⟩
  clear hz
  try cbv
  replace h:=AG h
  obtain⟨l33,hr,h⟩:=h
  refine AD rfl rfl ?_
  try cbv
  refine AE hM hI (Yp _ hr) rfl ?_
  clear hr
  try cbv
  obtain⟨rfl,rfl⟩:=En h
  refine AF ?_
  try cbv
  exact⟨[],by trivial⟩
 replace h:=Ar h
 try cbv
 refine AH 78 [2,3,8,78] [.loc 0,.loc 544,.loc 576] 2016 (fun m b=>m<=m4/\KO m l11 b=some (r1,r2)) ?_ ?_
 ·try cbv
  cases b10
  rotate_left
  ·replace h:=Aq h
   try cbv
   exact AA (m4,true) [2,3,8,78] [.loc 0,.loc 544,.loc 576] 2016 ⟨by omega,h⟩ (by cbv)
  replace h:=Ar h
  try cbv
  replace h:=AP M h
  obtain⟨z34,hz,h⟩:=h
  refine⟨z34,hz,?_⟩
  clear hz
  try cbv
  refine Aa (fun e=>?_) (fun e=>?_)
  ·replace h:=AJ e h
   clear e
   try cbv
   exact AA (m4,true) [2,3,8,78] [.loc 0,.loc 544,.loc 576] 2016 ⟨by omega,h⟩ (by cbv)
  replace h:=AK (Int.not_lt.2 e) h
  clear e
  try cbv
  exact AA (m4,false) [2,3,8,78] [.loc 0,.loc 544,.loc 576] 2016 ⟨by omega,h⟩ (by cbv)
 clear h
 rintro⟨m5,b35⟩ ⟨hm5,h⟩
 try cbv
 replace hm5:m5<=m4:=hm5
 obtain _ | m5:=m5
 ·replace h:KO 0 l11 b35=some (r1,r2):=h
  rw[KO]at h
  cases h
 replace h:KO (m5+1) l11 b35=some (r1,r2):=h
 rw[KO]at h
 try cbv
 cases b35
 rotate_left
 ·replace h:=Aq h
  try cbv
  refine AB ?_
  try cbv
  replace h:=AG h
  obtain⟨l36,hr,h⟩:=h
  refine AD rfl rfl ?_
  try cbv
  refine AE hM hI (Yp _ hr) rfl ?_
  clear hr
  try cbv
  obtain⟨rfl,rfl⟩:=En h
  refine AF ?_
  try cbv
  exact⟨[],by trivial⟩
 replace h:=Ar h
 try cbv
 refine AH 91 [2,3,8,91] [.loc 0,.loc 544,.loc 576] 2144 (fun m b=>m<=m5/\Mb m l11 b=some (r1,r2)) ?_ ?_
 ·try cbv
  replace h:=AG h
  obtain⟨z37,hr,h⟩:=h
  refine AD rfl rfl ?_
  try cbv
  refine AE hM hI (dQ _ hr) rfl ?_
  clear hr
  try cbv
  refine Aa (fun e=>?_) (fun e=>?_)
  ·replace h:=AJ e h
   clear e
   try cbv
   exact AA (m5,true) [2,3,8,91] [.loc 0,.loc 544,.loc 576] 2144 ⟨by omega,h⟩ (by cbv)
  replace h:=AK (Int.not_lt.2 e) h
  clear e
  try cbv
  exact AA (m5,false) [2,3,8,91] [.loc 0,.loc 544,.loc 576] 2144 ⟨by omega,h⟩ (by cbv)
 clear h
 rintro⟨m6,b38⟩ ⟨hm6,h⟩
 try cbv
 replace hm6:m6<=m5:=hm6
 obtain _ | m6:=m6
 ·replace h:Mb 0 l11 b38=some (r1,r2):=h
  rw[Mb]at h
  cases h
 replace h:Mb (m6+1) l11 b38=some (r1,r2):=h
 rw[Mb]at h
 try cbv
 cases b38
 ·replace h:=Ar h
  try cbv
  refine AB ?_
  try cbv
  obtain⟨rfl,rfl⟩:=En h
  refine AF ?_
  try cbv
  exact⟨[],by trivial⟩
 replace h:=Aq h
 try cbv
 refine AB ?_
 try cbv
 replace h:=AG h
 obtain⟨l39,hr,h⟩:=h
 refine AD rfl rfl ?_
 try cbv
 refine AE hM hI (Yp _ hr) rfl ?_
 clear hr
 try cbv
 obtain⟨rfl,rfl⟩:=En h
 refine AF ?_
 try cbv
 exact⟨[],by trivial⟩
end Go.Proofs.YtmggjbjpklecgaaGreatDoor
end
namespace Go.Proofs.YtmggjbjpklecgaaGreatDoor
open Go Go.AM
def Yv (n:Nat) (s:BA):Option (LD×LD):=ZI 1000 s
theorem aP (n:Nat):∀⦃s1 r1 r2⦄,Yv n s1=some (r1,r2)->AW Tryz.prog inv 13 [.d (.str s1)] [] (.t [.d (.agg [.list true 16 r1]),.d (.list true 2 r2)]) [] []:=dR 1000
end Go.Proofs.YtmggjbjpklecgaaGreatDoor
set_option linter.unusedVariables false
noncomputable section
namespace Go.Proofs.YtmggjbjpklecgaaGreatDoor
open Go Go.AM
def F4 (n:Nat):Option (Bool):=
 bO2 (Yv n Ck) fun l1 l2=>Ad l2 fun z3=>(if z3=(0:Int)then bO1 (F9 n l1 (4:Int) KM ([]:LD)) fun b4=>(if b4=true then bO1 (UY n l1 (4:Int) KM ([]:LD)) fun b5=>Ak (!b5) fun b6=>(if b6=true then bO1 (F9 n l1 (9:Int) ByteArray.empty ([.agg [.int .u8 4,.str KM,.list true 3 []]])) fun b7=>some b7 else some false)else some false)else some false)
theorem T4 (n:Nat):∀⦃r1⦄,F4 n=some r1->
    AW Tryz.prog inv 4 [] [] (.v (.d (.bool r1))) [] []:=by
 intro r1 h
 unfold F4 at h
 refine AW.of Ab AO Bp Tryz.func4 rfl (by kernel_rfl) rfl rfl rfl (fun M hM hI=>?_)
 try cbv
 refine AB ?_
 try cbv
 refine AB ?_
 try cbv
 replace h:=DT h
 obtain⟨l1,l2,hr,h⟩:=h
 refine AD rfl rfl ?_
 try cbv
 refine AE hM hI (aP _ hr) rfl ?_
 clear hr
 try cbv
 refine AB ?_
 try cbv
 refine AB ?_
 try cbv
 replace h:=AP M h
 obtain⟨z3,hz,h⟩:=h
 refine⟨z3,hz,?_⟩
 clear hz
 try cbv
 refine Ah (fun e=>?_) (fun e=>?_)
 rotate_left
 ·replace h:=AK e h
  clear e
  try cbv
  obtain rfl:=Option.some.inj h
  refine AF ?_
  try cbv
  exact⟨[],by trivial⟩
 replace h:=AJ e h
 clear e
 try cbv
 replace h:=AG h
 obtain⟨b4,hr,h⟩:=h
 refine AD rfl rfl ?_
 try cbv
 refine AE hM hI (T9 _ hr) rfl ?_
 clear hr
 try cbv
 cases b4
 ·replace h:=Ar h
  try cbv
  obtain rfl:=Option.some.inj h
  refine AF ?_
  try cbv
  exact⟨[],by trivial⟩
 replace h:=Aq h
 try cbv
 replace h:=AG h
 obtain⟨b5,hr,h⟩:=h
 refine AD rfl rfl ?_
 try cbv
 refine AE hM hI (Ym _ hr) rfl ?_
 clear hr
 try cbv
 replace h:=AL h
 obtain⟨b6,hz,h⟩:=h
 refine⟨b6,AU hz,?_⟩
 clear hz
 try cbv
 cases b6
 ·replace h:=Ar h
  try cbv
  obtain rfl:=Option.some.inj h
  refine AF ?_
  try cbv
  exact⟨[],by trivial⟩
 replace h:=Aq h
 try cbv
 refine⟨false,?_⟩
 try cbv
 refine⟨true,?_⟩
 try cbv
 replace h:=AG h
 obtain⟨b7,hr,h⟩:=h
 refine AD rfl rfl ?_
 try cbv
 refine AE hM hI (T9 _ hr) rfl ?_
 clear hr
 try cbv
 obtain rfl:=Option.some.inj h
 refine AF ?_
 try cbv
 exact⟨[],by trivial⟩
end Go.Proofs.YtmggjbjpklecgaaGreatDoor
end
