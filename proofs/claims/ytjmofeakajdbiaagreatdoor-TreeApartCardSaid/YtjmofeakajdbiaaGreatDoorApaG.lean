/- TreeApart. No condition. (Part 7.) -/
import Derived.Test.YtjmofeakajdbiaaGreatDoorRows
import Derived.Test.YtjmofeakajdbiaaGreatDoorTie
import Derived.Test.YtjmofeakajdbiaaGreatDoorCards
import Derived.ChangeSame
import Derived.JoinedOf
import Derived.JoinedAt
import Derived.RowKit
import Derived.RowKit2
import Derived.ReadAgain
import Derived.ChangeAlike
import Derived.Lay
import Derived.Handed
import Derived.LaidSub
import Derived.LaidLaws
import Derived.LaidHandle
import Derived.MakeChecks
import Derived.SevenTiedAt
import Derived.Lib.LaidTab
import Derived.Lib.LaidU8
import Derived.Test.YtjmofeakajdbiaaGreatDoorApaF
set_option linter.unusedVariables false
set_option linter.unusedSimpArgs false
set_option linter.unusedVariables false
noncomputable section
namespace Go.Proofs.YtjmofeakajdbiaaGreatDoor
open Go Go.AM
theorem Zt {l:List D}(h:AD AI 74 l):∀z:Int,-6≤z→z≤20000→∃r,Ev (fun n=>lU n l z) r∧ -6≤r∧r≤20000∧(0≤r→r≤z∧∀(s:ByteArray) (k:Int) (t:ByteArray) (m:List D),.agg [.str s,.int .u8 k,.str t,.list true 3 m]∈l→∃d:Nat,5*(d:Int)≤z - r∧Ev (fun n=>V8 n k t m) (d:Int)):=by
 have loop:∀i:Nat,i≤l.length→∀z:Int,-6≤z→z≤20000→∃r,Ev (fun n=>Hz n l (i:Int) z) r∧ -6≤r∧r≤20000∧(0≤r→r≤z∧∀(j:Nat) (s:ByteArray) (k:Int) (t:ByteArray) (m:List D),i≤j→l[j]?=some (.agg [.str s,.int .u8 k,.str t,.list true 3 m])→∃d:Nat,5*(d:Int)≤z - r∧Ev (fun n=>V8 n k t m) (d:Int)):=by
  refine down l.length ?_ ?_
  ·intro z h1 h2
   refine⟨z,.succ ?_,h1,h2,fun _=>⟨by omega,fun j s k t m hj hx=>absurd (List.getElem?_eq_some_iff.1 hx).1 (by omega)⟩⟩
   simp only[Hz,AE,Int.lt_irrefl,if_false]
   exact .succ (by simp only[It,Bool.false_eq_true,if_false];exact .ret)
  ·intro i hi ih z h1 h2
   by_cases c:(0:Int)≤z
   ·obtain⟨x,hx,hm,hr⟩:=h.get hi
    obtain⟨a0,a1,a2,a3,rfl,w0,w1,w2,w3⟩:=Q4 hr
    obtain⟨p1,p2,p3,p4,p5⟩:=FP a0 z h1 h2
    obtain⟨m,m1,m2⟩:=Zq a3 w3
    obtain⟨u1,u2,u3,u4,u5⟩:=m2 a1 a2 p1 (by omega) p4
    obtain⟨r,r1,r2,r3,r4⟩:=ih u1 u3 u4
    refine⟨r,.succ ?_,r2,r3,fun hr0=>?_⟩
    ·simp only[Hz,AE,if_pos (Cn hi),if_pos c]
     refine .succ ?_
     simp only[It,if_true,AH hx,Bv]
     refine Ev.bO1 p2 (Ev.bO1 u2 ?_)
     simp only[AJ,AG hi h.1]
     exact r1
    ·obtain⟨x1,x2⟩:=r4 hr0
     have:=u5 (by omega)
     have:=p5 (by omega)
     refine⟨by omega,fun j s k t m' hj hx'=>?_⟩
     by_cases e:j=i
     ·subst e
      rw[hx]at hx'
      cases hx'
      exact⟨m+1,by omega,m1 (by omega) _ _⟩
     ·obtain⟨d,d1,d2⟩:=x2 j s k t m' (by omega) hx'
      exact⟨d,by omega,d2⟩
   ·refine⟨z,.succ ?_,h1,h2,fun h=>absurd h c⟩
    simp only[Hz,AE,if_pos (Cn hi),if_neg c]
    exact .succ (by simp only[It,Bool.false_eq_true,if_false];exact .ret)
 intro z h1 h2
 obtain⟨r,r1,r2,r3,r4⟩:=loop 0 (Nat.zero_le _) z h1 h2
 refine⟨r,(by unfold lU;exact r1),r2,r3,fun hr=>⟨(r4 hr).1,fun s k t m hm=>?_⟩⟩
 obtain⟨j,hj⟩:=List.getElem?_of_mem hm
 exact (r4 hr).2 j s k t m (Nat.zero_le _) hj
theorem lB {c:Int}(hc:c≤100000) {z1:Int}{s2:ByteArray}{l3:List D}{z4:Int}{s5:ByteArray}{l6 l7:List D}{z8 z9:Int}{s10 s11 s12:ByteArray}{l13 l14:List D}{z15 z16:Int}
  (h3:AD AI 74 l3) (h7:AD AI 50 l7) (ht:∃t:Nat,5*(t:Int)≤c∧Ev (fun n=>V8 n z4 s5 l6) (t:Int)) (he:∃t:Nat,5*(t:Int)≤c∧Ev (fun n=>T2 n z8 z9 s10 s11 s12 l13 l14 z15) (t:Int))
  (hf:∀(s:ByteArray) (k:Int) (t:ByteArray) (m:List D),.agg [.str s,.int .u8 k,.str t,.list true 3 m]∈l3→∃d:Nat,5*(d:Int)≤c∧Ev (fun n=>V8 n k t m) (d:Int)) (hd:dR c l7):
  ∃d:Nat,5*(d:Int)≤c+5∧Ev (fun n=>V9 n z1 s2 l3 z4 s5 l6 l7 z8 z9 s10 s11 s12 l13 l14 z15 z16) (d:Int):=by
 have st:∀i:Nat,i≤l7.length→∀a:Nat,5*(a:Int)≤c→∃d:Nat,5*(d:Int)≤c+5∧Ev (fun n=>IJ n l7 (l7.length:Int) (a:Int) (i:Int)) (d:Int):=by
  refine down l7.length ?_ ?_
  ·intro a ha
   refine⟨a+1,by omega,.succ ?_⟩
   simp only[IJ,Int.lt_irrefl,if_false]
   refine .succ ?_
   simp only[Lk,Bool.false_eq_true,if_false,AJ]
   rw[iw (by omega) (by omega),show (a:Int)+1=((a+1:Nat):Int)by omega]
   exact .ret
  ·intro i hi ih a ha
   obtain⟨x,hx,hm,hr⟩:=h7.get hi
   obtain⟨d,d1,d2⟩:=hd x hm
   obtain⟨a',k1,k2⟩:=ih (max a d) (by omega)
   refine⟨a',k1,.succ ?_⟩
   obtain⟨b0,b1,b2,b3,b4,b5,b6,b7,b8,b9,b10,b11,b12,b13,b14,rfl,_⟩:=Hx hr
   simp only[IJ,if_pos (Cn hi)]
   refine .succ ?_
   simp only[Lk,if_true,AH hx,BJ]
   refine Ev.bO1 d2 ?_
   simp only[AJ,mx,AG hi h7.1]
   exact k2
 have fl:∀i:Nat,i≤l3.length→∀a:Nat,5*(a:Int)≤c→∃d:Nat,5*(d:Int)≤c+5∧Ev (fun n=>IK n l3 l7 (l3.length:Int) (a:Int) (i:Int)) (d:Int):=by
  refine down l3.length ?_ ?_
  ·intro a ha
   obtain⟨d,k1,k2⟩:=st 0 (Nat.zero_le _) a ha
   refine⟨d,k1,.succ ?_⟩
   simp only[IK,Int.lt_irrefl,if_false]
   refine .succ ?_
   simp only[Ll,Bool.false_eq_true,if_false,AE]
   exact k2
  ·intro i hi ih a ha
   obtain⟨x,hx,hm,hr⟩:=h3.get hi
   obtain⟨a0,a1,a2,a3,rfl,_⟩:=Q4 hr
   obtain⟨d,d1,d2⟩:=hf _ _ _ _ hm
   obtain⟨a',k1,k2⟩:=ih (max a d) (by omega)
   refine⟨a',k1,.succ ?_⟩
   simp only[IK,if_pos (Cn hi)]
   refine .succ ?_
   simp only[Ll,if_true,AH hx,Bv]
   refine Ev.bO1 d2 ?_
   simp only[AJ,mx,AG hi h3.1]
   exact k2
 obtain⟨t,t1,t2⟩:=ht
 obtain⟨e,e1,e2⟩:=he
 obtain⟨d,k1,k2⟩:=fl 0 (Nat.zero_le _) (max t e) (by omega)
 refine⟨d,k1,?_⟩
 unfold V9
 refine Ev.bO1 t2 (Ev.bO1 e2 ?_)
 simp only[AJ,mx,AE]
 exact k2
theorem Zu {l:List D}(h:AD AI 45 l):∃b,Ev (fun n=>F8 n l) b∧(b=false→l.length≤4000∧∀x∈l,∃d:Nat,d≤100000∧Ev (fun n=>BU x (V9 n)) (d:Int)):=by
 have loop:∀i:Nat,i≤l.length→∀z:Int,-6≤z→z≤20000→∃b,Ev (fun n=>NS n l (i:Int) z) b∧(b=false→5*((l.length:Int) - (i:Int))≤z∧∀j x,i≤j→l[j]?=some x→∃d:Nat,d≤100000∧Ev (fun n=>BU x (V9 n)) (d:Int)):=by
  have t_end:∀(z2 z:Int),Ev (fun n=>OI n l z2 z false) (decide (z<0)):=by
   intro z2 z
   refine .succ ?_
   simp only[OI,Bool.false_eq_true,if_false]
   by_cases c:z<0
   ·simp only[if_pos c,decide_eq_true c];exact .ret
   ·simp only[if_neg c,decide_eq_false c];exact .ret
  refine down l.length ?_ ?_
  ·intro z h1 h2
   refine⟨decide (z<0),.succ ?_,fun hb=>⟨by have:=of_decide_eq_false hb;omega,fun j x hj hx=>absurd (List.getElem?_eq_some_iff.1 hx).1 (by omega)⟩⟩
   simp only[NS,AE,Int.lt_irrefl,if_false]
   exact t_end _ _
  ·intro i hi ih z h1 h2
   by_cases c:(0:Int)≤z
   ·obtain⟨x,hx,hm,hr⟩:=h.get hi
    obtain⟨a0,a1,a2,a3,a4,a5,a6,a7,a8,a9,a10,a11,a12,a13,a14,a15,rfl,w0,w1,w2,w3,w4,w5,w6,w7,w8,w9,w10,w11,w12,w13,w14,w15⟩:=OH hr
    obtain⟨p1,p2,p3,p4,p5⟩:=FP a1 z h1 h2
    obtain⟨q1,q2,q3,q4,q5⟩:=Zt w2 p1 (by omega) p4
    obtain⟨m,m1,m2⟩:=Zq a5 w5
    obtain⟨u1,u2,u3,u4,u5⟩:=m2 a3 a4 q1 q3 q4
    obtain⟨v1,v2,v3,v4,v5⟩:=eA a6 w6 u1 u3 u4
    obtain⟨k,k1,k2⟩:=gD a13 w13
    obtain⟨y1,y2,y3,y4,y5⟩:=k2 a7 a8 a9 a10 a11 a12 a14 v1 w12 v3 v4
    obtain⟨b,b1,b2⟩:=ih y1 y3 y4
    refine⟨b,.succ ?_,fun hb=>?_⟩
    ·simp only[NS,AE,if_pos (Cn hi),if_pos c]
     refine .succ ?_
     simp only[OI,if_true,AH hx,BU]
     refine Ev.bO1 p2 (Ev.bO1 q2 (Ev.bO1 u2 (Ev.bO1 v2 (Ev.bO1 y2 ?_))))
     simp only[AJ,AG hi h.1]
     exact b1
    ·obtain⟨x1,x2⟩:=b2 hb
     have g1:=y5 (by omega)
     obtain⟨g2,g3⟩:=v5 (by omega)
     have g4:=u5 (by omega)
     obtain⟨g5,g6⟩:=q5 (by omega)
     have g7:=p5 (by omega)
     refine⟨by omega,fun j x hj hx'=>?_⟩
     by_cases e:j=i
     ·subst e
      rw[hx]at hx'
      cases hx'
      obtain⟨d,d1,d2⟩:=lB (c:=20000) (by omega) (z1:=a0) (s2:=a1) (z16:=a15) w2 w6 ⟨m+1,by omega,m1 (by omega) a3 a4⟩ ⟨k+1,by omega,k1 (by omega) a7 a8 a9 a10 a11 a12 a14⟩ (fun s k t m hm=>by
       obtain⟨d,d1,d2⟩:=g6 s k t m hm
       exact⟨d,by omega,d2⟩) (g3.mono (by omega))
      exact⟨d,by omega,d2⟩
     ·exact x2 j x (by omega) hx'
   ·refine⟨decide (z<0),.succ ?_,fun hb=>absurd (of_decide_eq_false hb) (by omega)⟩
    simp only[NS,AE,if_pos (Cn hi),if_neg c]
    exact t_end _ _
 obtain⟨b,b1,b2⟩:=loop 0 (Nat.zero_le _) 20000 (by omega) (by omega)
 refine⟨b,(by unfold F8;exact b1),fun hb=>⟨by have:=(b2 hb).1;omega,fun x hx=>?_⟩⟩
 obtain⟨j,hj⟩:=List.getElem?_of_mem hx
 exact (b2 hb).2 j x (Nat.zero_le _) hj
open Classical in
def val {α:Type} [Inhabited α] (A:Nat→Option α):α:=if h:Total A then h.choose else default
theorem RL {α:Type} [Inhabited α] {A:Nat→Option α}(h:Total A):Ev A (val A):=by
 unfold val
 rw[dif_pos h]
 exact h.choose_spec
theorem lC {α:Type} [Inhabited α] {A:Nat→Option α}{r:α}(h:Ev A r):val A=r:=Ev.uniq (RL ⟨r,h⟩) h
abbrev W (z:Int):Int:=IntKind.wrap .i64 z
theorem rF (a b:Int):W (W a+b)=W (a+b):=by simp only[W,IntKind.wrap_i64];omega
theorem rG (a:Int):W (W a)=W a:=by simp only[W,IntKind.wrap_i64];omega
def lD (x:D):Bool:=val fun n=>BU x (ZU n)
theorem rH {x:D}(h:DF AI 45 x):Ev (fun n=>BU x (ZU n)) (lD x):=by
 obtain⟨a0,a1,a2,a3,a4,a5,a6,a7,a8,a9,a10,a11,a12,a13,a14,a15,rfl,w0,w1,w2,w3,w4,w5,w6,w7,w8,w9,w10,w11,w12,w13,w14,w15⟩:=OH h
 exact RL (rE (z1:=a0) (s2:=a1) (l3:=a2) (z4:=a3) (s5:=a4) (l6:=a5) (l7:=a6) (z8:=a7) (z9:=a8) (s10:=a9) (s11:=a10) (s12:=a11) (l13:=a12) (l14:=a13) (z15:=a14) (z16:=a15) w1 w2 w4 w5 w6 w9 w10 w11 w12 w13)
theorem Ts {l:List D}(h:AD AI 45 l):Ev (fun n=>Xf n l) (l.all lD&&decide (l.length≤30)):=by
 have t_end:∀i:Nat,Ev (fun n=>Nn n l (30:Int) (i:Int) false) (decide (l.length≤30)):=by
  intro i
  refine .succ ?_
  simp only[Nn,Bool.false_eq_true,if_false,AE]
  by_cases c:l.length≤30
  ·simp only[if_pos (show (l.length:Int)≤30 by omega),decide_eq_true c];exact .ret
  ·simp only[if_neg (show ¬(l.length:Int)≤30 by omega),decide_eq_false c];exact .ret
 have loop:∀i:Nat,i≤l.length→Ev (fun n=>Nl n l (30:Int) (i:Int)) ((l.drop i).all lD&&decide (l.length≤30)):=by
  refine down l.length ?_ ?_
  ·refine .succ ?_
   simp only[Nl,AE,Int.lt_irrefl,if_false,List.drop_length,List.all_nil,Bool.true_and]
   exact t_end _
  ·intro i hi ih
   obtain⟨x,hx,hm,hr⟩:=h.get hi
   have hw:=rH hr
   rw[KF hx]
   by_cases c:(i:Int)<30
   ·refine .succ ?_
    simp only[Nl,AE,if_pos (Cn hi),if_pos c]
    obtain⟨a0,a1,a2,a3,a4,a5,a6,a7,a8,a9,a10,a11,a12,a13,a14,a15,rfl,_⟩:=OH hr
    refine .succ ?_
    simp only[Nn,if_true,AH hx,BU]
    refine Ev.bO1 hw ?_
    cases lD _ with
    | true=>
     simp only[AL,Bool.not_true,Bool.false_eq_true,if_false,AJ,AG hi h.1,Bool.true_and]
     exact ih
    | false=>
     simp only[AL,Bool.not_false,if_true,Bool.false_and]
     exact .ret
   ·rw[decide_eq_false (show ¬l.length≤30 by omega),Bool.and_false]
    refine .succ ?_
    simp only[Nl,AE,if_pos (Cn hi),if_neg c]
    have:=t_end i
    rwa [decide_eq_false (show ¬l.length≤30 by omega)]at this
 unfold Xf
 exact Ev.bO1 (A:=fun n=>rZ n l 30) (by unfold rZ;exact loop 0 (Nat.zero_le _)) .ret
def RR (x:D):Nat:=(val fun n=>BU x (V9 n)).toNat
def Xg:List Nat→Nat
 | []=>0
 | a::r=>max a (Xg r)
def XY (x:D):Prop:=∃d:Nat,d≤100000∧Ev (fun n=>BU x (V9 n)) (d:Int)
theorem Zv {x:D}(h:XY x):RR x≤100000∧Ev (fun n=>BU x (V9 n)) (RR x:Int):=by
 obtain⟨d,d1,d2⟩:=h
 have e:RR x=d:=by unfold RR;rw[lC d2];rfl
 rw[e]
 exact⟨d1,d2⟩
theorem Tt {l:List D}(h:AD AI 45 l) (hf:∀x∈l,XY x):Ev (fun n=>Z9 n l) ((Xg (l.map RR)+1:Nat):Int)∧Xg (l.map RR)≤100000:=by
 have hb:∀m:List D,(∀x∈m,XY x)→Xg (m.map RR)≤100000:=by
  intro m
  induction m with
  | nil=>intro _;exact Nat.zero_le _
  | cons x m ih=>
   intro hm
   have:=(Zv (hm x (by simp))).1
   have:=ih fun y hy=>hm y (by simp[hy])
   simp only[List.map_cons,Xg]
   omega
 have loop:∀i:Nat,i≤l.length→∀a:Nat,a≤100000→Ev (fun n=>Pd n l (l.length:Int) (a:Int) (i:Int)) ((max a (Xg ((l.drop i).map RR))+1:Nat):Int):=by
  refine down l.length ?_ ?_
  ·intro a ha
   refine .succ ?_
   simp only[Pd,Int.lt_irrefl,if_false,List.drop_length,List.map_nil,Xg]
   refine .succ ?_
   simp only[TJ,Bool.false_eq_true,if_false,AJ]
   rw[iw (by omega) (by omega),show max a 0=a by omega,show (a:Int)+1=((a+1:Nat):Int)by omega]
   exact .ret
  ·intro i hi ih a ha
   obtain⟨x,hx,hm,hr⟩:=h.get hi
   obtain⟨k1,k2⟩:=Zv (hf x hm)
   have hd:l.drop i=x::l.drop (i+1):=by rw[List.drop_eq_getElem_cons hi];congr 1;exact (List.getElem?_eq_some_iff.1 hx).2
   have hih:=ih (max a (RR x)) (by omega)
   rw[hd]
   simp only[List.map_cons,Xg]
   rw[show max a (max (RR x) (Xg ((l.drop (i+1)).map RR)))=max (max a (RR x)) (Xg ((l.drop (i+1)).map RR))by omega]
   refine .succ ?_
   obtain⟨a0,a1,a2,a3,a4,a5,a6,a7,a8,a9,a10,a11,a12,a13,a14,a15,rfl,_⟩:=OH hr
   simp only[Pd,if_pos (Cn hi)]
   refine .succ ?_
   simp only[TJ,if_true,AH hx,BU]
   refine Ev.bO1 k2 ?_
   simp only[AJ,mx,AG hi h.1]
   exact hih
 refine⟨?_,hb l hf⟩
 have:=loop 0 (Nat.zero_le _) 0 (by omega)
 rw[List.drop_zero,show max 0 (Xg (l.map RR))=Xg (l.map RR)by omega]at this
 unfold Z9
 exact this
theorem gF (l:List D):AD AI 39 l→∀(z1 z2:Int) (s3 s4 s5:ByteArray) (l6:List D) (z8:Int),Total fun n=>T3 n z1 z2 s3 s4 s5 l6 l z8:=by
 refine Ba (P:=fun l=>AD AI 39 l→∀(z1 z2:Int) (s3 s4 s5:ByteArray) (l6:List D) (z8:Int),Total fun n=>T3 n z1 z2 s3 s4 s5 l6 l z8) (fun l ih h=>?_) l
 have loop:∀i:Nat,i≤l.length→∀z:Int,Total fun n=>KE n l (l.length:Int) z (i:Int):=by
  refine down l.length ?_ ?_
  ·intro z
   exact tu (by simp only[KE,Int.lt_irrefl,if_false];exact tu (by simp only[Lm,Bool.false_eq_true,if_false];exact tr))
  ·intro i hi ihl z
   obtain⟨x,hx,hm,hr⟩:=h.get hi
   obtain⟨a0,a1,a2,a3,a4,a5,a6,a7,rfl,w0,w1,w2,w3,w4,w5,w6,w7⟩:=Jz hr
   refine tu ?_
   simp only[KE,if_pos (Cn hi)]
   refine tu ?_
   simp only[Lm,if_true,AH hx,BD,AJ,AG hi h.1]
   exact t1 (ih a6 (Af (ag:=true) (sz:=8) hm (by simp)) w6 _ _ _ _ _ _ _) fun _=>ihl _
 intros
 exact tu (by simp only[T3,AE];exact loop 0 (Nat.zero_le _) _)
theorem lF {X0 X1 X2 X3 X4 X5 X6 X7 X8 X9 sA X11 sC X13 sD X15 γ:Type}{A:Nat→Option (X0×X1×X2×X3×X4×X5×X6×X7×X8×X9×sA×X11×sC×X13×sD×X15)}{k:Nat→X0→X1→X2→X3→X4→X5→X6→X7→X8→X9→sA→X11→sC→X13→sD→X15→Option γ}(ha:Total A) (hk:∀a0 a1 a2 a3 a4 a5 a6 a7 a8 a9 a10 a11 a12 a13 a14 a15,Total fun n=>k n a0 a1 a2 a3 a4 a5 a6 a7 a8 a9 a10 a11 a12 a13 a14 a15):Total fun n=>bO16 (A n) (k n):=by
 obtain⟨⟨a0,a1,a2,a3,a4,a5,a6,a7,a8,a9,a10,a11,a12,a13,a14,a15⟩,ha⟩:=ha
 obtain⟨r,h⟩:=hk a0 a1 a2 a3 a4 a5 a6 a7 a8 a9 a10 a11 a12 a13 a14 a15
 exact⟨r,.bO16 ha h⟩
def sT (m:List D):Prop:=∀x∈m,Total fun n=>BJ x (TK n)
section
variable {z1:Int}{s2 s3:ByteArray}{l4:List D}{z5:Int}{s6:ByteArray}{l7:List D}{z8:Int}{s9:ByteArray}{l10 l11 l12 l13 l14:List D}{z15:Int}
theorem gG {x:D}(hx:DF AI 50 x) (h:Total fun n=>BJ x (TK n)) (a:Int):Total fun n=>BJ x fun z1 s2 s3 l4 z5 s6 l7 z8 s9 l10 l11 l12 l13 l14 z15=>I3 n z1 s2 s3 l4 z5 s6 l7 z8 s9 l10 l11 l12 l13 l14 z15 a:=by
 obtain⟨a0,a1,a2,a3,a4,a5,a6,a7,a8,a9,a10,a11,a12,a13,a14,rfl,_⟩:=Hx hx
 show Total fun n=>I3 n a0 a1 a2 a3 a4 a5 a6 a7 a8 a9 a10 a11 a12 a13 a14 a
 refine tu ?_
 simp only[I3]
 exact t1 h fun _=>tr
theorem Zw {l:List D}(hl:AD AI 50 l) (hd:sT l) (z17:Int) (hk:∀a:Int,Total fun n=>B1 n z1 s2 s3 l4 z5 s6 l7 z8 s9 l10 l11 l12 l13 l14 z15 (IntKind.wrap .i64 (z17+1)) a):∀i:Nat,i≤l.length→∀a:Int,Total fun n=>CL n z1 s2 s3 l4 z5 s6 l7 z8 s9 l10 l11 l12 l13 l14 z15 z17 l (l.length:Int) (i:Int) a:=by
 refine down l.length ?_ ?_
 ·intro a
  exact tu (by simp only[CL,Int.lt_irrefl,if_false];exact tu (by simp only[CU,Bool.false_eq_true,if_false,AJ];exact hk a))
 ·intro i hi ih a
  obtain⟨x,hx,hm,hr⟩:=hl.get hi
  have h3:=gG hr (hd x hm) a
  obtain⟨b0,b1,b2,b3,b4,b5,b6,b7,b8,b9,b10,b11,b12,b13,b14,rfl,_⟩:=Hx hr
  refine tu ?_
  simp only[CL,if_pos (Cn hi)]
  refine tu ?_
  simp only[CU,if_true,AH hx,BJ,AJ,AG hi hl.1]
  exact t1 h3 fun _=>ih _
theorem eB {l:List D}{z45 z46:Int}(hl:AD AI 50 l) (hd:sT l) (hk:∀a:Int,Total fun n=>CE n z1 s2 s3 l4 z5 s6 l7 z8 s9 l10 l11 l12 l13 l14 z15 z45 (IntKind.wrap .i64 (z46+1)) a):∀i:Nat,i≤l.length→∀a:Int,Total fun n=>CM n z1 s2 s3 l4 z5 s6 l7 z8 s9 l10 l11 l12 l13 l14 z15 z45 z46 l (l.length:Int) (i:Int) a:=by
 refine down l.length ?_ ?_
 ·intro a
  exact tu (by simp only[CM,Int.lt_irrefl,if_false];exact tu (by simp only[CX,Bool.false_eq_true,if_false,AJ];exact hk a))
 ·intro i hi ih a
  obtain⟨x,hx,hm,hr⟩:=hl.get hi
  have h3:=gG hr (hd x hm) a
  obtain⟨b0,b1,b2,b3,b4,b5,b6,b7,b8,b9,b10,b11,b12,b13,b14,rfl,_⟩:=Hx hr
  refine tu ?_
  simp only[CM,if_pos (Cn hi)]
  refine tu ?_
  simp only[CX,if_true,AH hx,BJ,AJ,AG hi hl.1]
  exact t1 h3 fun _=>ih _
theorem lG (h11:AD AI 39 l11) (h12:AD AI 50 l12) (hd12:sT l12) (h13:AD AI 50 l13) (hd13:sT l13)
  (h14:AD AI 95 l14) (hd:∀(s1 s2:ByteArray) (m:List D),.agg [.str s1,.str s2,.list true 15 m]∈l14→sT m):Total fun n=>TK n z1 s2 s3 l4 z5 s6 l7 z8 s9 l10 l11 l12 l13 l14 z15:=by
 have arms:∀i:Nat,i≤l14.length→∀a:Int,Total fun n=>CE n z1 s2 s3 l4 z5 s6 l7 z8 s9 l10 l11 l12 l13 l14 z15 (l14.length:Int) (i:Int) a:=by
  refine down l14.length ?_ ?_
  ·intro a
   exact tu (by simp only[CE,Int.lt_irrefl,if_false];exact tu (by simp only[CW,Bool.false_eq_true,if_false];exact tr))
  ·intro i hi ih a
   obtain⟨x,hx,hm,hr⟩:=h14.get hi
   obtain⟨t1,t2,m,rfl,_,_,w2⟩:=J0 hr
   refine tu ?_
   simp only[CE,if_pos (Cn hi)]
   refine tu ?_
   simp only[CW,if_true,AH hx,Bf,AE]
   exact eB (z1:=z1) (s2:=s2) (s3:=s3) (l4:=l4) (z5:=z5) (s6:=s6) (l7:=l7) (z8:=z8) (s9:=s9) (l10:=l10) (l11:=l11) (l12:=l12) (l13:=l13) (l14:=l14) (z15:=z15) w2 (hd _ _ _ hm) (by rw[AG hi h14.1];exact ih) 0 (Nat.zero_le _) a
 have g1:∀{γ:Type} (k:D→Option γ),Ap [.list true 15 l12,.list true 15 l13] (1:Int) k=k (.list true 15 l13):=fun k=>AH (i:=1) rfl
 have k2:∀a:Int,Total fun n=>B1 n z1 s2 s3 l4 z5 s6 l7 z8 s9 l10 l11 l12 l13 l14 z15 (2:Int) a:=by
  intro a
  refine tu ?_
  simp only[B1,Int.lt_irrefl,if_false]
  exact tu (by simp only[CK,Bool.false_eq_true,if_false,AE];exact arms 0 (Nat.zero_le _) a)
 have k1:∀a:Int,Total fun n=>B1 n z1 s2 s3 l4 z5 s6 l7 z8 s9 l10 l11 l12 l13 l14 z15 (1:Int) a:=by
  intro a
  refine tu ?_
  simp only[B1,show (1:Int)<2 by decide,if_true]
  refine tu ?_
  simp only[CK,if_true,g1,Bd,AE]
  exact Zw (z1:=z1) (s2:=s2) (s3:=s3) (l4:=l4) (z5:=z5) (s6:=s6) (l7:=l7) (z8:=z8) (s9:=s9) (l10:=l10) (l11:=l11) (l12:=l12) (l13:=l13) (l14:=l14) (z15:=z15) h13 hd13 1 (by rw[show IntKind.wrap .i64 ((1:Int)+1)=2 from rfl];exact k2) 0 (Nat.zero_le _) a
 have k0:∀a:Int,Total fun n=>IL n a z1 s2 s3 l4 z5 s6 l7 z8 s9 l10 l11 l12 l13 l14 z15:=by
  intro a
  refine tu ?_
  simp only[IL]
  refine tu ?_
  simp only[B1,show (0:Int)<2 by decide,if_true]
  refine tu ?_
  simp only[CK,if_true,LC,Bd,AE]
  exact Zw (z1:=z1) (s2:=s2) (s3:=s3) (l4:=l4) (z5:=z5) (s6:=s6) (l7:=l7) (z8:=z8) (s9:=s9) (l10:=l10) (l11:=l11) (l12:=l12) (l13:=l13) (l14:=l14) (z15:=z15) h12 hd12 0 (by rw[show IntKind.wrap .i64 ((0:Int)+1)=1 from rfl];exact k1) 0 (Nat.zero_le _) a
 have hex:∀i:Nat,i≤l11.length→∀a:Int,Total fun n=>GU n z1 s2 s3 l4 z5 s6 l7 z8 s9 l10 l11 l12 l13 l14 z15 (l11.length:Int) (i:Int) a:=by
  refine down l11.length ?_ ?_
  ·intro a
   refine tu ?_
   simp only[GU,Int.lt_irrefl,if_false]
   refine tu ?_
   simp only[HW,Bool.false_eq_true,if_false]
   obtain⟨r,hr⟩:=lF (k:=fun n z47 z48 s49 s50 l51 z52 s53 l54 z55 s56 l57 l58 l59 l60 l61 z62=>some z47) (k0 a) (fun _ _ _ _ _ _ _ _ _ _ _ _ _ _ _ _=>tr)
   exact⟨r,Ev.bO15 (A:=fun n=>cX n z1 s2 s3 l4 z5 s6 l7 z8 s9 l10 l11 l12 l13 l14 z15) (.of fun n=>rfl) hr⟩
  ·intro i hi ih a
   obtain⟨x,hx,hm,hr⟩:=h11.get hi
   obtain⟨a0,a1,a2,a3,a4,a5,a6,a7,rfl,w0,w1,w2,w3,w4,w5,w6,w7⟩:=Jz hr
   refine tu ?_
   simp only[GU,if_pos (Cn hi)]
   refine tu ?_
   simp only[HW,if_true,AH hx,BD,AJ,AG hi h11.1]
   exact t1 (gF a6 w6 _ _ _ _ _ _ _) fun _=>ih _
 exact tu (by simp only[TK,AE];exact hex 0 (Nat.zero_le _) _)
end
theorem rI (l:List D):AD AI 50 l→sT l:=by
 refine Ba (P:=fun l=>AD AI 50 l→sT l) (fun l ih h=>?_) l
 intro x hm
 obtain⟨a0,a1,a2,a3,a4,a5,a6,a7,a8,a9,a10,a11,a12,a13,a14,rfl,w0,w1,w2,w3,w4,w5,w6,w7,w8,w9,w10,w11,w12,w13,w14⟩:=Hx (h.2 x hm)
 exact lG (z1:=a0) (s2:=a1) (s3:=a2) (l4:=a3) (z5:=a4) (s6:=a5) (l7:=a6) (z8:=a7) (s9:=a8) (l10:=a9) (l11:=a10) (l12:=a11) (l13:=a12) (l14:=a13) (z15:=a14) w10 w11 (ih a11 (Af (ag:=true) (sz:=15) hm (by simp)) w11) w12 (ih a12 (Af (ag:=true) (sz:=15) hm (by simp)) w12) w13
  (fun s1 s2 m hm2=>ih m (Nat.lt_trans (Af (ag:=true) (sz:=15) hm2 (by simp)) (Af (ag:=true) (sz:=3) hm (by simp))) (by obtain⟨b0,b1,b2,e,_,_,w⟩:=J0 (w13.2 _ hm2);cases e;exact w))
def sv (x:D):Int:=val fun n=>BJ x (TK n)
def sm (l:List D):Int:=(l.map sv).sum
def eC (x:D):Int:=match x with
 | .agg [.int .u8 a0,.str a1,.list true 4 a2,.int .u8 a3,.str a4,.list true 3 a5,.list true 15 a6,.int .u8 a7,.int .i64 a8,.str a9,.str a10,.str a11,.list false 1 a12,.list true 8 a13,.int .i64 a14,.int .i64 a15]=>1+(if a0=3 then val (fun n=>T3 n a7 a8 a9 a10 a11 a12 a13 a14)else 0)+sm a6
 | _=>0
theorem WW {l13:List D}(h:AD AI 50 l13) (l1:List D) (z2 z4:Int) {R:Int}:∀i:Nat,i≤l13.length→∀z:Int,W z=z→Ev (fun n=>Np n l1 z2 (W (z+sm (l13.drop i))) (IntKind.wrap .i64 (z4+1))) R→Ev (fun n=>Pe n l1 z2 z4 l13 (l13.length:Int) z (i:Int)) R:=by
 refine down l13.length ?_ ?_
 ·intro z hz hR
  refine .succ ?_
  simp only[Pe,Int.lt_irrefl,if_false]
  refine .succ ?_
  simp only[TO,Bool.false_eq_true,if_false,AJ]
  rw[List.drop_length,show sm []=0 from rfl,Int.add_zero,hz]at hR
  exact hR
 ·intro i hi ih z hz hR
  obtain⟨x,hx,hm,hr⟩:=h.get hi
  have hv:Ev (fun n=>BJ x (TK n)) (sv x):=RL (rI l13 h x hm)
  have hd:l13.drop i=x::l13.drop (i+1):=by rw[List.drop_eq_getElem_cons hi];congr 1;exact (List.getElem?_eq_some_iff.1 hx).2
  have hs:sm (l13.drop i)=sv x+sm (l13.drop (i+1)):=by rw[hd];rfl
  rw[hs]at hR
  have hih:=ih (W (z+sv x)) (rG _) (by rw[rF,Int.add_assoc];exact hR)
  refine .succ ?_
  simp only[Pe,if_pos (Cn hi)]
  refine .succ ?_
  generalize hsv:sv x=v at hv hih
  obtain⟨b0,b1,b2,b3,b4,b5,b6,b7,b8,b9,b10,b11,b12,b13,b14,rfl,_⟩:=Hx hr
  simp only[TO,if_true,AH hx,BJ]
  refine Ev.bO1 hv ?_
  simp only[AJ,AG hi h.1]
  exact hih
theorem WX {l:List D}(h:AD AI 45 l):Ev (fun n=>fS n l) (W ((l.map eC).sum)):=by
 have loop:∀i:Nat,i≤l.length→∀z:Int,W z=z→Ev (fun n=>Np n l (l.length:Int) z (i:Int)) (W (z+((l.drop i).map eC).sum)):=by
  refine down l.length ?_ ?_
  ·intro z hz
   rw[List.drop_length,show (([]:List D).map eC).sum=0 from rfl,Int.add_zero,hz]
   refine .succ ?_
   simp only[Np,Int.lt_irrefl,if_false]
   exact .succ (by simp only[TL,Bool.false_eq_true,if_false];exact .ret)
  ·intro i hi ih z hz
   obtain⟨x,hx,hm,hr⟩:=h.get hi
   have hd:l.drop i=x::l.drop (i+1):=by rw[List.drop_eq_getElem_cons hi];congr 1;exact (List.getElem?_eq_some_iff.1 hx).2
   rw[hd,List.map_cons,List.sum_cons]
   generalize hT:((l.drop (i+1)).map eC).sum=T at ih
   obtain⟨a0,a1,a2,a3,a4,a5,a6,a7,a8,a9,a10,a11,a12,a13,a14,a15,rfl,w0,w1,w2,w3,w4,w5,w6,w7,w8,w9,w10,w11,w12,w13,w14,w15⟩:=OH hr
   refine .succ ?_
   simp only[Np,if_pos (Cn hi)]
   refine .succ ?_
   simp only[TL,if_true,AH hx,BU,AJ]
   by_cases c:a0=3
   ·have he:=RL (gF a13 w13 a7 a8 a9 a10 a11 a12 a14)
    have hs:eC (.agg [.int .u8 a0,.str a1,.list true 4 a2,.int .u8 a3,.str a4,.list true 3 a5,.list true 15 a6,.int .u8 a7,.int .i64 a8,.str a9,.str a10,.str a11,.list false 1 a12,.list true 8 a13,.int .i64 a14,.int .i64 a15])=1+val (fun n=>T3 n a7 a8 a9 a10 a11 a12 a13 a14)+sm a6:=by show 1+(if a0=3 then _ else 0)+sm a6=_;rw[if_pos c]
    rw[hs]
    generalize val (fun n=>T3 n a7 a8 a9 a10 a11 a12 a13 a14)=e at he
    simp only[if_pos c]
    refine .succ ?_
    simp only[TM,if_true]
    refine Ev.bO1 he ?_
    simp only[AJ]
    refine .succ ?_
    simp only[TN,AE]
    refine WW w6 l (l.length:Int) (i:Int) 0 (Nat.zero_le _) _ (rG _) ?_
    rw[AG hi h.1,List.drop_zero]
    have hih:=ih (W (W (W (z+1)+e)+sm a6)) (rG _)
    rw[show W (W (W (W (z+1)+e)+sm a6)+T)=W (z+(1+e+sm a6+T))by simp only[W,IntKind.wrap_i64];omega]at hih
    exact hih
   ·have hs:eC (.agg [.int .u8 a0,.str a1,.list true 4 a2,.int .u8 a3,.str a4,.list true 3 a5,.list true 15 a6,.int .u8 a7,.int .i64 a8,.str a9,.str a10,.str a11,.list false 1 a12,.list true 8 a13,.int .i64 a14,.int .i64 a15])=1+0+sm a6:=by show 1+(if a0=3 then _ else 0)+sm a6=_;rw[if_neg c]
    rw[hs]
    simp only[if_neg c]
    refine .succ ?_
    simp only[TM,Bool.false_eq_true,if_false]
    refine .succ ?_
    simp only[TN,AE]
    refine WW w6 l (l.length:Int) (i:Int) 0 (Nat.zero_le _) _ (rG _) ?_
    rw[AG hi h.1,List.drop_zero]
    have hih:=ih (W (W (z+1)+sm a6)) (rG _)
    rw[show W (W (W (z+1)+sm a6)+T)=W (z+(1+0+sm a6+T))by simp only[W,IntKind.wrap_i64];omega]at hih
    exact hih
 have:=loop 0 (Nat.zero_le _) 0 rfl
 rw[List.drop_zero,Int.zero_add]at this
 unfold fS
 exact this
theorem AD.app {l m:List D}(h:AD AI 45 l) (h':AD AI 45 m) (hl:l.length+m.length≤10000):AD AI 45 (l++m):=by
 have hM:10000<maxLen:=by decide
 refine⟨by simp;omega,fun x hx=>?_⟩
 rcases List.mem_append.1 hx with hx | hx
 ·exact h.2 x hx
 ·exact h'.2 x hx
end Go.Proofs.YtjmofeakajdbiaaGreatDoor
end
set_option maxRecDepth 100000
set_option maxHeartbeats 40000000
set_option linter.unusedVariables false
noncomputable section
namespace Go.Proofs.YtjmofeakajdbiaaGreatDoor
open Go Go.AM
def VG:Nat->LD->LD->LD->Bool->Option (Bool)
 | 0,_,_,_,_=>none
 | n+1,l1,l8,l9,b22=>
  (if b22=true then some false else bO1 (Xf n l8) fun b23=>bO1 (Xf n l1) fun b24=>AL (b23==b24) fun b25=>(if b25=true then bO1 (Xf n l9) fun b26=>bO1 (Xf n l1) fun b27=>AL (b26==b27) fun b28=>(if b28=true then bO1 (Z9 n l9) fun z29=>bO1 (Z9 n l1) fun z30=>(if z29=z30 then bO1 (fS n l9) fun z31=>bO1 (fS n l1) fun z32=>(if z31=z32 then bO1 (cK n l9) fun l33=>bO1 (rQ n l33 l9 true) fun b34=>some b34 else some false)else some false)else some false)else some false))
def XZ:Nat->LD->LD->Bool->Option (Bool)
 | 0,_,_,_=>none
 | n+1,l1,l2,b7=>
  (if b7=true then some true else bO1 (rS n l1) fun l8=>bO1 (cK n l1) fun l9=>bO1 (XJ n l1 l8) fun b10=>AL (!b10) fun b11=>(if b11=true then VG n l1 l8 l9 true else bO1 (XJ n l1 l9) fun b12=>AL (!b12) fun b13=>(if b13=true then VG n l1 l8 l9 true else bO1 (XJ n l1 l1) fun b14=>AL (!b14) fun b15=>(if b15=true then VG n l1 l8 l9 true else bO1 (XJ n l1 l2) fun b16=>bO1 (XJ n l2 l1) fun b17=>AL (!(b16==b17)) fun b18=>(if b18=true then VG n l1 l8 l9 true else bO1 (XJ n l1 l2) fun b19=>bO1 (XJ n l8 l2) fun b20=>AL (!(b19==b20)) fun b21=>VG n l1 l8 l9 b21)))))
def F7 (n:Nat) (l1:LD) (l2:LD):Option (Bool):=
 bO1 (qI n) fun b3=>AL (!b3) fun b4=>(if b4=true then some false else bO1 (F8 n l1) fun b5=>(if b5=true then XZ n l1 l2 true else bO1 (F8 n l2) fun b6=>XZ n l1 l2 b6))
noncomputable def X7:BX:=⟨7,Tryz.f7,[.agg [.q 16],.agg [.q 16]],[],⟨.one (.b),[],[]⟩,Bool,inferInstance,F7,[⟨29,[2,3,4,14],[.loc 0,.loc 32],352,[.p (.loc 0) 0,.p (.loc 32) 0,.one (.cb false),.b],[[.q 16],[.q 16]],fun n b7 l1 l2=>XZ n l1 l2 b7⟩,
 ⟨125,[2,4,5,6,52],[.loc 0,.loc 480,.loc 512],1696,[.p (.loc 0) 0,.one (.cb false),.p (.loc 480) 0,.p (.loc 512) 0,.b],[[.q 16],[.q 16],[.q 16]],fun n b22 l1 l8 l9=>VG n l1 l8 l9 b22⟩]⟩
noncomputable def k7:Kz:=sg X7 [yW,zD,zH,k16,k17,k23,yK,yP,k8] Tryz.func7 (by kernel_rfl) (by kernel_rfl) (by kernel_rfl)
theorem T7 (n:Nat):∀⦃l1 l2 r1⦄,F7 n l1 l2=some r1->
  Ah Tryz.prog inv 7 [.d (.agg [.list true 16 l1]),.d (.agg [.list true 16 l2])] [] (.v (.d (.bool r1))) [] []:=fun l1 l2 r1 h=>k7.ok n [.L l1,.L l2] _ h _ _ _ _ _ _ rfl rfl rfl rfl _ rfl
end Go.Proofs.YtjmofeakajdbiaaGreatDoor
end
set_option linter.unusedVariables false
noncomputable section
namespace Go.Proofs.YtjmofeakajdbiaaGreatDoor
open Go Go.AM
theorem Gc.back {l r:List D}(h:Gc l r) {y:D}(hy:y∈r):∃(a0 a1:Int) (a2 a3 a4:ByteArray) (a5 a6 m:List D) (a7:Int),.agg [.int .u8 a0,.int .i64 a1,.str a2,.str a3,.str a4,.list false 1 a5,.list true 8 a6,.int .i64 a7]∈l∧y= .agg [.int .u8 a0,.int .i64 a1,.str a2,.str a3,.str a4,.list false 1 a5,.list true 8 m,.int .i64 0]∧Gc a6 m:=by
 obtain⟨j,hj⟩:=List.getElem?_of_mem hy
 have hlt:j<l.length:=by rw[←h.len];exact (List.getElem?_eq_some_iff.1 hj).1
 obtain⟨a0,a1,a2,a3,a4,a5,a6,m,a7,h1,h2,h3⟩:=h.get (List.getElem?_eq_getElem hlt)
 rw[hj]at h2
 exact⟨a0,a1,a2,a3,a4,a5,a6,m,a7,h1▸List.getElem_mem hlt,Option.some.inj h2,h3⟩
theorem Fo.back {l r:List D}(h:Fo l r) {y:D}(hy:y∈r):∃(a0:Int) (a1 a2:ByteArray) (a3:List D) (a4:Int) (a5:ByteArray) (a6:List D) (a7:Int) (a8:ByteArray) (a9 a10 a11 a12 a13 e u v k:List D) (a14:Int),.agg [.int .u8 a0,.str a1,.str a2,.list false 1 a3,.int .u8 a4,.str a5,.list true 3 a6,.int .i64 a7,.str a8,.list false 1 a9,.list true 8 a10,.list true 15 a11,.list true 15 a12,.list true 3 a13,.int .i64 a14]∈l∧y= .agg [.int .u8 a0,.str a1,.str a2,.list false 1 a3,.int .u8 a4,.str a5,.list true 3 a6,.int .i64 a7,.str a8,.list false 1 a9,.list true 8 e,.list true 15 u,.list true 15 v,.list true 3 k,.int .i64 0]∧Gc a10 e∧Fo a11 u∧Fo a12 v∧OL a13 k:=by
 obtain⟨j,hj⟩:=List.getElem?_of_mem hy
 have hlt:j<l.length:=by rw[←h.len];exact (List.getElem?_eq_some_iff.1 hj).1
 obtain⟨a0,a1,a2,a3,a4,a5,a6,a7,a8,a9,a10,a11,a12,a13,e,u,v,k,a14,h1,h2,h3⟩:=h.get (List.getElem?_eq_getElem hlt)
 rw[hj]at h2
 exact⟨a0,a1,a2,a3,a4,a5,a6,a7,a8,a9,a10,a11,a12,a13,e,u,v,k,a14,h1▸List.getElem_mem hlt,Option.some.inj h2,h3⟩
theorem OL.back {l r:List D}(h:OL l r) {y:D}(hy:y∈r):∃(t1 t2:ByteArray) (m m':List D),.agg [.str t1,.str t2,.list true 15 m]∈l∧y= .agg [.str t1,.str t2,.list true 15 m']∧Fo m m':=by
 obtain⟨j,hj⟩:=List.getElem?_of_mem hy
 have hlt:j<l.length:=by rw[←h.len];exact (List.getElem?_eq_some_iff.1 hj).1
 obtain⟨t1,t2,m,m',h1,h2,h3⟩:=h.get (List.getElem?_eq_getElem hlt)
 rw[hj]at h2
 exact⟨t1,t2,m,m',h1▸List.getElem_mem hlt,Option.some.inj h2,h3⟩
theorem Gc.sm (l:List D):MB l→∀r,Gc l r→MB r:=by
 refine Ba (P:=fun l=>MB l→∀r,Gc l r→MB r) (fun l ih h r e=>?_) l
 refine .mk (by rw[e.len];exact h.len) (fun b0 b1 b2 b3 b4 b5 b6 b7 hm=>?_) (fun b0 b1 b2 b3 b4 b5 b6 b7 hm=>?_)
 ·obtain⟨a0,a1,a2,a3,a4,a5,a6,m,a7,h1,h2,h3⟩:=e.back hm
  cases h2
  exact (h.row h1).1
 ·obtain⟨a0,a1,a2,a3,a4,a5,a6,m,a7,h1,h2,h3⟩:=e.back hm
  cases h2
  exact ih a6 (Af (ag:=true) (sz:=8) h1 (by simp)) (h.row h1).2 _ h3
theorem Fo.sm (l:List D):La l→∀r,Fo l r→La r:=by
 refine Ba (P:=fun l=>La l→∀r,Fo l r→La r) (fun l ih h r e=>?_) l
 have hl:=h.len
 cases h with
 | mk _ h3 h11 h12 h13=>
  refine .mk (by rw[e.len];exact hl) (fun b0 b1 b2 b3 b4 b5 b6 b7 b8 b9 b10 b11 b12 b13 b14 hm=>?_) (fun b0 b1 b2 b3 b4 b5 b6 b7 b8 b9 b10 b11 b12 b13 b14 hm=>?_) (fun b0 b1 b2 b3 b4 b5 b6 b7 b8 b9 b10 b11 b12 b13 b14 hm=>?_) (fun b0 b1 b2 b3 b4 b5 b6 b7 b8 b9 b10 b11 b12 b13 b14 hm t1 t2 m' hm2=>?_)<;>obtain⟨a0,a1,a2,a3,a4,a5,a6,a7,a8,a9,a10,a11,a12,a13,_,_,_,_,a14,g1,g2,g3,g4,g5,g6⟩:=e.back hm<;>cases g2
  ·obtain⟨x1,x2,x3,x4,x5⟩:=h3 _ _ _ _ _ _ _ _ _ _ _ _ _ _ _ g1
   exact⟨x1,x2,x3,Gc.sm _ x4 _ g3,by rw[g6.len];exact x5⟩
  ·exact ih a11 (Af (ag:=true) (sz:=15) g1 (by simp)) (h11 _ _ _ _ _ _ _ _ _ _ _ _ _ _ _ g1) _ g4
  ·exact ih a12 (Af (ag:=true) (sz:=15) g1 (by simp)) (h12 _ _ _ _ _ _ _ _ _ _ _ _ _ _ _ g1) _ g5
  ·obtain⟨s1,s2,m,_,k1,k2,k3⟩:=g6.back hm2
   cases k2
   exact ih m (Nat.lt_trans (Af (ag:=true) (sz:=15) k1 (by simp)) (Af (ag:=true) (sz:=3) g1 (by simp))) (h13 _ _ _ _ _ _ _ _ _ _ _ _ _ _ _ g1 _ _ _ k1) _ k3
theorem Gc.self {l r:List D}(h:Gc l r):Gc r r:=by
 induction h with
 | nil=>exact .nil
 | cons _ _ i1 i2=>exact .cons i1 i2
mutual
theorem Fo.self:∀{l r:List D},Fo l r→Fo r r
 | _,_,.nil=>.nil
 | _,_,.cons h1 h2 h3 h4 h=>.cons h1.self h2.self h3.self h4.self h.self
theorem OL.self:∀{l r:List D},OL l r→OL r r
 | _,_,.nil=>.nil
 | _,_,.cons h1 h=>.cons h1.self h.self
end
theorem Q7.self:∀{l r:List D},Q7 l r→Q7 r r
 | _,_,.nil=>.nil
 | _,_,.cons h1 h2 h=>.cons h1.self h2.self h.self
theorem Gc.Wa {l r:List D}(h:Gc l r):∀{q},Gc l q→r=q:=by
 induction h with
 | nil=>intro q h;cases h;rfl
 | cons _ _ i1 i2=>intro q h;cases h with | cons h1 h2=>rw[i1 h1,i2 h2]
mutual
theorem Fo.Wa:∀{l r:List D},Fo l r→∀{q},Fo l q→r=q
 | _,_,.nil,_,h=>by cases h;rfl
 | _,_,.cons h1 h2 h3 h4 h5,_,h=>by cases h with | cons k1 k2 k3 k4 k5=>rw[h1.Wa k1,h2.Wa k2,h3.Wa k3,h4.Wa k4,h5.Wa k5]
theorem OL.Wa:∀{l r:List D},OL l r→∀{q},OL l q→r=q
 | _,_,.nil,_,h=>by cases h;rfl
 | _,_,.cons h1 h2,_,h=>by cases h with | cons k1 k2=>rw[h1.Wa k1,h2.Wa k2]
end
theorem Q7.Wa:∀{l r:List D},Q7 l r→∀{q},Q7 l q→r=q
 | _,_,.nil,_,h=>by cases h;rfl
 | _,_,.cons h1 h2 h3,_,h=>by cases h with | cons k1 k2 k3=>rw[h1.Wa k1,h2.Wa k2,h3.Wa k3]
theorem KJ {α:Type} [Inhabited α] {A B:Nat→Option α}(h:∀n,RO Eq (A n) (B n)):val A=val B:=congrArg val (funext fun n=>(h n).eq)
theorem Fo.gJ:∀{l r:List D},Fo l r→l.map sv=r.map sv
 | _,_,.nil=>rfl
 | _,_,.cons h1 h2 h3 h4 h=>by
  rw[List.map_cons,List.map_cons,h.gJ]
  congr 1
  exact KJ fun n=>qG (.inr h1) (.inr h2) (.inr h3) (.inr h4)
theorem Q7.gK:∀{l r:List D},Q7 l r→l.map lD=r.map lD∧l.map RR=r.map RR∧l.map eC=r.map eC∧((∀x∈l,XY x)→∀x∈r,XY x)
 | _,_,.nil=>⟨rfl,rfl,rfl,fun _ x h=>by cases h⟩
 | _,_,@Q7.cons a0 a1 a2 a3 a4 a5 a6 a7 a8 a9 a10 a11 a12 a13 u e a14 a15 l r h1 h2 h=>by
  obtain⟨i1,i2,i3,i4⟩:=h.gK
  refine⟨?_,?_,?_,fun hf x hx=>?_⟩
  ·rw[List.map_cons,List.map_cons,i1]
   congr 1
   unfold lD
   refine KJ (A:=fun n=>BU _ (ZU n)) (B:=fun n=>BU _ (ZU n)) fun n=>?_
   exact qE (a:=a0) (b:=a1) (q:=a14) (q':=0) (r:=a15) (r':=0) (.inr h1) (.inr h2)
  ·rw[List.map_cons,List.map_cons,i2]
   congr 1
   unfold RR
   refine congrArg Int.toNat (KJ (A:=fun n=>BU _ (V9 n)) (B:=fun n=>BU _ (V9 n)) fun n=>?_)
   exact fZ (a:=a0) (b:=a1) (q:=a14) (q':=0) (r:=a15) (r':=0) (.inr h1) (.inr h2)
  ·rw[List.map_cons,List.map_cons,i3]
   congr 1
   simp only[eC,sm,h1.gJ]
   rw[KJ fun n=>gA (.inr h2)]
  ·cases hx with
   | head=>
    obtain⟨d,d1,d2⟩:=hf _ (List.mem_cons_self ..)
    refine⟨d,d1,?_⟩
    obtain⟨N,hN⟩:=d2
    exact⟨N,fun n hn=>by rw[←hN n hn];exact (fZ (a:=a0) (b:=a1) (q:=a14) (q':=0) (r:=a15) (r':=0) (.inr h1) (.inr h2)).eq.symm⟩
   | tail _ hx=>exact i4 (fun y hy=>hf y (List.mem_cons_of_mem _ hy)) x hx
theorem all_map {l r:List D}{f:D→Bool}(h:l.map f=r.map f):l.all f=r.all f:=by
 have e:∀l:List D,l.all f=(l.map f).all id:=fun l=>by rw[List.all_map];rfl
 rw[e l,e r,h]
theorem Po {A:Nat→Option Bool}{P:Prop}(h:BV A P) (p:P):Ev A true:=by
 obtain⟨b,h1,h2⟩:=h
 rw[h2.2 p]at h1
 exact h1
theorem Xa {p q:List D}(hp:AD AI 45 p) (hq:AD AI 45 q):Ev (fun n=>F7 n p q) true:=by
 unfold F7
 refine Ev.bO1 Zk ?_
 simp only[AL,Bool.not_true,Bool.false_eq_true,if_false]
 obtain⟨b5,g1,g2⟩:=ZP hp
 refine Ev.bO1 g1 ?_
 cases b5 with
 | true=>simp only[if_true];exact .succ (by simp only[XZ,if_true];exact .ret)
 | false=>
  simp only[Bool.false_eq_true,if_false]
  obtain⟨b6,k1,k2⟩:=ZP hq
  refine Ev.bO1 k1 ?_
  cases b6 with
  | true=>exact .succ (by simp only[XZ,if_true];exact .ret)
  | false=>
   obtain⟨lp,sp⟩:=g2 rfl
   obtain⟨lq,sq⟩:=k2 rfl
   obtain⟨l',_,c2,c3,_⟩:=MC true hp lp sp
   obtain rfl:=c2 rfl
   have c3:=c3 rfl
   obtain⟨r,⟨rt,re⟩,_,_,r4⟩:=MC false hp lp sp
   have re:=re rfl
   have r4:=r4 rfl
   obtain⟨r2,⟨rt2,re2⟩,_⟩:=MC false hq lq sq
   have re2:=re2 rfl
   have sr:∀(a0:Int) (a1:ByteArray) (a2:List D) (a3:Int) (a4:ByteArray) (a5 a6:List D) (a7 a8:Int) (a9 a10 a11:ByteArray) (a12 a13:List D) (a14 a15:Int),D.agg [.int .u8 a0,.str a1,.list true 4 a2,.int .u8 a3,.str a4,.list true 3 a5,.list true 15 a6,.int .u8 a7,.int .i64 a8,.str a9,.str a10,.str a11,.list false 1 a12,.list true 8 a13,.int .i64 a14,.int .i64 a15]∈r→jV a2∧OJ a5∧La a6∧a12.length≤4000∧MB a13:=by
    intro a0 a1 a2 a3 a4 a5 a6 a7 a8 a9 a10 a11 a12 a13 a14 a15 hm
    obtain⟨j,hj⟩:=List.getElem?_of_mem hm
    have hlt:j<l'.length:=by rw[←re.len];exact (List.getElem?_eq_some_iff.1 hj).1
    obtain⟨b0,b1,b2,b3,b4,b5,b6,b7,b8,b9,b10,b11,b12,b13,u,e,b14,b15,h1,h2,h3,h4⟩:=re.get (List.getElem?_eq_getElem hlt)
    rw[hj]at h2
    cases h2
    obtain⟨x1,x2,x3,x4,x5⟩:=sp _ _ _ _ _ _ _ _ _ _ _ _ _ _ _ _ (h1▸List.getElem_mem hlt)
    exact⟨x1,x2,Fo.sm _ x3 _ h3,x4,Gc.sm _ x5 _ h4⟩
   obtain⟨r3,⟨_,re3⟩,_,_,r5⟩:=MC false rt (by rw[re.len];exact lp) sr
   have r5:=r5 rfl
   obtain rfl:=re.self.Wa (re3 rfl)
   have t1:=Po (Ia hp hp re re) rfl
   have t2:=Po (Ia hp rt re re.self) rfl
   obtain⟨b,h1,h2⟩:=Ia hp hq re re2
   obtain⟨b',h3,h4⟩:=Ia hq hp re2 re
   have hb:b'=b:=by
    rw[Bool.eq_iff_iff,h2,h4]
    exact eq_comm
   subst hb
   obtain⟨_,z1,z2⟩:=Zu hp
   have z2:∀x∈l',XY x:=by
    have:=Ev.uniq z1 g1
    exact (z2 this).2
   obtain⟨e1,e2,e3,e4⟩:=re.gK
   have w1:=Ts hp
   have w2:=Ts rt
   rw[←all_map e1,re.len]at w2
   have d1:=(Tt hp z2).1
   have d2:=(Tt rt (e4 z2)).1
   rw[←e2]at d2
   have s1:=WX hp
   have s2:=WX rt
   rw[←e3]at s2
   refine .succ ?_
   simp only[XZ,Bool.false_eq_true,if_false]
   refine Ev.bO1 c3 (Ev.bO1 r4 (Ev.bO1 t1 ?_))
   simp only[AL,Bool.not_true,Bool.false_eq_true,if_false]
   refine Ev.bO1 t2 ?_
   simp only[Bool.not_true,Bool.false_eq_true,if_false]
   refine Ev.bO1 t1 ?_
   simp only[Bool.not_true,Bool.false_eq_true,if_false]
   refine Ev.bO1 h1 (Ev.bO1 h3 ?_)
   simp only[beq_self_eq_true,Bool.not_true,Bool.false_eq_true,if_false]
   refine Ev.bO1 h1 (Ev.bO1 h1 ?_)
   simp only[beq_self_eq_true,Bool.not_true]
   refine .succ ?_
   simp only[VG,Bool.false_eq_true,if_false]
   refine Ev.bO1 w1 (Ev.bO1 w1 ?_)
   simp only[AL,beq_self_eq_true,if_true]
   refine Ev.bO1 w2 (Ev.bO1 w1 ?_)
   simp only[beq_self_eq_true,if_true]
   refine Ev.bO1 d2 (Ev.bO1 d1 ?_)
   simp only[if_true]
   refine Ev.bO1 s2 (Ev.bO1 s1 ?_)
   simp only[if_true]
   exact Ev.bO1 r5 (Ev.bO1 (XG rt) .ret)
theorem Lx:∀xs:List D,JS AI [24,24] xs→Ah Tryz.prog inv 7 (xs.map V1.d) [] (.v (.d (.bool true))) [] []:=by
 intro xs h
 match xs,h with
 | [u,v],⟨u1,u2,v1,v2,_⟩=>
  obtain⟨p,rfl,hp⟩:=nN ⟨u1,u2⟩
  obtain⟨q,rfl,hq⟩:=nN ⟨v1,v2⟩
  obtain⟨n,hn⟩:=(Xa hp hq).run
  exact T7 n hn
end Go.Proofs.YtjmofeakajdbiaaGreatDoor
end
namespace Go.Proofs.YtjmofeakajdbiaaGreatDoor
open Go Go.ChangeShapes Go.WideShapes Go.ChangeAt Go.RowKit Go.AM
theorem LI:∀t∈[24,24],Tryz.prog.readableRec t=true∧t<Tryz.prog.types.size:=by
 have h:([24,24].all fun t=>Tryz.prog.readableRec t&&decide (t<Tryz.prog.types.size))=true:=by kernel_rfl
 intro t ht
 have:=List.all_eq_true.1 h t ht
 simpa using this
theorem N1 {W:World}(h:laidMet Tryz.prog Rows.treeApartRow.laid W):inv.at W fun _ _=>False:=by
 have e:(Rows.treeApartRow.laid.filter fun x=>x.1== "strings.asciiSpace")=[("strings.asciiSpace",Lib.tabData .u8 Lib.asciiSpaceTab)]:=by kernel_rfl
 have h2:=laidMet.filter (fun x=>x.1== "strings.asciiSpace") h
 rw[e]at h2
 have ht:Lib.TabIs Tryz.prog W "strings.asciiSpace" .u8 Lib.asciiSpaceTab:=by
  exact Lib.tabIs_of_head (g:=0) (t:=155) (e:=5) (n:=256) (by kernel_rfl) (by kernel_rfl) (by kernel_rfl) (by kernel_rfl) (by kernel_rfl) (by kernel_rfl) h2
 refine⟨ht,fun b hb=>⟨?_,fun _ h=>h⟩⟩
 have hb:Tryz.prog.globalNamed "strings.asciiSpace" =some b:=hb
 unfold Lib.TabIs World.var? at ht
 rw[hb]at ht
 simp only[Option.bind_some]at ht
 cases hx:W.heap[b]? with
 | none=>rw[hx]at ht;simp at ht
 | some o=>exact (Array.getElem?_eq_some_iff.1 hx).1
set_option maxRecDepth 100000 in
theorem KK (os:Os) (started:os.Started) (H:Type) (enc:TypeId×Value→H):
  ReturnsInHanded {} Tryz.checked os 7 .any (fun w args=>(Rows.treeApartSpec.pre enc Tryz.prog Tryz.f7 Rows.treeApartRow.domain false w args∧laidMetH Tryz.prog Rows.treeApartRow.laid w)∧sizedMet enc Tryz.prog Tryz.f7 (OpenSpec.ofChange Rows.treeApartSpec) false w args)
   (Rows.treeApartSpec.post enc Tryz.prog Tryz.f7 false true false false):=by
 refine returnsInHanded_of_change_and (C:=Tryz.checked) (X:=fun w _=>laidMetH Tryz.prog Rows.treeApartRow.laid w) (fun _ _ _ hh h=>h.of_heap hh) (by kernel_rfl) started (by kernel_rfl) Tryz.func7
  (ChangeSpec.witness_shaped (enc:=enc) (C:=Tryz.checked) (os:=os) (X:=fun w _=>laidMetH Tryz.prog Rows.treeApartRow.laid w) false (World.laidAll Tryz.prog os Rows.treeApartRow.laid) #[.agg #[.slice none 0 0],.agg #[.slice none 0 0]] 8 (World.laidAll_os _ _ _)
   (World.shaped_of_ZipB (by kernel_rfl) (by kernel_rfl)) (by kernel_rfl) (by kernel_rfl) (by kernel_rfl)
   (by rw[MakeChecks.laidMetH_plain _ _ _ (by kernel_rfl)];exact laidMet_laidAll _ (by kernel_rfl) (by kernel_rfl))) ?_
 intro W base args ds gs before hval0 hW _ _ hL _
 rw[MakeChecks.laidMetH_plain _ _ _ (by kernel_rfl)]at hL
 refine XX (ti:=AI) (T:=[2,3,5,9,22,24,31,33,34,36,37,39,42,43,45,48,50,74,95]) BI (by kernel_rfl) (ts:=[24,24]) (bt:=4) rfl rfl rfl (by kernel_rfl) (by decide) ?_ (by kernel_rfl) LI Lx (N1 hL) hval0 hW
 intro ds h
 match ds,h with
 | [_,_],_=>exact⟨rfl,rfl,rfl⟩
theorem N2:Rows.TreeApartSaid:=
 OpenClaim.holds_of_wide 7 Tryz.f7 rfl rfl rfl rfl rfl rfl rfl ⟨rfl,rfl,rfl,rfl,rfl⟩ rfl rfl rfl rfl rfl (by kernel_rfl) Tryz.func7 (by kernel_rfl)
  (of_decide_eq_true (by kernel_rfl)) (by unfold Func.isWrapper;first | (rw[if_pos (by decide+kernel)];kernel_rfl) | (rw[if_neg (by decide+kernel)];exact⟨rfl,rfl⟩))
  (fun os started H enc _=>KK os started H enc)
theorem tree_apart:Rows.TreeApartCardSaid:=
 Claim7.holds_tied_plain_at .later [] [.listed,.data] true Rows.treeApartCard.stood.harness false N2 (fun _ h=>by cases h) (by kernel_rfl) (fun _ h=>by cases h) treeApart_row_tie rfl ⟨rfl,rfl⟩ (by kernel_rfl) rfl
  (fun f fn hf hfn=>by
   obtain rfl:f=7:=Option.some.inj ((show Tryz.prog.funcNamed "weftway/weftwaylaw03.TreeApart" =some 7 by kernel_rfl).symm.trans hf) |>.symm
   obtain rfl:fn=Tryz.f7:=(Option.some.inj (Tryz.func7.symm.trans hfn)).symm
   exact⟨by kernel_rfl,fun j t ht=>by
    have hm:t∈[24,24]:=by
     have hp:Tryz.f7.params.toList=[24,24]:=rfl
     rw[←hp];simpa using Array.mem_of_getElem? ht
    have hall:([24,24].all fun u=>!Tryz.prog.wantsStandIn u)=true:=by kernel_rfl
    exact (show Tryz.prog.wantsStandIn t=false by simpa using List.all_eq_true.1 hall t hm)⟩)
  (by kernel_rfl)
end Go.Proofs.YtjmofeakajdbiaaGreatDoor
