/- Two programs one behind the other are whole, as deep, as large as the chapter says (TreeJoined). No condition. (Part 7.) -/
import Derived.Test.YtjmofeakajdbiaaGreatDoorRows
import Derived.Test.YtjmofeakajdbiaaGreatDoorTie
import Derived.Test.YtjmofeakajdbiaaGreatDoorCards
import Derived.ChangeSame
import Derived.JoinedOf
import Derived.JoinedAt
import Derived.RowKit
import Derived.RowKit2
import Derived.ReadAgain
import Derived.ChangeAlike
import Derived.Lay
import Derived.Handed
import Derived.LaidSub
import Derived.LaidLaws
import Derived.LaidHandle
import Derived.MakeChecks
import Derived.SevenTiedAt
import Derived.Lib.LaidTab
import Derived.Lib.LaidU8
import Derived.Test.YtjmofeakajdbiaaGreatDoorJoiF
set_option linter.unusedVariables false
set_option linter.unusedSimpArgs false
set_option linter.unusedVariables false
noncomputable section
namespace Go.Proofs.YtjmofeakajdbiaaGreatDoor
open Go Go.AM
def dR (c:Int) (l:List D):Prop:=∀x∈l,∃d:Nat,5*(d:Int)≤c∧Ev (fun n=>ds_t50 x (F88 n)) (d:Int)
def eR (c:Int) (l:List D):Prop:=∀x∈l,∃d:Nat,5*(d:Int)≤c∧Ev (fun n=>ds_t39 x (F87 n)) (d:Int)
theorem dR.mono {c c':Int}{l:List D}(h:dR c l) (hc:c≤c'):dR c' l:=fun x hx=>by
 obtain⟨d,h1,h2⟩:=h x hx
 exact⟨d,by omega,h2⟩
theorem eR.mono {c c':Int}{l:List D}(h:eR c l) (hc:c≤c'):eR c' l:=fun x hx=>by
 obtain⟨d,h1,h2⟩:=h x hx
 exact⟨d,by omega,h2⟩
theorem mx (a b:Nat):(if (b:Int)>(a:Int)then (b:Int)else (a:Int))=((max a b:Nat):Int):=by
 split<;>omega
theorem ty_dp (l:List D):ListS tab 33 l→∃m:Nat,(m<100000→∀z1 s2,Ev (fun n=>F86 n z1 s2 l) ((m+1:Nat):Int))∧
  (∀z1 s2 z,-6≤z→z≤20000→∃r,Ev (fun n=>F28 n z1 s2 l z) r∧ -6≤r∧r≤20000∧(0≤r→r+5*((m:Int)+1)≤z)):=by
 refine list_ind (P:=fun l=>ListS tab 33 l→∃m:Nat,(m<100000→∀z1 s2,Ev (fun n=>F86 n z1 s2 l) ((m+1:Nat):Int))∧
  (∀z1 s2 z,-6≤z→z≤20000→∃r,Ev (fun n=>F28 n z1 s2 l z) r∧ -6≤r∧r≤20000∧(0≤r→r+5*((m:Int)+1)≤z))) (fun l ih h=>?_) l
 have loop:∀i:Nat,i≤l.length→∃m:Nat,(m<100000→∀acc:Nat,acc<100000→Ev (fun n=>L86_1 n l (l.length:Int) (acc:Int) (i:Int)) ((max acc m+1:Nat):Int))∧
   (∀z,-6≤z→z≤20000→∃r,Ev (fun n=>L28_1 n l (i:Int) z) r∧ -6≤r∧r≤20000∧(0≤r→r+5*(m:Int)≤z)):=by
  refine down l.length ⟨0,fun _ acc ha=>?_,fun z h1 h2=>⟨z,?_,h1,h2,by omega⟩⟩ (fun i hi hP=>?_)
  ·refine .succ ?_
   simp only[L86_1,Int.lt_irrefl,if_false]
   refine .succ ?_
   simp only[L86_2,Bool.false_eq_true,if_false,letF,iw (show -9223372036854775808≤(acc:Int)+1 by omega) (by omega)]
   rw[show max acc 0=acc by omega]
   exact .ret
  ·refine .succ (.succ (.of fun n=>?_))
   rw[L28_1];simp only[lenF];rw[if_neg (by omega),L28_2,if_neg Bool.false_ne_true]
  ·obtain⟨m,p1,p2⟩:=hP
   obtain⟨x,hx,hm,hr⟩:=h.get hi
   obtain⟨a,s,l',rfl,_,hs,hl'⟩:=rs33 hr
   obtain⟨k,q1,q2⟩:=ih l' (size_row (ag:=true) (sz:=3) hm (by simp)) hl'
   refine⟨max (k+1) m,fun hk acc ha=>?_,fun z h1 h2=>?_⟩
   ·refine .succ ?_
    simp only[L86_1,if_pos (ilt hi)]
    refine .succ ?_
    simp only[L86_2,if_true,getF_nat hx,ds_t33]
    refine Ev.bO1 (q1 (by omega) a s) ?_
    simp only[letF,wrap_succ hi h.1]
    rw[mx,show max acc (max (k+1) m)=max (max acc (k+1)) m by omega]
    exact p1 (by omega) _ (by omega)
   ·by_cases hz:(0:Int)≤z
    ·obtain⟨y,g1,g2,g3,g4⟩:=q2 a s z h1 h2
     obtain⟨r,k1,k2,k3,k4⟩:=p2 y g2 g3
     refine⟨r,.succ (.succ (Ev.congr (A:=fun n=>bO1 (F28 n a s l' z) fun z10=>L28_1 n l ((i+1:Nat):Int) z10) (Ev.bO1 g1 k1) fun n=>?_)),k2,k3,by omega⟩
     rw[L28_1];simp only[lenF];rw[if_pos (by omega),if_pos hz,L28_2,if_pos rfl,getF_nat hx]
     simp only[ds_t33,letF,wrap_succ hi h.1]
    ·refine⟨z,.succ (.succ (.of fun n=>?_)),h1,h2,by omega⟩
     rw[L28_1];simp only[lenF];rw[if_pos (by omega),if_neg hz,L28_2,if_neg Bool.false_ne_true]
 obtain⟨m,p1,p2⟩:=loop 0 (Nat.zero_le _)
 refine⟨m,fun hm z1 s2=>?_,fun z1 s2 z h1 h2=>?_⟩
 ·refine .succ ?_
  simp only[F86,lenF]
  have:=p1 hm 0 (by omega)
  rwa [show max 0 m=m by omega]at this
 ·obtain⟨y,g1,g2,g3,g4⟩:=room26 s2 z h1 h2
  obtain⟨r,k1,k2,k3,k4⟩:=p2 y (by omega) g3
  exact⟨r,.succ ((Ev.bO1 g1 k1).congr fun n=>by rw[F28];rfl),k2,k3,by omega⟩
theorem ex_dp (l:List D):ListS tab 39 l→∃m:Nat,(m<100000→∀z1 z2 s3 s4 s5 l6 z8,Ev (fun n=>F87 n z1 z2 s3 s4 s5 l6 l z8) ((m+1:Nat):Int))∧
  (∀z1 z2 s3 s4 s5 l6 z8 z,ListS tab 9 l6→ -6≤z→z≤20000→∃r,Ev (fun n=>F30 n z1 z2 s3 s4 s5 l6 l z8 z) r∧ -6≤r∧r≤20000∧(0≤r→r+5*((m:Int)+1)≤z)):=by
 refine list_ind (P:=fun l=>ListS tab 39 l→∃m:Nat,(m<100000→∀z1 z2 s3 s4 s5 l6 z8,Ev (fun n=>F87 n z1 z2 s3 s4 s5 l6 l z8) ((m+1:Nat):Int))∧
  (∀z1 z2 s3 s4 s5 l6 z8 z,ListS tab 9 l6→ -6≤z→z≤20000→∃r,Ev (fun n=>F30 n z1 z2 s3 s4 s5 l6 l z8 z) r∧ -6≤r∧r≤20000∧(0≤r→r+5*((m:Int)+1)≤z))) (fun l ih h=>?_) l
 have loop:∀i:Nat,i≤l.length→∃m:Nat,(m<100000→∀acc:Nat,acc<100000→Ev (fun n=>L87_1 n l (l.length:Int) (acc:Int) (i:Int)) ((max acc m+1:Nat):Int))∧
   (∀z,-6≤z→z≤20000→∃r,Ev (fun n=>L30_1 n l (i:Int) z) r∧ -6≤r∧r≤20000∧(0≤r→r+5*(m:Int)≤z)):=by
  refine down l.length ⟨0,fun _ acc ha=>?_,fun z h1 h2=>⟨z,?_,h1,h2,by omega⟩⟩ (fun i hi hP=>?_)
  ·refine .succ ?_
   simp only[L87_1,Int.lt_irrefl,if_false]
   refine .succ ?_
   simp only[L87_2,Bool.false_eq_true,if_false,letF,iw (show -9223372036854775808≤(acc:Int)+1 by omega) (by omega)]
   rw[show max acc 0=acc by omega]
   exact .ret
  ·refine .succ (.succ (.of fun n=>?_))
   rw[L30_1];simp only[lenF];rw[if_neg (by omega),L30_2,if_neg Bool.false_ne_true]
  ·obtain⟨m,p1,p2⟩:=hP
   obtain⟨x,hx,hm,hr⟩:=h.get hi
   obtain⟨a0,a1,a2,a3,a4,a5,a6,a7,rfl,w0,_,w2,w3,w4,w5,w6,_⟩:=rs39 hr
   obtain⟨k,q1,q2⟩:=ih a6 (size_row (ag:=true) (sz:=8) hm (by simp)) w6
   refine⟨max (k+1) m,fun hk acc ha=>?_,fun z h1 h2=>?_⟩
   ·refine .succ ?_
    simp only[L87_1,if_pos (ilt hi)]
    refine .succ ?_
    simp only[L87_2,if_true,getF_nat hx,ds_t39]
    refine Ev.bO1 (q1 (by omega) a0 a1 a2 a3 a4 a5 a7) ?_
    simp only[letF,wrap_succ hi h.1]
    rw[mx,show max acc (max (k+1) m)=max (max acc (k+1)) m by omega]
    exact p1 (by omega) _ (by omega)
   ·by_cases hz:(0:Int)≤z
    ·obtain⟨y,g1,g2,g3,g4⟩:=q2 a0 a1 a2 a3 a4 a5 a7 z w5 h1 h2
     obtain⟨r,k1,k2,k3,k4⟩:=p2 y g2 g3
     refine⟨r,.succ (.succ (Ev.congr (A:=fun n=>bO1 (F30 n a0 a1 a2 a3 a4 a5 a6 a7 z) fun z10=>L30_1 n l ((i+1:Nat):Int) z10) (Ev.bO1 g1 k1) fun n=>?_)),k2,k3,by omega⟩
     rw[L30_1];simp only[lenF];rw[if_pos (by omega),if_pos hz,L30_2,if_pos rfl,getF_nat hx]
     simp only[ds_t39,letF,wrap_succ hi h.1]
    ·refine⟨z,.succ (.succ (.of fun n=>?_)),h1,h2,by omega⟩
     rw[L30_1];simp only[lenF];rw[if_pos (by omega),if_neg hz,L30_2,if_neg Bool.false_ne_true]
 obtain⟨m,p1,p2⟩:=loop 0 (Nat.zero_le _)
 refine⟨m,fun hm z1 z2 s3 s4 s5 l6 z8=>?_,fun z1 z2 s3 s4 s5 l6 z8 z h6 h1 h2=>?_⟩
 ·refine .succ ?_
  simp only[F87,lenF]
  have:=p1 hm 0 (by omega)
  rwa [show max 0 m=m by omega]at this
 ·obtain⟨y1,g1,g2,g3,g4⟩:=room26 s3 z h1 h2
  obtain⟨y2,j1,j2,j3,j4⟩:=room26 s4 y1 (by omega) g3
  obtain⟨y3,i1,i2,i3,i4⟩:=room67 h6 s5 y2 (by omega) j3
  obtain⟨r,k1,k2,k3,k4⟩:=p2 y3 i2 i3
  exact⟨r,.succ ((Ev.bO1 g1 (Ev.bO1 j1 (Ev.bO1 i1 k1))).congr fun n=>by rw[F30]),k2,k3,by omega⟩
section
variable {z1:Int}{s2 s3:ByteArray}{l4:List D}{z5:Int}{s6:ByteArray}{l7:List D}{z8:Int}{s9:ByteArray}{l10 l11 l12 l13 l14:List D}{z15:Int}{c:Int}
theorem d_one {x:D}{d a:Nat}(hx:RowS tab 50 x) (h:Ev (fun n=>ds_t50 x (F88 n)) (d:Int)):Ev (fun n=>ds_t50 x fun z1 s2 s3 l4 z5 s6 l7 z8 s9 l10 l11 l12 l13 l14 z15=>F88r0 n z1 s2 s3 l4 z5 s6 l7 z8 s9 l10 l11 l12 l13 l14 z15 (a:Int)) ((max a d:Nat):Int):=by
 obtain⟨a0,a1,a2,a3,a4,a5,a6,a7,a8,a9,a10,a11,a12,a13,a14,rfl,_⟩:=rs50 hx
 refine Ev.congr (A:=fun n=>F88r0 n a0 a1 a2 a3 a4 a5 a6 a7 a8 a9 a10 a11 a12 a13 a14 (a:Int)) (.succ ?_) (fun n=>rfl)
 simp only[F88r0]
 refine Ev.bO1 h ?_
 simp only[letF,mx]
 exact .ret
theorem d_body {l:List D}(hl:ListS tab 50 l) (hd:dR c l) (z17:Int):∀i:Nat,i≤l.length→∀a:Nat,5*(a:Int)≤c→∃a':Nat,5*(a':Int)≤c∧∀R,Ev (fun n=>L138_1 n z1 s2 s3 l4 z5 s6 l7 z8 s9 l10 l11 l12 l13 l14 z15 (IntKind.wrap .i64 (z17+1)) (a':Int)) R→Ev (fun n=>L138_3 n z1 s2 s3 l4 z5 s6 l7 z8 s9 l10 l11 l12 l13 l14 z15 z17 l (l.length:Int) (i:Int) (a:Int)) R:=by
 refine down l.length ?_ ?_
 ·intro a ha
  refine⟨a,ha,fun R h=>.succ ?_⟩
  simp only[L138_3,Int.lt_irrefl,if_false]
  exact .succ (by simp only[L138_4,Bool.false_eq_true,if_false,letF];exact h)
 ·intro i hi ih a ha
  obtain⟨x,hx,hm,hr⟩:=hl.get hi
  obtain⟨d,hd1,hd2⟩:=hd x hm
  obtain⟨a',h1,h2⟩:=ih (max a d) (by omega)
  refine⟨a',h1,fun R h=>.succ ?_⟩
  have h3:=d_one (a:=a) hr hd2
  obtain⟨b0,b1,b2,b3,b4,b5,b6,b7,b8,b9,b10,b11,b12,b13,b14,rfl,_⟩:=rs50 hr
  simp only[L138_3,if_pos (ilt hi)]
  refine .succ ?_
  simp only[L138_4,if_true,getF_nat hx,ds_t50]
  refine Ev.bO1 h3 ?_
  simp only[letF,wrap_succ hi hl.1]
  exact h2 R h
theorem d_abody {l:List D}{z45 z46:Int}(hl:ListS tab 50 l) (hd:dR c l):∀i:Nat,i≤l.length→∀a:Nat,5*(a:Int)≤c→∃a':Nat,5*(a':Int)≤c∧∀R,Ev (fun n=>L138_5 n z1 s2 s3 l4 z5 s6 l7 z8 s9 l10 l11 l12 l13 l14 z15 z45 (IntKind.wrap .i64 (z46+1)) (a':Int)) R→Ev (fun n=>L138_7 n z1 s2 s3 l4 z5 s6 l7 z8 s9 l10 l11 l12 l13 l14 z15 z45 z46 l (l.length:Int) (i:Int) (a:Int)) R:=by
 refine down l.length ?_ ?_
 ·intro a ha
  refine⟨a,ha,fun R h=>.succ ?_⟩
  simp only[L138_7,Int.lt_irrefl,if_false]
  exact .succ (by simp only[L138_8,Bool.false_eq_true,if_false,letF];exact h)
 ·intro i hi ih a ha
  obtain⟨x,hx,hm,hr⟩:=hl.get hi
  obtain⟨d,hd1,hd2⟩:=hd x hm
  obtain⟨a',h1,h2⟩:=ih (max a d) (by omega)
  refine⟨a',h1,fun R h=>.succ ?_⟩
  have h3:=d_one (a:=a) hr hd2
  obtain⟨b0,b1,b2,b3,b4,b5,b6,b7,b8,b9,b10,b11,b12,b13,b14,rfl,_⟩:=rs50 hr
  simp only[L138_7,if_pos (ilt hi)]
  refine .succ ?_
  simp only[L138_8,if_true,getF_nat hx,ds_t50]
  refine Ev.bO1 h3 ?_
  simp only[letF,wrap_succ hi hl.1]
  exact h2 R h
theorem d_arms (h14:ListS tab 95 l14) (hd:∀(s1 s2:ByteArray) (m:List D),.agg [.str s1,.str s2,.list true 15 m]∈l14→dR c m):∀i:Nat,i≤l14.length→∀a:Nat,5*(a:Int)≤c→∃a':Nat,5*(a':Int)≤c∧Ev (fun n=>L138_5 n z1 s2 s3 l4 z5 s6 l7 z8 s9 l10 l11 l12 l13 l14 z15 (l14.length:Int) (i:Int) (a:Int)) ((a':Int),z1,s2,s3,l4,z5,s6,l7,z8,s9,l10,l11,l12,l13,l14,z15):=by
 refine down l14.length ?_ ?_
 ·intro a ha
  refine⟨a,ha,.succ ?_⟩
  simp only[L138_5,Int.lt_irrefl,if_false]
  exact .succ (by simp only[L138_6,Bool.false_eq_true,if_false];exact .ret)
 ·intro i hi ih a ha
  obtain⟨x,hx,hm,hr⟩:=h14.get hi
  obtain⟨t1,t2,m,rfl,_,_,w2⟩:=rs95 hr
  obtain⟨a1,k1,k2⟩:=d_abody (z1:=z1) (s2:=s2) (s3:=s3) (l4:=l4) (z5:=z5) (s6:=s6) (l7:=l7) (z8:=z8) (s9:=s9) (l10:=l10) (l11:=l11) (l12:=l12) (l13:=l13) (l14:=l14) (z15:=z15) (z45:=(l14.length:Int)) (z46:=(i:Int)) w2 (hd _ _ _ hm) 0 (Nat.zero_le _) a ha
  obtain⟨a',h1,h2⟩:=ih a1 k1
  refine⟨a',h1,.succ ?_⟩
  simp only[L138_5,if_pos (ilt hi)]
  refine .succ ?_
  simp only[L138_6,if_true,getF_nat hx,ds_t95,lenF]
  refine k2 _ ?_
  rw[wrap_succ hi h14.1]
  exact h2
theorem d_stmt (hc0:0≤c) (hc:c≤100000) (ht:∃t:Nat,5*(t:Int)≤c∧Ev (fun n=>F86 n z5 s6 l7) (t:Int)) (h11:ListS tab 39 l11) (he:eR c l11) (h12:ListS tab 50 l12) (hd12:dR c l12) (h13:ListS tab 50 l13) (hd13:dR c l13)
  (h14:ListS tab 95 l14) (hd:∀(s1 s2:ByteArray) (m:List D),.agg [.str s1,.str s2,.list true 15 m]∈l14→dR c m):∃d:Nat,5*(d:Int)≤c+5∧Ev (fun n=>F88 n z1 s2 s3 l4 z5 s6 l7 z8 s9 l10 l11 l12 l13 l14 z15) (d:Int):=by
 have h138:∀a:Nat,5*(a:Int)≤c→∃a':Nat,5*(a':Int)≤c∧Ev (fun n=>F138 n (a:Int) z1 s2 s3 l4 z5 s6 l7 z8 s9 l10 l11 l12 l13 l14 z15) ((a':Int),z1,s2,s3,l4,z5,s6,l7,z8,s9,l10,l11,l12,l13,l14,z15):=by
  intro a ha
  obtain⟨a1,k1,k2⟩:=d_body (z1:=z1) (s2:=s2) (s3:=s3) (l4:=l4) (z5:=z5) (s6:=s6) (l7:=l7) (z8:=z8) (s9:=s9) (l10:=l10) (l11:=l11) (l12:=l12) (l13:=l13) (l14:=l14) (z15:=z15) h12 hd12 0 0 (Nat.zero_le _) a ha
  obtain⟨a2,k3,k4⟩:=d_body (z1:=z1) (s2:=s2) (s3:=s3) (l4:=l4) (z5:=z5) (s6:=s6) (l7:=l7) (z8:=z8) (s9:=s9) (l10:=l10) (l11:=l11) (l12:=l12) (l13:=l13) (l14:=l14) (z15:=z15) h13 hd13 1 0 (Nat.zero_le _) a1 k1
  obtain⟨a3,k5,k6⟩:=d_arms (z1:=z1) (s2:=s2) (s3:=s3) (l4:=l4) (z5:=z5) (s6:=s6) (l7:=l7) (z8:=z8) (s9:=s9) (l10:=l10) (l11:=l11) (l12:=l12) (l13:=l13) (l14:=l14) (z15:=z15) h14 hd 0 (Nat.zero_le _) a2 k3
  refine⟨a3,k5,.succ ?_⟩
  simp only[F138]
  refine .succ ?_
  simp only[L138_1,show (0:Int)<2 by decide,if_true]
  refine .succ ?_
  simp only[L138_2,if_true,getF_zero,ds_listtrue15,lenF]
  refine k2 _ ?_
  rw[show IntKind.wrap .i64 ((0:Int)+1)=1 from rfl]
  refine .succ ?_
  simp only[L138_1,show (1:Int)<2 by decide,if_true]
  refine .succ ?_
  have g1:∀{γ:Type} (k:D→Option γ),getF [.list true 15 l12,.list true 15 l13] (1:Int) k=k (.list true 15 l13):=fun k=>getF_nat (i:=1) rfl
  simp only[L138_2,if_true,g1,ds_listtrue15,lenF]
  refine k4 _ ?_
  rw[show IntKind.wrap .i64 ((1:Int)+1)=2 from rfl]
  refine .succ ?_
  simp only[L138_1,Int.lt_irrefl,if_false]
  refine .succ ?_
  simp only[L138_2,Bool.false_eq_true,if_false,lenF]
  exact k6
 have hex:∀i:Nat,i≤l11.length→∀a:Nat,5*(a:Int)≤c→∃d:Nat,5*(d:Int)≤c+5∧Ev (fun n=>L88_3 n z1 s2 s3 l4 z5 s6 l7 z8 s9 l10 l11 l12 l13 l14 z15 (l11.length:Int) (i:Int) (a:Int)) (d:Int):=by
  refine down l11.length ?_ ?_
  ·intro a ha
   obtain⟨a',k1,k2⟩:=h138 a ha
   refine⟨a'+1,by omega,.succ ?_⟩
   simp only[L88_3,Int.lt_irrefl,if_false]
   refine .succ ?_
   simp only[L88_4,Bool.false_eq_true,if_false]
   refine Ev.bO15 (A:=fun n=>F89 n z1 s2 s3 l4 z5 s6 l7 z8 s9 l10 l11 l12 l13 l14 z15) (.of fun n=>rfl) ?_
   refine Ev.bO16 k2 ?_
   simp only[letF]
   rw[iw (by omega) (by omega),show (a':Int)+1=((a'+1:Nat):Int)by omega]
   exact .ret
  ·intro i hi ih a ha
   obtain⟨x,hx,hm,hr⟩:=h11.get hi
   obtain⟨d,hd1,hd2⟩:=he x hm
   obtain⟨a',h1,h2⟩:=ih (max a d) (by omega)
   refine⟨a',h1,.succ ?_⟩
   obtain⟨b0,b1,b2,b3,b4,b5,b6,b7,rfl,_⟩:=rs39 hr
   simp only[L88_3,if_pos (ilt hi)]
   refine .succ ?_
   simp only[L88_4,if_true,getF_nat hx,ds_t39]
   refine Ev.bO1 hd2 ?_
   simp only[letF,mx,wrap_succ hi h11.1]
   exact h2
 by_cases e:z1=12
 ·obtain⟨t,t1,t2⟩:=ht
  obtain⟨d,d1,d2⟩:=hex 0 (Nat.zero_le _) t t1
  refine⟨d,d1,.succ ?_⟩
  simp only[F88,if_pos e]
  refine .succ ?_
  simp only[L88_1,if_true]
  refine Ev.bO1 t2 ?_
  exact .succ (by simp only[L88_2,lenF];exact d2)
 ·obtain⟨d,d1,d2⟩:=hex 0 (Nat.zero_le _) 0 (by omega)
  refine⟨d,d1,.succ ?_⟩
  simp only[F88,if_neg e]
  refine .succ ?_
  simp only[L88_1,Bool.false_eq_true,if_false]
  exact .succ (by simp only[L88_2,lenF];exact d2)
end
def stR (m:List D):Prop:=∀z:Int,-6≤z→z≤20000→∃r,Ev (fun n=>F29 n m z) r∧ -6≤r∧r≤20000∧(0≤r→r≤z∧dR (z - r) m)
theorem room_ex {l18:List D}(h:ListS tab 39 l18) (l1:List D) (z3:Int) (l19 l20 l21:List D):∀i:Nat,i≤l18.length→∀z:Int,-6≤z→z≤20000→∃r,-6≤r∧r≤20000∧(0≤r→r≤z∧∀j x,i≤j→l18[j]?=some x→∃d:Nat,5*(d:Int)≤z - r∧Ev (fun n=>ds_t39 x (F87 n)) (d:Int))∧
  ∀R,Ev (fun n=>if r<(0:Int)then L29_5 n l1 z3 l19 l20 l21 r true else L29_5 n l1 z3 l19 l20 l21 r false) R→Ev (fun n=>L29_3 n l1 z3 l18 l19 l20 l21 (i:Int) z) R:=by
 refine down l18.length ?_ ?_
 ·intro z h1 h2
  refine⟨z,h1,h2,fun _=>⟨by omega,fun j x hj hx=>absurd (List.getElem?_eq_some_iff.1 hx).1 (by omega)⟩,fun R hR=>.succ ?_⟩
  simp only[L29_3,lenF,Int.lt_irrefl,if_false]
  exact .succ (by simp only[L29_4,Bool.false_eq_true,if_false];exact hR)
 ·intro i hi ih z h1 h2
  by_cases c:(0:Int)≤z
  ·obtain⟨x,hx,hm,hr⟩:=h.get hi
   obtain⟨a0,a1,a2,a3,a4,a5,a6,a7,rfl,w0,w1,w2,w3,w4,w5,w6,w7⟩:=rs39 hr
   obtain⟨m,m1,m2⟩:=ex_dp a6 w6
   obtain⟨y,y1,y2,y3,y4⟩:=m2 a0 a1 a2 a3 a4 a5 a7 z w5 h1 h2
   obtain⟨r,r1,r2,r3,r4⟩:=ih y y2 y3
   refine⟨r,r1,r2,fun hr0=>⟨by have:=(r3 hr0).1;have:=y4 (by omega);omega,fun j x hj hx'=>?_⟩,fun R hR=>.succ ?_⟩
   ·have hy:=y4 (by have:=(r3 hr0).1;omega)
    by_cases e:j=i
    ·subst e
     rw[hx]at hx'
     cases hx'
     exact⟨m+1,by have:=(r3 hr0).1;omega,m1 (by omega) _ _ _ _ _ _ _⟩
    ·obtain⟨d,d1,d2⟩:=(r3 hr0).2 j x (by omega) hx'
     exact⟨d,by omega,d2⟩
   ·simp only[L29_3,lenF,if_pos (ilt hi),if_pos c]
    refine .succ ?_
    simp only[L29_4,if_true,getF_nat hx,ds_t39]
    refine Ev.bO1 y1 ?_
    simp only[letF,wrap_succ hi h.1]
    exact r4 R hR
  ·refine⟨z,h1,h2,fun h=>absurd h c,fun R hR=>.succ ?_⟩
   simp only[L29_3,lenF,if_pos (ilt hi),if_neg c]
   exact .succ (by simp only[L29_4,Bool.false_eq_true,if_false];exact hR)
theorem room_arm {l21:List D}(h:ListS tab 95 l21) (hin:∀(s1 s2:ByteArray) (m:List D),.agg [.str s1,.str s2,.list true 15 m]∈l21→stR m) (l1:List D) (z3:Int):∀i:Nat,i≤l21.length→∀z:Int,-6≤z→z≤20000→∃r,-6≤r∧r≤20000∧
  (0≤r→r≤z∧∀j s1 s2 m,i≤j→l21[j]?=some (.agg [.str s1,.str s2,.list true 15 m])→dR (z - r) m)∧∀R,Ev (fun n=>L29_1 n l1 (IntKind.wrap .i64 (z3+1)) r) R→Ev (fun n=>L29_6 n l1 z3 l21 (i:Int) z) R:=by
 refine down l21.length ?_ ?_
 ·intro z h1 h2
  refine⟨z,h1,h2,fun _=>⟨by omega,fun j s1 s2 m hj hx=>absurd (List.getElem?_eq_some_iff.1 hx).1 (by omega)⟩,fun R hR=>.succ ?_⟩
  simp only[L29_6,lenF,Int.lt_irrefl,if_false]
  exact .succ (by simp only[L29_7,Bool.false_eq_true,if_false,letF];exact hR)
 ·intro i hi ih z h1 h2
  by_cases c:(0:Int)≤z
  ·obtain⟨x,hx,hm,hr⟩:=h.get hi
   obtain⟨t1,t2,m,rfl,w0,w1,w2⟩:=rs95 hr
   obtain⟨a,a1,a2,a3,a4⟩:=room26 t1 z h1 h2
   obtain⟨b,b1,b2,b3,b4⟩:=room26 t2 a (by omega) a3
   obtain⟨y,y1,y2,y3,y4⟩:=hin t1 t2 m hm b (by omega) b3
   obtain⟨r,r1,r2,r3,r4⟩:=ih y y2 y3
   refine⟨r,r1,r2,fun hr0=>?_,fun R hR=>.succ ?_⟩
   ·obtain⟨r5,r6⟩:=r3 hr0
    obtain⟨y5,y6⟩:=y4 (by omega)
    have:=b4 (by omega)
    have:=a4 (by omega)
    refine⟨by omega,fun j s1 s2 m' hj hx'=>?_⟩
    by_cases e:j=i
    ·subst e
     rw[hx]at hx'
     cases hx'
     exact y6.mono (by omega)
    ·exact (r6 j s1 s2 m' (by omega) hx').mono (by omega)
   ·simp only[L29_6,lenF,if_pos (ilt hi),if_pos c]
    refine .succ ?_
    simp only[L29_7,if_true,getF_nat hx,ds_t95]
    refine Ev.bO1 a1 (Ev.bO1 b1 (Ev.bO1 y1 ?_))
    simp only[letF,wrap_succ hi h.1]
    exact r4 R hR
  ·refine⟨z,h1,h2,fun h=>absurd h c,fun R hR=>.succ ?_⟩
   simp only[L29_6,lenF,if_pos (ilt hi),if_neg c]
   exact .succ (by simp only[L29_7,Bool.false_eq_true,if_false,letF];exact hR)
theorem room_st (l:List D):ListS tab 50 l→stR l:=by
 refine list_ind (P:=fun l=>ListS tab 50 l→stR l) (fun l ih h=>?_) l
 have loop:∀i:Nat,i≤l.length→∀z:Int,-6≤z→z≤20000→∃r,Ev (fun n=>L29_1 n l (i:Int) z) r∧ -6≤r∧r≤20000∧(0≤r→r≤z∧∀j x,i≤j→l[j]?=some x→∃d:Nat,5*(d:Int)≤z - r∧Ev (fun n=>ds_t50 x (F88 n)) (d:Int)):=by
  refine down l.length ?_ ?_
  ·intro z h1 h2
   refine⟨z,.succ ?_,h1,h2,fun _=>⟨by omega,fun j x hj hx=>absurd (List.getElem?_eq_some_iff.1 hx).1 (by omega)⟩⟩
   simp only[L29_1,lenF,Int.lt_irrefl,if_false]
   exact .succ (by simp only[L29_2,Bool.false_eq_true,if_false];exact .ret)
  ·intro i hi ihl z h1 h2
   by_cases c:(0:Int)≤z
   ·obtain⟨x,hx,hm,hr⟩:=h.get hi
    obtain⟨a0,a1,a2,a3,a4,a5,a6,a7,a8,a9,a10,a11,a12,a13,a14,rfl,w0,w1,w2,w3,w4,w5,w6,w7,w8,w9,w10,w11,w12,w13,w14⟩:=rs50 hr
    obtain⟨p1,p2,p3,p4,p5⟩:=room26 a1 z h1 h2
    obtain⟨q1,q2,q3,q4,q5⟩:=room26 a2 p1 (by omega) p4
    obtain⟨t1,t2,t3,t4,t5⟩:=room66 w3 q1 (by omega) q4
    obtain⟨m,m1,m2⟩:=ty_dp a6 w6
    obtain⟨u1,u2,u3,u4,u5⟩:=m2 a4 a5 t1 t3 t4
    obtain⟨v1,v2,v3,v4,v5⟩:=room67 w9 a8 u1 u3 u4
    obtain⟨e1,e2,e3,e4,e5⟩:=room_ex w10 l (i:Int) a11 a12 a13 0 (Nat.zero_le _) v1 v3 v4
    have pre:∀R,Ev (fun n=>if e1<(0:Int)then L29_5 n l (i:Int) a11 a12 a13 e1 true else L29_5 n l (i:Int) a11 a12 a13 e1 false) R→Ev (fun n=>L29_1 n l (i:Int) z) R:=by
     intro R hR
     refine .succ ?_
     simp only[L29_1,lenF,if_pos (ilt hi),if_pos c]
     refine .succ ?_
     simp only[L29_2,if_true,getF_nat hx,ds_t50]
     exact Ev.bO1 p2 (Ev.bO1 q2 (Ev.bO1 t2 (Ev.bO1 u2 (Ev.bO1 v2 (e5 R hR)))))
    by_cases ce:e1<0
    ·refine⟨e1,pre _ ?_,e2,e3,fun h=>absurd h (by omega)⟩
     simp only[if_pos ce]
     exact .succ (by simp only[L29_5,if_true];exact .ret)
    ·have s11:=ih a11 (size_row (ag:=true) (sz:=15) hm (by simp)) w11
     have s12:=ih a12 (size_row (ag:=true) (sz:=15) hm (by simp)) w12
     have s13:∀(s1 s2:ByteArray) (m:List D),.agg [.str s1,.str s2,.list true 15 m]∈a13→stR m:=fun s1 s2 m hm2=>ih m (Nat.lt_trans (size_row (ag:=true) (sz:=15) hm2 (by simp)) (size_row (ag:=true) (sz:=3) hm (by simp))) (by obtain⟨b0,b1,b2,e,_,_,w⟩:=rs95 (w13.2 _ hm2);cases e;exact w)
     obtain⟨f1,f2,f3,f4,f5⟩:=s11 e1 e2 e3
     obtain⟨g1,g2,g3,g4,g5⟩:=s12 f1 f3 f4
     obtain⟨k1,k2,k3,k4,k5⟩:=room_arm w13 s13 l (i:Int) 0 (Nat.zero_le _) g1 g3 g4
     obtain⟨r,r1,r2,r3,r4⟩:=ihl k1 k2 k3
     refine⟨r,pre _ ?_,r2,r3,fun hr0=>?_⟩
     ·simp only[if_neg ce]
      refine .succ ?_
      simp only[L29_5,Bool.false_eq_true,if_false]
      refine Ev.bO1 f2 (Ev.bO1 g2 (k5 _ ?_))
      rw[wrap_succ hi h.1]
      exact r1
     ·obtain⟨x1,x2⟩:=r4 hr0
      obtain⟨x3,x4⟩:=k4 (by omega)
      obtain⟨x5,x6⟩:=g5 (by omega)
      obtain⟨x7,x8⟩:=f5 (by omega)
      obtain⟨x9,x10⟩:=e4 (by omega)
      have y1:=v5 (by omega)
      have y2:=u5 (by omega)
      have y3:=t5 (by omega)
      have y4:=q5 (by omega)
      have y5:=p5 (by omega)
      refine⟨by omega,fun j x hj hx'=>?_⟩
      by_cases e:j=i
      ·subst e
       rw[hx]at hx'
       cases hx'
       have eX:eR (z - r - 5) a10:=fun x hx=>by
        obtain⟨j,hj⟩:=List.getElem?_of_mem hx
        obtain⟨d,d1,d2⟩:=x10 j x (Nat.zero_le _) hj
        exact⟨d,by omega,d2⟩
       obtain⟨d,d1,d2⟩:=d_stmt (z1:=a0) (s2:=a1) (s3:=a2) (l4:=a3) (z5:=a4) (s6:=a5) (l7:=a6) (z8:=a7) (s9:=a8) (l10:=a9) (l11:=a10) (l12:=a11) (l13:=a12) (l14:=a13) (z15:=a14) (c:=z - r - 5) (by omega) (by omega) ⟨m+1,by omega,m1 (by omega) _ _⟩ w10 eX w11 (x8.mono (by omega)) w12 (x6.mono (by omega)) w13
        (fun s1 s2 m hm2=>by
         obtain⟨j,hj⟩:=List.getElem?_of_mem hm2
         exact (x4 j s1 s2 m (Nat.zero_le _) hj).mono (by omega))
       exact⟨d,by omega,d2⟩
      ·obtain⟨d,d1,d2⟩:=x2 j x (by omega) hx'
       exact⟨d,by omega,d2⟩
   ·refine⟨z,.succ ?_,h1,h2,fun h=>absurd h c⟩
    simp only[L29_1,lenF,if_pos (ilt hi),if_neg c]
    exact .succ (by simp only[L29_2,Bool.false_eq_true,if_false];exact .ret)
 intro z h1 h2
 obtain⟨r,r1,r2,r3,r4⟩:=loop 0 (Nat.zero_le _) z h1 h2
 refine⟨r,.succ (by simp only[F29];exact r1),r2,r3,fun hr=>⟨(r4 hr).1,fun x hx=>?_⟩⟩
 obtain⟨j,hj⟩:=List.getElem?_of_mem hx
 exact (r4 hr).2 j x (Nat.zero_le _) hj
end Go.Proofs.YtjmofeakajdbiaaGreatDoor
end
set_option maxRecDepth 100000
set_option maxHeartbeats 40000000
set_option linter.unusedVariables false
noncomputable section
namespace Go.Proofs.YtjmofeakajdbiaaGreatDoor
open Go Go.AM
def L4_1:Nat->LD->LD->Bool->Option (Bool)
 | 0,_,_,_=>none
 | n+1,l1,l2,b7=>
  (if b7=true then some true else appF 248 ([]:LD) l1 fun l8=>appF 248 l8 l2 fun l9=>bO1 (F10 n l9) fun b10=>bO1 (F10 n l1) fun b11=>(if b11=true then bO1 (F10 n l2) fun b12=>(if b12=true then lenF l9 fun z13=>(if z13<=(30:Int)then letB (b10==true) fun b14=>(if b14=true then bO1 (F12 n l9) fun z15=>bO1 (F12 n l1) fun z16=>bO1 (F12 n l2) fun z17=>letF (if z17>z16 then z17 else z16) fun z18=>(if z15=z18 then bO1 (F14 n l9) fun z19=>bO1 (F14 n l1) fun z20=>bO1 (F14 n l2) fun z21=>letF (IntKind.wrap .i64 (z20+z21)) fun z22=>(if z19=z22 then some true else some false)else some false)else some false)else letB (b10==false) fun b23=>(if b23=true then bO1 (F12 n l9) fun z24=>bO1 (F12 n l1) fun z25=>bO1 (F12 n l2) fun z26=>letF (if z26>z25 then z26 else z25) fun z27=>(if z24=z27 then bO1 (F14 n l9) fun z28=>bO1 (F14 n l1) fun z29=>bO1 (F14 n l2) fun z30=>letF (IntKind.wrap .i64 (z29+z30)) fun z31=>(if z28=z31 then some true else some false)else some false)else some false))else letB (b10==false) fun b32=>(if b32=true then bO1 (F12 n l9) fun z33=>bO1 (F12 n l1) fun z34=>bO1 (F12 n l2) fun z35=>letF (if z35>z34 then z35 else z34) fun z36=>(if z33=z36 then bO1 (F14 n l9) fun z37=>bO1 (F14 n l1) fun z38=>bO1 (F14 n l2) fun z39=>letF (IntKind.wrap .i64 (z38+z39)) fun z40=>(if z37=z40 then some true else some false)else some false)else some false))else letB (b10==false) fun b41=>(if b41=true then bO1 (F12 n l9) fun z42=>bO1 (F12 n l1) fun z43=>bO1 (F12 n l2) fun z44=>letF (if z44>z43 then z44 else z43) fun z45=>(if z42=z45 then bO1 (F14 n l9) fun z46=>bO1 (F14 n l1) fun z47=>bO1 (F14 n l2) fun z48=>letF (IntKind.wrap .i64 (z47+z48)) fun z49=>(if z46=z49 then some true else some false)else some false)else some false)))
def F4 (n:Nat) (l1:LD) (l2:LD):Option (Bool):=
 bO1 (F17 n) fun b3=>letB (!b3) fun b4=>(if b4=true then some false else bO1 (F8 n l1) fun b5=>(if b5=true then L4_1 n l1 l2 true else bO1 (F8 n l2) fun b6=>L4_1 n l1 l2 b6))
theorem T4 (n:Nat):∀⦃l1 l2 r1⦄,F4 n l1 l2=some r1->
    Trip Tryz.prog inv 4 [.d (.agg [.list true 16 l1]),.d (.agg [.list true 16 l2])] [] (.v (.d (.bool r1))) [] []:=by
 intro l1 l2 r1 h
 unfold F4 at h
 refine Trip.of tab_ok tab_one fol Tryz.func4 rfl (by kernel_rfl) rfl rfl rfl (fun M hM hI=>?_)
 try cbv
 refine seq_go ?_
 try cbv
 refine seq_go ?_
 try cbv
 refine seq_go ?_
 try cbv
 replace h:=bO1_inv h
 obtain⟨b3,hr,h⟩:=h
 refine call_go rfl rfl ?_
 try cbv
 refine call_pure hM hI (T17 _ hr) rfl ?_
 clear hr
 try cbv
 replace h:=letB_inv h
 obtain⟨b4,hz,h⟩:=h
 refine⟨b4,not_eq' hz,?_⟩
 clear hz
 try cbv
 cases b4
 rotate_left
 ·replace h:=itT h
  try cbv
  refine seq_go ?_
  try cbv
  obtain rfl:=Option.some.inj h
  refine fin_go ?_
  try cbv
  exact⟨[],by trivial⟩
 replace h:=itF h
 try cbv
 refine seq_go ?_
 try cbv
 refine seq_joinB 13 [2,3,4,13] [.loc 0,.loc 32] 352 (fun m b=>m<=n/\L4_1 m l1 l2 b=some r1) ?_ ?_
 ·try cbv
  replace h:=bO1_inv h
  obtain⟨b5,hr,h⟩:=h
  refine call_go rfl rfl ?_
  try cbv
  refine call_pure hM hI (T8 _ hr) rfl ?_
  clear hr
  try cbv
  cases b5
  ·replace h:=itF h
   try cbv
   replace h:=bO1_inv h
   obtain⟨b6,hr,h⟩:=h
   refine call_go rfl rfl ?_
   try cbv
   refine call_pure hM hI (T8 _ hr) rfl ?_
   clear hr
   try cbv
   exact join_next (n,b6) [2,3,4,13] [.loc 0,.loc 32] 352 ⟨by omega,h⟩ (by cbv)
  replace h:=itT h
  try cbv
  exact join_next (n,true) [2,3,4,13] [.loc 0,.loc 32] 352 ⟨by omega,h⟩ (by cbv)
 clear h
 rintro⟨m1,b7⟩ ⟨hm1,h⟩
 try cbv
 replace hm1:m1<=n:=hm1
 obtain _ | m1:=m1
 ·replace h:L4_1 0 l1 l2 b7=some r1:=h
  rw[L4_1]at h
  cases h
 replace h:L4_1 (m1+1) l1 l2 b7=some r1:=h
 rw[L4_1]at h
 try cbv
 cases b7
 rotate_left
 ·replace h:=itT h
  try cbv
  refine seq_go ?_
  try cbv
  obtain rfl:=Option.some.inj h
  refine fin_go ?_
  try cbv
  exact⟨[],by trivial⟩
 replace h:=itF h
 try cbv
 refine seq_go ?_
 try cbv
 refine seq_go ?_
 try cbv
 replace h:=appF_inv h
 obtain⟨l8,hb,hz,h⟩:=h
 refine⟨false,?_⟩
 try cbv
 refine⟨(M.lock_iff _).2 hb,l8,hz,true,.inl rfl,?_⟩
 clear hb hz
 try cbv
 refine seq_go ?_
 try cbv
 replace h:=appF_inv h
 obtain⟨l9,hb,hz,h⟩:=h
 refine⟨false,?_⟩
 try cbv
 first | refine⟨rfl,(M.lock_iff _).2 hb,l9,hz,?_⟩ | refine⟨(M.lock_iff _).2 hb,l9,hz,?_⟩
 clear hb hz
 try cbv
 refine seq_go ?_
 try cbv
 replace h:=bO1_inv h
 obtain⟨b10,hr,h⟩:=h
 first | refine .inr (.inl ⟨[],?_⟩) | refine .inl ⟨[],?_⟩
 try cbv
 refine call_pure hM hI (T10 _ hr) rfl ?_
 clear hr
 try cbv
 replace h:=bO1_inv h
 obtain⟨b11,hr,h⟩:=h
 first | refine .inr (.inl ⟨[],?_⟩) | refine .inl ⟨[],?_⟩
 try cbv
 refine call_pure hM hI (T10 _ hr) rfl ?_
 clear hr
 try cbv
 cases b11
 ·replace h:=itF h
  try cbv
  replace h:=letB_inv h
  obtain⟨b41,hz,h⟩:=h
  refine⟨b41,eqv_eq hz,?_⟩
  clear hz
  try cbv
  cases b41
  ·replace h:=itF h
   try cbv
   refine drawn ?_ ?_
   ·show _=true
    kernel_rfl
   try cbv
   obtain rfl:=Option.some.inj h
   refine fin_go ?_
   try cbv
   exact⟨[],by trivial⟩
  replace h:=itT h
  try cbv
  replace h:=bO1_inv h
  obtain⟨z42,hr,h⟩:=h
  first | refine .inr (.inl ⟨[],?_⟩) | refine .inl ⟨[],?_⟩
  try cbv
  refine call_pure hM hI (T12 _ hr) rfl ?_
  clear hr
  try cbv
  replace h:=bO1_inv h
  obtain⟨z43,hr,h⟩:=h
  first | refine .inr (.inl ⟨[],?_⟩) | refine .inl ⟨[],?_⟩
  try cbv
  refine call_pure hM hI (T12 _ hr) rfl ?_
  clear hr
  try cbv
  replace h:=bO1_inv h
  obtain⟨z44,hr,h⟩:=h
  first | refine .inr (.inl ⟨[],?_⟩) | refine .inl ⟨[],?_⟩
  try cbv
  refine call_pure hM hI (T12 _ hr) rfl ?_
  clear hr
  try cbv
  replace h:=letF_inv h
  obtain⟨z45,hz,h⟩:=h
  refine⟨z45,hz,?_⟩
  clear hz
  try cbv
  refine splitI (fun e=>?_) (fun e=>?_)
  rotate_left
  ·replace h:=ite_f e h
   clear e
   try cbv
   refine drawn ?_ ?_
   ·show _=true
    kernel_rfl
   try cbv
   obtain rfl:=Option.some.inj h
   refine fin_go ?_
   try cbv
   exact⟨[],by trivial⟩
  replace h:=ite_t e h
  clear e
  try cbv
  replace h:=bO1_inv h
  obtain⟨z46,hr,h⟩:=h
  first | refine .inr (.inl ⟨[],?_⟩) | refine .inl ⟨[],?_⟩
  try cbv
  refine call_pure hM hI (T14 _ hr) rfl ?_
  clear hr
  try cbv
  replace h:=bO1_inv h
  obtain⟨z47,hr,h⟩:=h
  first | refine .inr (.inl ⟨[],?_⟩) | refine .inl ⟨[],?_⟩
  try cbv
  refine call_pure hM hI (T14 _ hr) rfl ?_
  clear hr
  try cbv
  replace h:=bO1_inv h
  obtain⟨z48,hr,h⟩:=h
  first | refine .inr (.inl ⟨[],?_⟩) | refine .inl ⟨[],?_⟩
  try cbv
  refine call_pure hM hI (T14 _ hr) rfl ?_
  clear hr
  try cbv
  replace h:=letF_inv h
  obtain⟨z49,hz,h⟩:=h
  refine⟨z49,hz,?_⟩
  clear hz
  try cbv
  refine splitI (fun e=>?_) (fun e=>?_)
  ·replace h:=ite_t e h
   clear e
   try cbv
   refine drawn ?_ ?_
   ·show _=true
    kernel_rfl
   try cbv
   obtain rfl:=Option.some.inj h
   refine fin_go ?_
   try cbv
   exact⟨[],by trivial⟩
  replace h:=ite_f e h
  clear e
  try cbv
  refine drawn ?_ ?_
  ·show _=true
   kernel_rfl
  try cbv
  obtain rfl:=Option.some.inj h
  refine fin_go ?_
  try cbv
  exact⟨[],by trivial⟩
 replace h:=itT h
 try cbv
 replace h:=bO1_inv h
 obtain⟨b12,hr,h⟩:=h
 first | refine .inr (.inl ⟨[],?_⟩) | refine .inl ⟨[],?_⟩
 try cbv
 refine call_pure hM hI (T10 _ hr) rfl ?_
 clear hr
 try cbv
 cases b12
 ·replace h:=itF h
  try cbv
  replace h:=letB_inv h
  obtain⟨b32,hz,h⟩:=h
  refine⟨b32,eqv_eq hz,?_⟩
  clear hz
  try cbv
  cases b32
  ·replace h:=itF h
   try cbv
   refine drawn ?_ ?_
   ·show _=true
    kernel_rfl
   try cbv
   obtain rfl:=Option.some.inj h
   refine fin_go ?_
   try cbv
   exact⟨[],by trivial⟩
  replace h:=itT h
  try cbv
  replace h:=bO1_inv h
  obtain⟨z33,hr,h⟩:=h
  first | refine .inr (.inl ⟨[],?_⟩) | refine .inl ⟨[],?_⟩
  try cbv
  refine call_pure hM hI (T12 _ hr) rfl ?_
  clear hr
  try cbv
  replace h:=bO1_inv h
  obtain⟨z34,hr,h⟩:=h
  first | refine .inr (.inl ⟨[],?_⟩) | refine .inl ⟨[],?_⟩
  try cbv
  refine call_pure hM hI (T12 _ hr) rfl ?_
  clear hr
  try cbv
  replace h:=bO1_inv h
  obtain⟨z35,hr,h⟩:=h
  first | refine .inr (.inl ⟨[],?_⟩) | refine .inl ⟨[],?_⟩
  try cbv
  refine call_pure hM hI (T12 _ hr) rfl ?_
  clear hr
  try cbv
  replace h:=letF_inv h
  obtain⟨z36,hz,h⟩:=h
  refine⟨z36,hz,?_⟩
  clear hz
  try cbv
  refine splitI (fun e=>?_) (fun e=>?_)
  rotate_left
  ·replace h:=ite_f e h
   clear e
   try cbv
   refine drawn ?_ ?_
   ·show _=true
    kernel_rfl
   try cbv
   obtain rfl:=Option.some.inj h
   refine fin_go ?_
   try cbv
   exact⟨[],by trivial⟩
  replace h:=ite_t e h
  clear e
  try cbv
  replace h:=bO1_inv h
  obtain⟨z37,hr,h⟩:=h
  first | refine .inr (.inl ⟨[],?_⟩) | refine .inl ⟨[],?_⟩
  try cbv
  refine call_pure hM hI (T14 _ hr) rfl ?_
  clear hr
  try cbv
  replace h:=bO1_inv h
  obtain⟨z38,hr,h⟩:=h
  first | refine .inr (.inl ⟨[],?_⟩) | refine .inl ⟨[],?_⟩
  try cbv
  refine call_pure hM hI (T14 _ hr) rfl ?_
  clear hr
  try cbv
  replace h:=bO1_inv h
  obtain⟨z39,hr,h⟩:=h
  first | refine .inr (.inl ⟨[],?_⟩) | refine .inl ⟨[],?_⟩
  try cbv
  refine call_pure hM hI (T14 _ hr) rfl ?_
  clear hr
  try cbv
  replace h:=letF_inv h
  obtain⟨z40,hz,h⟩:=h
  refine⟨z40,hz,?_⟩
  clear hz
  try cbv
  refine splitI (fun e=>?_) (fun e=>?_)
  ·replace h:=ite_t e h
   clear e
   try cbv
   refine drawn ?_ ?_
   ·show _=true
    kernel_rfl
   try cbv
   obtain rfl:=Option.some.inj h
   refine fin_go ?_
   try cbv
   exact⟨[],by trivial⟩
  replace h:=ite_f e h
  clear e
  try cbv
  refine drawn ?_ ?_
  ·show _=true
   kernel_rfl
  try cbv
  obtain rfl:=Option.some.inj h
  refine fin_go ?_
  try cbv
  exact⟨[],by trivial⟩
 replace h:=itT h
 try cbv
 replace h:=lenF_inv M h
 obtain⟨z13,hz,h⟩:=h
 refine⟨z13,hz,?_⟩
 clear hz
 try cbv
 refine splitLe (fun e=>?_) (fun e=>?_)
 ·replace h:=ite_t e h
  clear e
  try cbv
  replace h:=letB_inv h
  obtain⟨b14,hz,h⟩:=h
  refine⟨b14,eqv_eq hz,?_⟩
  clear hz
  try cbv
  cases b14
  ·replace h:=itF h
   try cbv
   refine drawn ?_ ?_
   ·show _=true
    kernel_rfl
   try cbv
   obtain rfl:=Option.some.inj h
   refine fin_go ?_
   try cbv
   exact⟨[],by trivial⟩
  replace h:=itT h
  try cbv
  replace h:=bO1_inv h
  obtain⟨z15,hr,h⟩:=h
  first | refine .inr (.inl ⟨[],?_⟩) | refine .inl ⟨[],?_⟩
  try cbv
  refine call_pure hM hI (T12 _ hr) rfl ?_
  clear hr
  try cbv
  replace h:=bO1_inv h
  obtain⟨z16,hr,h⟩:=h
  first | refine .inr (.inl ⟨[],?_⟩) | refine .inl ⟨[],?_⟩
  try cbv
  refine call_pure hM hI (T12 _ hr) rfl ?_
  clear hr
  try cbv
  replace h:=bO1_inv h
  obtain⟨z17,hr,h⟩:=h
  first | refine .inr (.inl ⟨[],?_⟩) | refine .inl ⟨[],?_⟩
  try cbv
  refine call_pure hM hI (T12 _ hr) rfl ?_
  clear hr
  try cbv
  replace h:=letF_inv h
  obtain⟨z18,hz,h⟩:=h
  refine⟨z18,hz,?_⟩
  clear hz
  try cbv
  refine splitI (fun e=>?_) (fun e=>?_)
  rotate_left
  ·replace h:=ite_f e h
   clear e
   try cbv
   refine drawn ?_ ?_
   ·show _=true
    kernel_rfl
   try cbv
   obtain rfl:=Option.some.inj h
   refine fin_go ?_
   try cbv
   exact⟨[],by trivial⟩
  replace h:=ite_t e h
  clear e
  try cbv
  replace h:=bO1_inv h
  obtain⟨z19,hr,h⟩:=h
  first | refine .inr (.inl ⟨[],?_⟩) | refine .inl ⟨[],?_⟩
  try cbv
  refine call_pure hM hI (T14 _ hr) rfl ?_
  clear hr
  try cbv
  replace h:=bO1_inv h
  obtain⟨z20,hr,h⟩:=h
  first | refine .inr (.inl ⟨[],?_⟩) | refine .inl ⟨[],?_⟩
  try cbv
  refine call_pure hM hI (T14 _ hr) rfl ?_
  clear hr
  try cbv
  replace h:=bO1_inv h
  obtain⟨z21,hr,h⟩:=h
  first | refine .inr (.inl ⟨[],?_⟩) | refine .inl ⟨[],?_⟩
  try cbv
  refine call_pure hM hI (T14 _ hr) rfl ?_
  clear hr
  try cbv
  replace h:=letF_inv h
  obtain⟨z22,hz,h⟩:=h
  refine⟨z22,hz,?_⟩
  clear hz
  try cbv
  refine splitI (fun e=>?_) (fun e=>?_)
  ·replace h:=ite_t e h
   clear e
   try cbv
   refine drawn ?_ ?_
   ·show _=true
    kernel_rfl
   try cbv
   obtain rfl:=Option.some.inj h
   refine fin_go ?_
   try cbv
   exact⟨[],by trivial⟩
  replace h:=ite_f e h
  clear e
  try cbv
  refine drawn ?_ ?_
  ·show _=true
   kernel_rfl
  try cbv
  obtain rfl:=Option.some.inj h
  refine fin_go ?_
  try cbv
  exact⟨[],by trivial⟩
 replace h:=ite_f (Int.not_le.2 e) h
 clear e
 try cbv
 replace h:=letB_inv h
 obtain⟨b23,hz,h⟩:=h
 refine⟨b23,eqv_eq hz,?_⟩
 clear hz
 try cbv
 cases b23
 ·replace h:=itF h
  try cbv
  refine drawn ?_ ?_
  ·show _=true
   kernel_rfl
  try cbv
  obtain rfl:=Option.some.inj h
  refine fin_go ?_
  try cbv
  exact⟨[],by trivial⟩
 replace h:=itT h
 try cbv
 replace h:=bO1_inv h
 obtain⟨z24,hr,h⟩:=h
 first | refine .inr (.inl ⟨[],?_⟩) | refine .inl ⟨[],?_⟩
 try cbv
 refine call_pure hM hI (T12 _ hr) rfl ?_
 clear hr
 try cbv
 replace h:=bO1_inv h
 obtain⟨z25,hr,h⟩:=h
 first | refine .inr (.inl ⟨[],?_⟩) | refine .inl ⟨[],?_⟩
 try cbv
 refine call_pure hM hI (T12 _ hr) rfl ?_
 clear hr
 try cbv
 replace h:=bO1_inv h
 obtain⟨z26,hr,h⟩:=h
 first | refine .inr (.inl ⟨[],?_⟩) | refine .inl ⟨[],?_⟩
 try cbv
 refine call_pure hM hI (T12 _ hr) rfl ?_
 clear hr
 try cbv
 replace h:=letF_inv h
 obtain⟨z27,hz,h⟩:=h
 refine⟨z27,hz,?_⟩
 clear hz
 try cbv
 refine splitI (fun e=>?_) (fun e=>?_)
 rotate_left
 ·replace h:=ite_f e h
  clear e
  try cbv
  refine drawn ?_ ?_
  ·show _=true
   kernel_rfl
  try cbv
  obtain rfl:=Option.some.inj h
  refine fin_go ?_
  try cbv
  exact⟨[],by trivial⟩
 replace h:=ite_t e h
 clear e
 try cbv
 replace h:=bO1_inv h
 obtain⟨z28,hr,h⟩:=h
 first | refine .inr (.inl ⟨[],?_⟩) | refine .inl ⟨[],?_⟩
 try cbv
 refine call_pure hM hI (T14 _ hr) rfl ?_
 clear hr
 try cbv
 replace h:=bO1_inv h
 obtain⟨z29,hr,h⟩:=h
 first | refine .inr (.inl ⟨[],?_⟩) | refine .inl ⟨[],?_⟩
 try cbv
 refine call_pure hM hI (T14 _ hr) rfl ?_
 clear hr
 try cbv
 replace h:=bO1_inv h
 obtain⟨z30,hr,h⟩:=h
 first | refine .inr (.inl ⟨[],?_⟩) | refine .inl ⟨[],?_⟩
 try cbv
 refine call_pure hM hI (T14 _ hr) rfl ?_
 clear hr
 try cbv
 replace h:=letF_inv h
 obtain⟨z31,hz,h⟩:=h
 refine⟨z31,hz,?_⟩
 clear hz
 try cbv
 refine splitI (fun e=>?_) (fun e=>?_)
 ·replace h:=ite_t e h
  clear e
  try cbv
  refine drawn ?_ ?_
  ·show _=true
   kernel_rfl
  try cbv
  obtain rfl:=Option.some.inj h
  refine fin_go ?_
  try cbv
  exact⟨[],by trivial⟩
 replace h:=ite_f e h
 clear e
 try cbv
 refine drawn ?_ ?_
 ·show _=true
  kernel_rfl
 try cbv
 obtain rfl:=Option.some.inj h
 refine fin_go ?_
 try cbv
 exact⟨[],by trivial⟩
end Go.Proofs.YtjmofeakajdbiaaGreatDoor
end
set_option linter.unusedVariables false
noncomputable section
namespace Go.Proofs.YtjmofeakajdbiaaGreatDoor
open Go Go.AM
theorem room_fld {l:List D}(h:ListS tab 74 l):∀z:Int,-6≤z→z≤20000→∃r,Ev (fun n=>F27 n l z) r∧ -6≤r∧r≤20000∧(0≤r→r≤z∧∀(s:ByteArray) (k:Int) (t:ByteArray) (m:List D),.agg [.str s,.int .u8 k,.str t,.list true 3 m]∈l→∃d:Nat,5*(d:Int)≤z - r∧Ev (fun n=>F86 n k t m) (d:Int)):=by
 have loop:∀i:Nat,i≤l.length→∀z:Int,-6≤z→z≤20000→∃r,Ev (fun n=>L27_1 n l (i:Int) z) r∧ -6≤r∧r≤20000∧(0≤r→r≤z∧∀(j:Nat) (s:ByteArray) (k:Int) (t:ByteArray) (m:List D),i≤j→l[j]?=some (.agg [.str s,.int .u8 k,.str t,.list true 3 m])→∃d:Nat,5*(d:Int)≤z - r∧Ev (fun n=>F86 n k t m) (d:Int)):=by
  refine down l.length ?_ ?_
  ·intro z h1 h2
   refine⟨z,.succ ?_,h1,h2,fun _=>⟨by omega,fun j s k t m hj hx=>absurd (List.getElem?_eq_some_iff.1 hx).1 (by omega)⟩⟩
   simp only[L27_1,lenF,Int.lt_irrefl,if_false]
   exact .succ (by simp only[L27_2,Bool.false_eq_true,if_false];exact .ret)
  ·intro i hi ih z h1 h2
   by_cases c:(0:Int)≤z
   ·obtain⟨x,hx,hm,hr⟩:=h.get hi
    obtain⟨a0,a1,a2,a3,rfl,w0,w1,w2,w3⟩:=rs74 hr
    obtain⟨p1,p2,p3,p4,p5⟩:=room26 a0 z h1 h2
    obtain⟨m,m1,m2⟩:=ty_dp a3 w3
    obtain⟨u1,u2,u3,u4,u5⟩:=m2 a1 a2 p1 (by omega) p4
    obtain⟨r,r1,r2,r3,r4⟩:=ih u1 u3 u4
    refine⟨r,.succ ?_,r2,r3,fun hr0=>?_⟩
    ·simp only[L27_1,lenF,if_pos (ilt hi),if_pos c]
     refine .succ ?_
     simp only[L27_2,if_true,getF_nat hx,ds_t74]
     refine Ev.bO1 p2 (Ev.bO1 u2 ?_)
     simp only[letF,wrap_succ hi h.1]
     exact r1
    ·obtain⟨x1,x2⟩:=r4 hr0
     have:=u5 (by omega)
     have:=p5 (by omega)
     refine⟨by omega,fun j s k t m' hj hx'=>?_⟩
     by_cases e:j=i
     ·subst e
      rw[hx]at hx'
      cases hx'
      exact⟨m+1,by omega,m1 (by omega) _ _⟩
     ·obtain⟨d,d1,d2⟩:=x2 j s k t m' (by omega) hx'
      exact⟨d,by omega,d2⟩
   ·refine⟨z,.succ ?_,h1,h2,fun h=>absurd h c⟩
    simp only[L27_1,lenF,if_pos (ilt hi),if_neg c]
    exact .succ (by simp only[L27_2,Bool.false_eq_true,if_false];exact .ret)
 intro z h1 h2
 obtain⟨r,r1,r2,r3,r4⟩:=loop 0 (Nat.zero_le _) z h1 h2
 refine⟨r,(by unfold F27;exact r1),r2,r3,fun hr=>⟨(r4 hr).1,fun s k t m hm=>?_⟩⟩
 obtain⟨j,hj⟩:=List.getElem?_of_mem hm
 exact (r4 hr).2 j s k t m (Nat.zero_le _) hj
theorem d_item {c:Int}(hc:c≤100000) {z1:Int}{s2:ByteArray}{l3:List D}{z4:Int}{s5:ByteArray}{l6 l7:List D}{z8 z9:Int}{s10 s11 s12:ByteArray}{l13 l14:List D}{z15 z16:Int}
  (h3:ListS tab 74 l3) (h7:ListS tab 50 l7) (ht:∃t:Nat,5*(t:Int)≤c∧Ev (fun n=>F86 n z4 s5 l6) (t:Int)) (he:∃t:Nat,5*(t:Int)≤c∧Ev (fun n=>F87 n z8 z9 s10 s11 s12 l13 l14 z15) (t:Int))
  (hf:∀(s:ByteArray) (k:Int) (t:ByteArray) (m:List D),.agg [.str s,.int .u8 k,.str t,.list true 3 m]∈l3→∃d:Nat,5*(d:Int)≤c∧Ev (fun n=>F86 n k t m) (d:Int)) (hd:dR c l7):
  ∃d:Nat,5*(d:Int)≤c+5∧Ev (fun n=>F39 n z1 s2 l3 z4 s5 l6 l7 z8 z9 s10 s11 s12 l13 l14 z15 z16) (d:Int):=by
 have st:∀i:Nat,i≤l7.length→∀a:Nat,5*(a:Int)≤c→∃d:Nat,5*(d:Int)≤c+5∧Ev (fun n=>L39_3 n l7 (l7.length:Int) (a:Int) (i:Int)) (d:Int):=by
  refine down l7.length ?_ ?_
  ·intro a ha
   refine⟨a+1,by omega,.succ ?_⟩
   simp only[L39_3,Int.lt_irrefl,if_false]
   refine .succ ?_
   simp only[L39_4,Bool.false_eq_true,if_false,letF]
   rw[iw (by omega) (by omega),show (a:Int)+1=((a+1:Nat):Int)by omega]
   exact .ret
  ·intro i hi ih a ha
   obtain⟨x,hx,hm,hr⟩:=h7.get hi
   obtain⟨d,d1,d2⟩:=hd x hm
   obtain⟨a',k1,k2⟩:=ih (max a d) (by omega)
   refine⟨a',k1,.succ ?_⟩
   obtain⟨b0,b1,b2,b3,b4,b5,b6,b7,b8,b9,b10,b11,b12,b13,b14,rfl,_⟩:=rs50 hr
   simp only[L39_3,if_pos (ilt hi)]
   refine .succ ?_
   simp only[L39_4,if_true,getF_nat hx,ds_t50]
   refine Ev.bO1 d2 ?_
   simp only[letF,mx,wrap_succ hi h7.1]
   exact k2
 have fl:∀i:Nat,i≤l3.length→∀a:Nat,5*(a:Int)≤c→∃d:Nat,5*(d:Int)≤c+5∧Ev (fun n=>L39_1 n l3 l7 (l3.length:Int) (a:Int) (i:Int)) (d:Int):=by
  refine down l3.length ?_ ?_
  ·intro a ha
   obtain⟨d,k1,k2⟩:=st 0 (Nat.zero_le _) a ha
   refine⟨d,k1,.succ ?_⟩
   simp only[L39_1,Int.lt_irrefl,if_false]
   refine .succ ?_
   simp only[L39_2,Bool.false_eq_true,if_false,lenF]
   exact k2
  ·intro i hi ih a ha
   obtain⟨x,hx,hm,hr⟩:=h3.get hi
   obtain⟨a0,a1,a2,a3,rfl,_⟩:=rs74 hr
   obtain⟨d,d1,d2⟩:=hf _ _ _ _ hm
   obtain⟨a',k1,k2⟩:=ih (max a d) (by omega)
   refine⟨a',k1,.succ ?_⟩
   simp only[L39_1,if_pos (ilt hi)]
   refine .succ ?_
   simp only[L39_2,if_true,getF_nat hx,ds_t74]
   refine Ev.bO1 d2 ?_
   simp only[letF,mx,wrap_succ hi h3.1]
   exact k2
 obtain⟨t,t1,t2⟩:=ht
 obtain⟨e,e1,e2⟩:=he
 obtain⟨d,k1,k2⟩:=fl 0 (Nat.zero_le _) (max t e) (by omega)
 refine⟨d,k1,?_⟩
 unfold F39
 refine Ev.bO1 t2 (Ev.bO1 e2 ?_)
 simp only[letF,mx,lenF]
 exact k2
theorem great_ev {l:List D}(h:ListS tab 45 l):∃b,Ev (fun n=>F8 n l) b∧(b=false→l.length≤4000∧∀x∈l,∃d:Nat,d≤100000∧Ev (fun n=>ds_t45 x (F39 n)) (d:Int)):=by
 have loop:∀i:Nat,i≤l.length→∀z:Int,-6≤z→z≤20000→∃b,Ev (fun n=>L8_1 n l (i:Int) z) b∧(b=false→5*((l.length:Int) - (i:Int))≤z∧∀j x,i≤j→l[j]?=some x→∃d:Nat,d≤100000∧Ev (fun n=>ds_t45 x (F39 n)) (d:Int)):=by
  have t_end:∀(z2 z:Int),Ev (fun n=>L8_2 n l z2 z false) (decide (z<0)):=by
   intro z2 z
   refine .succ ?_
   simp only[L8_2,Bool.false_eq_true,if_false]
   by_cases c:z<0
   ·simp only[if_pos c,decide_eq_true c];exact .ret
   ·simp only[if_neg c,decide_eq_false c];exact .ret
  refine down l.length ?_ ?_
  ·intro z h1 h2
   refine⟨decide (z<0),.succ ?_,fun hb=>⟨by have:=of_decide_eq_false hb;omega,fun j x hj hx=>absurd (List.getElem?_eq_some_iff.1 hx).1 (by omega)⟩⟩
   simp only[L8_1,lenF,Int.lt_irrefl,if_false]
   exact t_end _ _
  ·intro i hi ih z h1 h2
   by_cases c:(0:Int)≤z
   ·obtain⟨x,hx,hm,hr⟩:=h.get hi
    obtain⟨a0,a1,a2,a3,a4,a5,a6,a7,a8,a9,a10,a11,a12,a13,a14,a15,rfl,w0,w1,w2,w3,w4,w5,w6,w7,w8,w9,w10,w11,w12,w13,w14,w15⟩:=rs45 hr
    obtain⟨p1,p2,p3,p4,p5⟩:=room26 a1 z h1 h2
    obtain⟨q1,q2,q3,q4,q5⟩:=room_fld w2 p1 (by omega) p4
    obtain⟨m,m1,m2⟩:=ty_dp a5 w5
    obtain⟨u1,u2,u3,u4,u5⟩:=m2 a3 a4 q1 q3 q4
    obtain⟨v1,v2,v3,v4,v5⟩:=room_st a6 w6 u1 u3 u4
    obtain⟨k,k1,k2⟩:=ex_dp a13 w13
    obtain⟨y1,y2,y3,y4,y5⟩:=k2 a7 a8 a9 a10 a11 a12 a14 v1 w12 v3 v4
    obtain⟨b,b1,b2⟩:=ih y1 y3 y4
    refine⟨b,.succ ?_,fun hb=>?_⟩
    ·simp only[L8_1,lenF,if_pos (ilt hi),if_pos c]
     refine .succ ?_
     simp only[L8_2,if_true,getF_nat hx,ds_t45]
     refine Ev.bO1 p2 (Ev.bO1 q2 (Ev.bO1 u2 (Ev.bO1 v2 (Ev.bO1 y2 ?_))))
     simp only[letF,wrap_succ hi h.1]
     exact b1
    ·obtain⟨x1,x2⟩:=b2 hb
     have g1:=y5 (by omega)
     obtain⟨g2,g3⟩:=v5 (by omega)
     have g4:=u5 (by omega)
     obtain⟨g5,g6⟩:=q5 (by omega)
     have g7:=p5 (by omega)
     refine⟨by omega,fun j x hj hx'=>?_⟩
     by_cases e:j=i
     ·subst e
      rw[hx]at hx'
      cases hx'
      obtain⟨d,d1,d2⟩:=d_item (c:=20000) (by omega) (z1:=a0) (s2:=a1) (z16:=a15) w2 w6 ⟨m+1,by omega,m1 (by omega) a3 a4⟩ ⟨k+1,by omega,k1 (by omega) a7 a8 a9 a10 a11 a12 a14⟩ (fun s k t m hm=>by
       obtain⟨d,d1,d2⟩:=g6 s k t m hm
       exact⟨d,by omega,d2⟩) (g3.mono (by omega))
      exact⟨d,by omega,d2⟩
     ·exact x2 j x (by omega) hx'
   ·refine⟨decide (z<0),.succ ?_,fun hb=>absurd (of_decide_eq_false hb) (by omega)⟩
    simp only[L8_1,lenF,if_pos (ilt hi),if_neg c]
    exact t_end _ _
 obtain⟨b,b1,b2⟩:=loop 0 (Nat.zero_le _) 20000 (by omega) (by omega)
 refine⟨b,(by unfold F8;exact b1),fun hb=>⟨by have:=(b2 hb).1;omega,fun x hx=>?_⟩⟩
 obtain⟨j,hj⟩:=List.getElem?_of_mem hx
 exact (b2 hb).2 j x (Nat.zero_le _) hj
open Classical in
def val {α:Type} [Inhabited α] (A:Nat→Option α):α:=if h:Total A then h.choose else default
theorem val_ev {α:Type} [Inhabited α] {A:Nat→Option α}(h:Total A):Ev A (val A):=by
 unfold val
 rw[dif_pos h]
 exact h.choose_spec
theorem val_eq {α:Type} [Inhabited α] {A:Nat→Option α}{r:α}(h:Ev A r):val A=r:=Ev.uniq (val_ev ⟨r,h⟩) h
abbrev W (z:Int):Int:=IntKind.wrap .i64 z
theorem W_add (a b:Int):W (W a+b)=W (a+b):=by simp only[W,IntKind.wrap_i64];omega
theorem W_add' (a b:Int):W (a+W b)=W (a+b):=by simp only[W,IntKind.wrap_i64];omega
theorem W_W (a:Int):W (W a)=W a:=by simp only[W,IntKind.wrap_i64];omega
def iw_ (x:D):Bool:=val fun n=>ds_t45 x (F36 n)
theorem iw_ev {x:D}(h:RowS tab 45 x):Ev (fun n=>ds_t45 x (F36 n)) (iw_ x):=by
 obtain⟨a0,a1,a2,a3,a4,a5,a6,a7,a8,a9,a10,a11,a12,a13,a14,a15,rfl,w0,w1,w2,w3,w4,w5,w6,w7,w8,w9,w10,w11,w12,w13,w14,w15⟩:=rs45 h
 exact val_ev (t_F36 (z1:=a0) (s2:=a1) (l3:=a2) (z4:=a3) (s5:=a4) (l6:=a5) (l7:=a6) (z8:=a7) (z9:=a8) (s10:=a9) (s11:=a10) (s12:=a11) (l13:=a12) (l14:=a13) (z15:=a14) (z16:=a15) w1 w2 w4 w5 w6 w9 w10 w11 w12 w13)
theorem whole_ev {l:List D}(h:ListS tab 45 l):Ev (fun n=>F10 n l) (l.all iw_&&decide (l.length≤30)):=by
 have t_end:∀i:Nat,Ev (fun n=>L35_2 n l (30:Int) (i:Int) false) (decide (l.length≤30)):=by
  intro i
  refine .succ ?_
  simp only[L35_2,Bool.false_eq_true,if_false,lenF]
  by_cases c:l.length≤30
  ·simp only[if_pos (show (l.length:Int)≤30 by omega),decide_eq_true c];exact .ret
  ·simp only[if_neg (show ¬(l.length:Int)≤30 by omega),decide_eq_false c];exact .ret
 have loop:∀i:Nat,i≤l.length→Ev (fun n=>L35_1 n l (30:Int) (i:Int)) ((l.drop i).all iw_&&decide (l.length≤30)):=by
  refine down l.length ?_ ?_
  ·refine .succ ?_
   simp only[L35_1,lenF,Int.lt_irrefl,if_false,List.drop_length,List.all_nil,Bool.true_and]
   exact t_end _
  ·intro i hi ih
   obtain⟨x,hx,hm,hr⟩:=h.get hi
   have hw:=iw_ev hr
   rw[all_drop hx]
   by_cases c:(i:Int)<30
   ·refine .succ ?_
    simp only[L35_1,lenF,if_pos (ilt hi),if_pos c]
    obtain⟨a0,a1,a2,a3,a4,a5,a6,a7,a8,a9,a10,a11,a12,a13,a14,a15,rfl,_⟩:=rs45 hr
    refine .succ ?_
    simp only[L35_2,if_true,getF_nat hx,ds_t45]
    refine Ev.bO1 hw ?_
    cases iw_ _ with
    | true=>
     simp only[letB,Bool.not_true,Bool.false_eq_true,if_false,letF,wrap_succ hi h.1,Bool.true_and]
     exact ih
    | false=>
     simp only[letB,Bool.not_false,if_true,Bool.false_and]
     exact .ret
   ·rw[decide_eq_false (show ¬l.length≤30 by omega),Bool.and_false]
    refine .succ ?_
    simp only[L35_1,lenF,if_pos (ilt hi),if_neg c]
    have:=t_end i
    rwa [decide_eq_false (show ¬l.length≤30 by omega)]at this
 unfold F10
 exact Ev.bO1 (A:=fun n=>F35 n l 30) (by unfold F35;exact loop 0 (Nat.zero_le _)) .ret
def idn (x:D):Nat:=(val fun n=>ds_t45 x (F39 n)).toNat
def mxl:List Nat→Nat
 | []=>0
 | a::r=>max a (mxl r)
theorem mxl_app:∀(a b:List Nat),mxl (a++b)=max (mxl a) (mxl b)
 | [],b=>by simp[mxl]
 | x::a,b=>by simp only[List.cons_append,mxl,mxl_app a b];omega
def fine (x:D):Prop:=∃d:Nat,d≤100000∧Ev (fun n=>ds_t45 x (F39 n)) (d:Int)
theorem idn_ev {x:D}(h:fine x):idn x≤100000∧Ev (fun n=>ds_t45 x (F39 n)) (idn x:Int):=by
 obtain⟨d,d1,d2⟩:=h
 have e:idn x=d:=by unfold idn;rw[val_eq d2];rfl
 rw[e]
 exact⟨d1,d2⟩
theorem depth_ev {l:List D}(h:ListS tab 45 l) (hf:∀x∈l,fine x):Ev (fun n=>F12 n l) ((mxl (l.map idn)+1:Nat):Int)∧mxl (l.map idn)≤100000:=by
 have hb:∀m:List D,(∀x∈m,fine x)→mxl (m.map idn)≤100000:=by
  intro m
  induction m with
  | nil=>intro _;exact Nat.zero_le _
  | cons x m ih=>
   intro hm
   have:=(idn_ev (hm x (by simp))).1
   have:=ih fun y hy=>hm y (by simp[hy])
   simp only[List.map_cons,mxl]
   omega
 have loop:∀i:Nat,i≤l.length→∀a:Nat,a≤100000→Ev (fun n=>L12_1 n l (l.length:Int) (a:Int) (i:Int)) ((max a (mxl ((l.drop i).map idn))+1:Nat):Int):=by
  refine down l.length ?_ ?_
  ·intro a ha
   refine .succ ?_
   simp only[L12_1,Int.lt_irrefl,if_false,List.drop_length,List.map_nil,mxl]
   refine .succ ?_
   simp only[L12_2,Bool.false_eq_true,if_false,letF]
   rw[iw (by omega) (by omega),show max a 0=a by omega,show (a:Int)+1=((a+1:Nat):Int)by omega]
   exact .ret
  ·intro i hi ih a ha
   obtain⟨x,hx,hm,hr⟩:=h.get hi
   obtain⟨k1,k2⟩:=idn_ev (hf x hm)
   have hd:l.drop i=x::l.drop (i+1):=by rw[List.drop_eq_getElem_cons hi];congr 1;exact (List.getElem?_eq_some_iff.1 hx).2
   have hih:=ih (max a (idn x)) (by omega)
   rw[hd]
   simp only[List.map_cons,mxl]
   rw[show max a (max (idn x) (mxl ((l.drop (i+1)).map idn)))=max (max a (idn x)) (mxl ((l.drop (i+1)).map idn))by omega]
   refine .succ ?_
   obtain⟨a0,a1,a2,a3,a4,a5,a6,a7,a8,a9,a10,a11,a12,a13,a14,a15,rfl,_⟩:=rs45 hr
   simp only[L12_1,if_pos (ilt hi)]
   refine .succ ?_
   simp only[L12_2,if_true,getF_nat hx,ds_t45]
   refine Ev.bO1 k2 ?_
   simp only[letF,mx,wrap_succ hi h.1]
   exact hih
 refine⟨?_,hb l hf⟩
 have:=loop 0 (Nat.zero_le _) 0 (by omega)
 rw[List.drop_zero,show max 0 (mxl (l.map idn))=mxl (l.map idn)by omega]at this
 unfold F12
 exact this
theorem t_F44 (l:List D):ListS tab 39 l→∀(z1 z2:Int) (s3 s4 s5:ByteArray) (l6:List D) (z8:Int),Total fun n=>F44 n z1 z2 s3 s4 s5 l6 l z8:=by
 refine list_ind (P:=fun l=>ListS tab 39 l→∀(z1 z2:Int) (s3 s4 s5:ByteArray) (l6:List D) (z8:Int),Total fun n=>F44 n z1 z2 s3 s4 s5 l6 l z8) (fun l ih h=>?_) l
 have loop:∀i:Nat,i≤l.length→∀z:Int,Total fun n=>L44_1 n l (l.length:Int) z (i:Int):=by
  refine down l.length ?_ ?_
  ·intro z
   exact tu (by simp only[L44_1,Int.lt_irrefl,if_false];exact tu (by simp only[L44_2,Bool.false_eq_true,if_false];exact tr))
  ·intro i hi ihl z
   obtain⟨x,hx,hm,hr⟩:=h.get hi
   obtain⟨a0,a1,a2,a3,a4,a5,a6,a7,rfl,w0,w1,w2,w3,w4,w5,w6,w7⟩:=rs39 hr
   refine tu ?_
   simp only[L44_1,if_pos (ilt hi)]
   refine tu ?_
   simp only[L44_2,if_true,getF_nat hx,ds_t39,letF,wrap_succ hi h.1]
   exact t1 (ih a6 (size_row (ag:=true) (sz:=8) hm (by simp)) w6 _ _ _ _ _ _ _) fun _=>ihl _
 intros
 exact tu (by simp only[F44,lenF];exact loop 0 (Nat.zero_le _) _)
theorem t_bO16 {X0 X1 X2 X3 X4 X5 X6 X7 X8 X9 X10 X11 X12 X13 X14 X15 γ:Type}{A:Nat→Option (X0×X1×X2×X3×X4×X5×X6×X7×X8×X9×X10×X11×X12×X13×X14×X15)}{k:Nat→X0→X1→X2→X3→X4→X5→X6→X7→X8→X9→X10→X11→X12→X13→X14→X15→Option γ}(ha:Total A) (hk:∀a0 a1 a2 a3 a4 a5 a6 a7 a8 a9 a10 a11 a12 a13 a14 a15,Total fun n=>k n a0 a1 a2 a3 a4 a5 a6 a7 a8 a9 a10 a11 a12 a13 a14 a15):Total fun n=>bO16 (A n) (k n):=by
 obtain⟨⟨a0,a1,a2,a3,a4,a5,a6,a7,a8,a9,a10,a11,a12,a13,a14,a15⟩,ha⟩:=ha
 obtain⟨r,h⟩:=hk a0 a1 a2 a3 a4 a5 a6 a7 a8 a9 a10 a11 a12 a13 a14 a15
 exact⟨r,.bO16 ha h⟩
def sT (m:List D):Prop:=∀x∈m,Total fun n=>ds_t50 x (F45 n)
section
variable {z1:Int}{s2 s3:ByteArray}{l4:List D}{z5:Int}{s6:ByteArray}{l7:List D}{z8:Int}{s9:ByteArray}{l10 l11 l12 l13 l14:List D}{z15:Int}
theorem s_one {x:D}(hx:RowS tab 50 x) (h:Total fun n=>ds_t50 x (F45 n)) (a:Int):Total fun n=>ds_t50 x fun z1 s2 s3 l4 z5 s6 l7 z8 s9 l10 l11 l12 l13 l14 z15=>F45r0 n z1 s2 s3 l4 z5 s6 l7 z8 s9 l10 l11 l12 l13 l14 z15 a:=by
 obtain⟨a0,a1,a2,a3,a4,a5,a6,a7,a8,a9,a10,a11,a12,a13,a14,rfl,_⟩:=rs50 hx
 show Total fun n=>F45r0 n a0 a1 a2 a3 a4 a5 a6 a7 a8 a9 a10 a11 a12 a13 a14 a
 refine tu ?_
 simp only[F45r0]
 exact t1 h fun _=>tr
theorem s_body {l:List D}(hl:ListS tab 50 l) (hd:sT l) (z17:Int) (hk:∀a:Int,Total fun n=>L138x1_1 n z1 s2 s3 l4 z5 s6 l7 z8 s9 l10 l11 l12 l13 l14 z15 (IntKind.wrap .i64 (z17+1)) a):∀i:Nat,i≤l.length→∀a:Int,Total fun n=>L138x1_3 n z1 s2 s3 l4 z5 s6 l7 z8 s9 l10 l11 l12 l13 l14 z15 z17 l (l.length:Int) (i:Int) a:=by
 refine down l.length ?_ ?_
 ·intro a
  exact tu (by simp only[L138x1_3,Int.lt_irrefl,if_false];exact tu (by simp only[L138x1_4,Bool.false_eq_true,if_false,letF];exact hk a))
 ·intro i hi ih a
  obtain⟨x,hx,hm,hr⟩:=hl.get hi
  have h3:=s_one hr (hd x hm) a
  obtain⟨b0,b1,b2,b3,b4,b5,b6,b7,b8,b9,b10,b11,b12,b13,b14,rfl,_⟩:=rs50 hr
  refine tu ?_
  simp only[L138x1_3,if_pos (ilt hi)]
  refine tu ?_
  simp only[L138x1_4,if_true,getF_nat hx,ds_t50,letF,wrap_succ hi hl.1]
  exact t1 h3 fun _=>ih _
theorem s_abody {l:List D}{z45 z46:Int}(hl:ListS tab 50 l) (hd:sT l) (hk:∀a:Int,Total fun n=>L138x1_5 n z1 s2 s3 l4 z5 s6 l7 z8 s9 l10 l11 l12 l13 l14 z15 z45 (IntKind.wrap .i64 (z46+1)) a):∀i:Nat,i≤l.length→∀a:Int,Total fun n=>L138x1_7 n z1 s2 s3 l4 z5 s6 l7 z8 s9 l10 l11 l12 l13 l14 z15 z45 z46 l (l.length:Int) (i:Int) a:=by
 refine down l.length ?_ ?_
 ·intro a
  exact tu (by simp only[L138x1_7,Int.lt_irrefl,if_false];exact tu (by simp only[L138x1_8,Bool.false_eq_true,if_false,letF];exact hk a))
 ·intro i hi ih a
  obtain⟨x,hx,hm,hr⟩:=hl.get hi
  have h3:=s_one hr (hd x hm) a
  obtain⟨b0,b1,b2,b3,b4,b5,b6,b7,b8,b9,b10,b11,b12,b13,b14,rfl,_⟩:=rs50 hr
  refine tu ?_
  simp only[L138x1_7,if_pos (ilt hi)]
  refine tu ?_
  simp only[L138x1_8,if_true,getF_nat hx,ds_t50,letF,wrap_succ hi hl.1]
  exact t1 h3 fun _=>ih _
theorem s_stmt (h11:ListS tab 39 l11) (h12:ListS tab 50 l12) (hd12:sT l12) (h13:ListS tab 50 l13) (hd13:sT l13)
  (h14:ListS tab 95 l14) (hd:∀(s1 s2:ByteArray) (m:List D),.agg [.str s1,.str s2,.list true 15 m]∈l14→sT m):Total fun n=>F45 n z1 s2 s3 l4 z5 s6 l7 z8 s9 l10 l11 l12 l13 l14 z15:=by
 have arms:∀i:Nat,i≤l14.length→∀a:Int,Total fun n=>L138x1_5 n z1 s2 s3 l4 z5 s6 l7 z8 s9 l10 l11 l12 l13 l14 z15 (l14.length:Int) (i:Int) a:=by
  refine down l14.length ?_ ?_
  ·intro a
   exact tu (by simp only[L138x1_5,Int.lt_irrefl,if_false];exact tu (by simp only[L138x1_6,Bool.false_eq_true,if_false];exact tr))
  ·intro i hi ih a
   obtain⟨x,hx,hm,hr⟩:=h14.get hi
   obtain⟨t1,t2,m,rfl,_,_,w2⟩:=rs95 hr
   refine tu ?_
   simp only[L138x1_5,if_pos (ilt hi)]
   refine tu ?_
   simp only[L138x1_6,if_true,getF_nat hx,ds_t95,lenF]
   exact s_abody (z1:=z1) (s2:=s2) (s3:=s3) (l4:=l4) (z5:=z5) (s6:=s6) (l7:=l7) (z8:=z8) (s9:=s9) (l10:=l10) (l11:=l11) (l12:=l12) (l13:=l13) (l14:=l14) (z15:=z15) w2 (hd _ _ _ hm) (by rw[wrap_succ hi h14.1];exact ih) 0 (Nat.zero_le _) a
 have g1:∀{γ:Type} (k:D→Option γ),getF [.list true 15 l12,.list true 15 l13] (1:Int) k=k (.list true 15 l13):=fun k=>getF_nat (i:=1) rfl
 have k2:∀a:Int,Total fun n=>L138x1_1 n z1 s2 s3 l4 z5 s6 l7 z8 s9 l10 l11 l12 l13 l14 z15 (2:Int) a:=by
  intro a
  refine tu ?_
  simp only[L138x1_1,Int.lt_irrefl,if_false]
  exact tu (by simp only[L138x1_2,Bool.false_eq_true,if_false,lenF];exact arms 0 (Nat.zero_le _) a)
 have k1:∀a:Int,Total fun n=>L138x1_1 n z1 s2 s3 l4 z5 s6 l7 z8 s9 l10 l11 l12 l13 l14 z15 (1:Int) a:=by
  intro a
  refine tu ?_
  simp only[L138x1_1,show (1:Int)<2 by decide,if_true]
  refine tu ?_
  simp only[L138x1_2,if_true,g1,ds_listtrue15,lenF]
  exact s_body (z1:=z1) (s2:=s2) (s3:=s3) (l4:=l4) (z5:=z5) (s6:=s6) (l7:=l7) (z8:=z8) (s9:=s9) (l10:=l10) (l11:=l11) (l12:=l12) (l13:=l13) (l14:=l14) (z15:=z15) h13 hd13 1 (by rw[show IntKind.wrap .i64 ((1:Int)+1)=2 from rfl];exact k2) 0 (Nat.zero_le _) a
 have k0:∀a:Int,Total fun n=>F138x1 n a z1 s2 s3 l4 z5 s6 l7 z8 s9 l10 l11 l12 l13 l14 z15:=by
  intro a
  refine tu ?_
  simp only[F138x1]
  refine tu ?_
  simp only[L138x1_1,show (0:Int)<2 by decide,if_true]
  refine tu ?_
  simp only[L138x1_2,if_true,getF_zero,ds_listtrue15,lenF]
  exact s_body (z1:=z1) (s2:=s2) (s3:=s3) (l4:=l4) (z5:=z5) (s6:=s6) (l7:=l7) (z8:=z8) (s9:=s9) (l10:=l10) (l11:=l11) (l12:=l12) (l13:=l13) (l14:=l14) (z15:=z15) h12 hd12 0 (by rw[show IntKind.wrap .i64 ((0:Int)+1)=1 from rfl];exact k1) 0 (Nat.zero_le _) a
 have hex:∀i:Nat,i≤l11.length→∀a:Int,Total fun n=>L45_1 n z1 s2 s3 l4 z5 s6 l7 z8 s9 l10 l11 l12 l13 l14 z15 (l11.length:Int) (i:Int) a:=by
  refine down l11.length ?_ ?_
  ·intro a
   refine tu ?_
   simp only[L45_1,Int.lt_irrefl,if_false]
   refine tu ?_
   simp only[L45_2,Bool.false_eq_true,if_false]
   obtain⟨r,hr⟩:=t_bO16 (k:=fun n z47 z48 s49 s50 l51 z52 s53 l54 z55 s56 l57 l58 l59 l60 l61 z62=>some z47) (k0 a) (fun _ _ _ _ _ _ _ _ _ _ _ _ _ _ _ _=>tr)
   exact⟨r,Ev.bO15 (A:=fun n=>F89 n z1 s2 s3 l4 z5 s6 l7 z8 s9 l10 l11 l12 l13 l14 z15) (.of fun n=>rfl) hr⟩
  ·intro i hi ih a
   obtain⟨x,hx,hm,hr⟩:=h11.get hi
   obtain⟨a0,a1,a2,a3,a4,a5,a6,a7,rfl,w0,w1,w2,w3,w4,w5,w6,w7⟩:=rs39 hr
   refine tu ?_
   simp only[L45_1,if_pos (ilt hi)]
   refine tu ?_
   simp only[L45_2,if_true,getF_nat hx,ds_t39,letF,wrap_succ hi h11.1]
   exact t1 (t_F44 a6 w6 _ _ _ _ _ _ _) fun _=>ih _
 exact tu (by simp only[F45,lenF];exact hex 0 (Nat.zero_le _) _)
end
theorem s_all (l:List D):ListS tab 50 l→sT l:=by
 refine list_ind (P:=fun l=>ListS tab 50 l→sT l) (fun l ih h=>?_) l
 intro x hm
 obtain⟨a0,a1,a2,a3,a4,a5,a6,a7,a8,a9,a10,a11,a12,a13,a14,rfl,w0,w1,w2,w3,w4,w5,w6,w7,w8,w9,w10,w11,w12,w13,w14⟩:=rs50 (h.2 x hm)
 exact s_stmt (z1:=a0) (s2:=a1) (s3:=a2) (l4:=a3) (z5:=a4) (s6:=a5) (l7:=a6) (z8:=a7) (s9:=a8) (l10:=a9) (l11:=a10) (l12:=a11) (l13:=a12) (l14:=a13) (z15:=a14) w10 w11 (ih a11 (size_row (ag:=true) (sz:=15) hm (by simp)) w11) w12 (ih a12 (size_row (ag:=true) (sz:=15) hm (by simp)) w12) w13
  (fun s1 s2 m hm2=>ih m (Nat.lt_trans (size_row (ag:=true) (sz:=15) hm2 (by simp)) (size_row (ag:=true) (sz:=3) hm (by simp))) (by obtain⟨b0,b1,b2,e,_,_,w⟩:=rs95 (w13.2 _ hm2);cases e;exact w))
def sv (x:D):Int:=val fun n=>ds_t50 x (F45 n)
def sm (l:List D):Int:=(l.map sv).sum
def isz (x:D):Int:=match x with
 | .agg [.int .u8 a0,.str a1,.list true 4 a2,.int .u8 a3,.str a4,.list true 3 a5,.list true 15 a6,.int .u8 a7,.int .i64 a8,.str a9,.str a10,.str a11,.list false 1 a12,.list true 8 a13,.int .i64 a14,.int .i64 a15]=>1+(if a0=3 then val (fun n=>F44 n a7 a8 a9 a10 a11 a12 a13 a14)else 0)+sm a6
 | _=>0
theorem size_st {l13:List D}(h:ListS tab 50 l13) (l1:List D) (z2 z4:Int) {R:Int}:∀i:Nat,i≤l13.length→∀z:Int,W z=z→Ev (fun n=>L14_1 n l1 z2 (W (z+sm (l13.drop i))) (IntKind.wrap .i64 (z4+1))) R→Ev (fun n=>L14_5 n l1 z2 z4 l13 (l13.length:Int) z (i:Int)) R:=by
 refine down l13.length ?_ ?_
 ·intro z hz hR
  refine .succ ?_
  simp only[L14_5,Int.lt_irrefl,if_false]
  refine .succ ?_
  simp only[L14_6,Bool.false_eq_true,if_false,letF]
  rw[List.drop_length,show sm []=0 from rfl,Int.add_zero,hz]at hR
  exact hR
 ·intro i hi ih z hz hR
  obtain⟨x,hx,hm,hr⟩:=h.get hi
  have hv:Ev (fun n=>ds_t50 x (F45 n)) (sv x):=val_ev (s_all l13 h x hm)
  have hd:l13.drop i=x::l13.drop (i+1):=by rw[List.drop_eq_getElem_cons hi];congr 1;exact (List.getElem?_eq_some_iff.1 hx).2
  have hs:sm (l13.drop i)=sv x+sm (l13.drop (i+1)):=by rw[hd];rfl
  rw[hs]at hR
  have hih:=ih (W (z+sv x)) (W_W _) (by rw[W_add,Int.add_assoc];exact hR)
  refine .succ ?_
  simp only[L14_5,if_pos (ilt hi)]
  refine .succ ?_
  generalize hsv:sv x=v at hv hih
  obtain⟨b0,b1,b2,b3,b4,b5,b6,b7,b8,b9,b10,b11,b12,b13,b14,rfl,_⟩:=rs50 hr
  simp only[L14_6,if_true,getF_nat hx,ds_t50]
  refine Ev.bO1 hv ?_
  simp only[letF,wrap_succ hi h.1]
  exact hih
theorem size_ev {l:List D}(h:ListS tab 45 l):Ev (fun n=>F14 n l) (W ((l.map isz).sum)):=by
 have loop:∀i:Nat,i≤l.length→∀z:Int,W z=z→Ev (fun n=>L14_1 n l (l.length:Int) z (i:Int)) (W (z+((l.drop i).map isz).sum)):=by
  refine down l.length ?_ ?_
  ·intro z hz
   rw[List.drop_length,show (([]:List D).map isz).sum=0 from rfl,Int.add_zero,hz]
   refine .succ ?_
   simp only[L14_1,Int.lt_irrefl,if_false]
   exact .succ (by simp only[L14_2,Bool.false_eq_true,if_false];exact .ret)
  ·intro i hi ih z hz
   obtain⟨x,hx,hm,hr⟩:=h.get hi
   have hd:l.drop i=x::l.drop (i+1):=by rw[List.drop_eq_getElem_cons hi];congr 1;exact (List.getElem?_eq_some_iff.1 hx).2
   rw[hd,List.map_cons,List.sum_cons]
   generalize hT:((l.drop (i+1)).map isz).sum=T at ih
   obtain⟨a0,a1,a2,a3,a4,a5,a6,a7,a8,a9,a10,a11,a12,a13,a14,a15,rfl,w0,w1,w2,w3,w4,w5,w6,w7,w8,w9,w10,w11,w12,w13,w14,w15⟩:=rs45 hr
   refine .succ ?_
   simp only[L14_1,if_pos (ilt hi)]
   refine .succ ?_
   simp only[L14_2,if_true,getF_nat hx,ds_t45,letF]
   by_cases c:a0=3
   ·have he:=val_ev (t_F44 a13 w13 a7 a8 a9 a10 a11 a12 a14)
    have hs:isz (.agg [.int .u8 a0,.str a1,.list true 4 a2,.int .u8 a3,.str a4,.list true 3 a5,.list true 15 a6,.int .u8 a7,.int .i64 a8,.str a9,.str a10,.str a11,.list false 1 a12,.list true 8 a13,.int .i64 a14,.int .i64 a15])=1+val (fun n=>F44 n a7 a8 a9 a10 a11 a12 a13 a14)+sm a6:=by show 1+(if a0=3 then _ else 0)+sm a6=_;rw[if_pos c]
    rw[hs]
    generalize val (fun n=>F44 n a7 a8 a9 a10 a11 a12 a13 a14)=e at he
    simp only[if_pos c]
    refine .succ ?_
    simp only[L14_3,if_true]
    refine Ev.bO1 he ?_
    simp only[letF]
    refine .succ ?_
    simp only[L14_4,lenF]
    refine size_st w6 l (l.length:Int) (i:Int) 0 (Nat.zero_le _) _ (W_W _) ?_
    rw[wrap_succ hi h.1,List.drop_zero]
    have hih:=ih (W (W (W (z+1)+e)+sm a6)) (W_W _)
    rw[show W (W (W (W (z+1)+e)+sm a6)+T)=W (z+(1+e+sm a6+T))by simp only[W,IntKind.wrap_i64];omega]at hih
    exact hih
   ·have hs:isz (.agg [.int .u8 a0,.str a1,.list true 4 a2,.int .u8 a3,.str a4,.list true 3 a5,.list true 15 a6,.int .u8 a7,.int .i64 a8,.str a9,.str a10,.str a11,.list false 1 a12,.list true 8 a13,.int .i64 a14,.int .i64 a15])=1+0+sm a6:=by show 1+(if a0=3 then _ else 0)+sm a6=_;rw[if_neg c]
    rw[hs]
    simp only[if_neg c]
    refine .succ ?_
    simp only[L14_3,Bool.false_eq_true,if_false]
    refine .succ ?_
    simp only[L14_4,lenF]
    refine size_st w6 l (l.length:Int) (i:Int) 0 (Nat.zero_le _) _ (W_W _) ?_
    rw[wrap_succ hi h.1,List.drop_zero]
    have hih:=ih (W (W (z+1)+sm a6)) (W_W _)
    rw[show W (W (W (z+1)+sm a6)+T)=W (z+(1+0+sm a6+T))by simp only[W,IntKind.wrap_i64];omega]at hih
    exact hih
 have:=loop 0 (Nat.zero_le _) 0 rfl
 rw[List.drop_zero,Int.zero_add]at this
 unfold F14
 exact this
theorem appF_ok {γ:Type}{b:Nat}{L M:List D}{k:List D→Option γ}(h:L.length+M.length≤maxLen∧(L.length+M.length)*b≤140737488355328):appF b L M k=k (L++M):=by
 unfold appF
 rw[if_pos h]
theorem ListS.app {l m:List D}(h:ListS tab 45 l) (h':ListS tab 45 m) (hl:l.length+m.length≤10000):ListS tab 45 (l++m):=by
 have hM:10000<maxLen:=by decide
 refine⟨by simp;omega,fun x hx=>?_⟩
 rcases List.mem_append.1 hx with hx | hx
 ·exact h.2 x hx
 ·exact h'.2 x hx
theorem joined_law {p q:List D}(hp:ListS tab 45 p) (hq:ListS tab 45 q):Ev (fun n=>F4 n p q) true:=by
 have yes:Ev (fun n=>L4_1 n p q true) true:=.succ (by simp only[L4_1,if_true];exact .ret)
 unfold F4
 refine Ev.bO1 ev_awake ?_
 simp only[letB,Bool.not_true,Bool.false_eq_true,if_false]
 obtain⟨b,b1,b2⟩:=great_ev hp
 refine Ev.bO1 b1 ?_
 cases b with
 | true=>simp only[if_true];exact yes
 | false=>
  simp only[Bool.false_eq_true,if_false]
  obtain⟨c,c1,c2⟩:=great_ev hq
  refine Ev.bO1 c1 ?_
  cases c with
  | true=>exact yes
  | false=>
   obtain⟨p1,p2⟩:=b2 rfl
   obtain⟨q1,q2⟩:=c2 rfl
   have ha:=ListS.app hp hq (by omega)
   have hM:10000<maxLen:=by decide
   obtain⟨dp,dp'⟩:=depth_ev hp p2
   obtain⟨dq,dq'⟩:=depth_ev hq q2
   obtain⟨da,da'⟩:=depth_ev ha (fun x hx=>by
    rcases List.mem_append.1 hx with hx | hx
    ·exact p2 x hx
    ·exact q2 x hx)
   have sp:=size_ev hp
   have sq:=size_ev hq
   have sa:=size_ev ha
   rw[List.map_append,mxl_app]at da
   rw[List.map_append,List.sum_append]at sa
   have e1:(if ((mxl (q.map idn)+1:Nat):Int)>((mxl (p.map idn)+1:Nat):Int)then ((mxl (q.map idn)+1:Nat):Int)else ((mxl (p.map idn)+1:Nat):Int))=((max (mxl (p.map idn)) (mxl (q.map idn))+1:Nat):Int):=by rw[mx];omega
   have tail:Ev (fun n=>bO1 (F12 n (p++q)) fun z15=>bO1 (F12 n p) fun z16=>bO1 (F12 n q) fun z17=>letF (if z17>z16 then z17 else z16) fun z18=>(if z15=z18 then bO1 (F14 n (p++q)) fun z19=>bO1 (F14 n p) fun z20=>bO1 (F14 n q) fun z21=>letF (IntKind.wrap .i64 (z20+z21)) fun z22=>(if z19=z22 then some true else some false)else some false)) true:=by
    refine Ev.bO1 da (Ev.bO1 dp (Ev.bO1 dq ?_))
    simp only[letF,e1,if_true]
    refine Ev.bO1 sa (Ev.bO1 sp (Ev.bO1 sq ?_))
    rw[if_pos (show W ((p.map isz).sum+(q.map isz).sum)=W (W (p.map isz).sum+W (q.map isz).sum)by rw[W_add,W_add'])]
    exact .ret
   have wp:=whole_ev hp
   have wq:=whole_ev hq
   have wa:=whole_ev ha
   refine .succ ?_
   have a1:∀{γ:Type} (k:List D→Option γ),appF 248 ([]:List D) p k=k p:=fun k=>appF_ok (by simp only[List.length_nil];omega)
   have a2:∀{γ:Type} (k:List D→Option γ),appF 248 p q k=k (p++q):=fun k=>appF_ok (by omega)
   simp only[L4_1,Bool.false_eq_true,if_false,a1,a2]
   refine Ev.bO1 wa (Ev.bO1 wp ?_)
   by_cases cp:(p.all iw_&&decide (p.length≤30))=true
   ·simp only[if_pos cp]
    refine Ev.bO1 wq ?_
    obtain⟨x1,x2⟩:=Bool.and_eq_true_iff.1 cp
    by_cases cq:(q.all iw_&&decide (q.length≤30))=true
    ·obtain⟨y1,y2⟩:=Bool.and_eq_true_iff.1 cq
     simp only[if_pos cq,lenF]
     by_cases cl:(p++q).length≤30
     ·simp only[if_pos (show ((p++q).length:Int)≤30 by omega),letB]
      rw[show (((p++q).all iw_&&decide ((p++q).length≤30))==true)=true by rw[List.all_append,x1,y1,decide_eq_true cl];rfl]
      simp only[if_true]
      exact tail
     ·simp only[if_neg (show ¬((p++q).length:Int)≤30 by omega),letB]
      rw[show (((p++q).all iw_&&decide ((p++q).length≤30))==false)=true by rw[decide_eq_false cl,Bool.and_false];rfl]
      simp only[if_true]
      exact tail
    ·simp only[if_neg cq,letB]
     rw[show (((p++q).all iw_&&decide ((p++q).length≤30))==false)=true by
      rw[beq_iff_eq,Bool.eq_false_iff]
      intro h
      obtain⟨h1,h2⟩:=Bool.and_eq_true_iff.1 h
      rw[List.all_append]at h1
      have h3:=of_decide_eq_true h2
      rw[List.length_append]at h3
      exact cq (by rw[(Bool.and_eq_true_iff.1 h1).2,decide_eq_true (show q.length≤30 by omega)];rfl)]
     simp only[if_true]
     exact tail
   ·simp only[if_neg cp,letB]
    rw[show (((p++q).all iw_&&decide ((p++q).length≤30))==false)=true by
     rw[beq_iff_eq,Bool.eq_false_iff]
     intro h
     obtain⟨h1,h2⟩:=Bool.and_eq_true_iff.1 h
     rw[List.all_append]at h1
     have h3:=of_decide_eq_true h2
     rw[List.length_append]at h3
     exact cp (by rw[(Bool.and_eq_true_iff.1 h1).1,decide_eq_true (show p.length≤30 by omega)];rfl)]
    simp only[if_true]
    exact tail
theorem tree_joined_trip:∀xs:List D,Shapes tab [24,24] xs→Trip Tryz.prog inv 4 (xs.map V1.d) [] (.v (.d (.bool true))) [] []:=by
 intro xs h
 match xs,h with
 | [u,v],⟨u1,u2,v1,v2,_⟩=>
  obtain⟨p,rfl,hp⟩:=rs24 ⟨u1,u2⟩
  obtain⟨q,rfl,hq⟩:=rs24 ⟨v1,v2⟩
  obtain⟨n,hn⟩:=(joined_law hp hq).run
  exact T4 n hn
end Go.Proofs.YtjmofeakajdbiaaGreatDoor
end
namespace Go.Proofs.YtjmofeakajdbiaaGreatDoor
open Go Go.ChangeShapes Go.WideShapes Go.ChangeAt Go.RowKit Go.AM
theorem tree_joined_reads:∀t∈[24,24],Tryz.prog.readableRec t=true∧t<Tryz.prog.types.size:=by
 have h:([24,24].all fun t=>Tryz.prog.readableRec t&&decide (t<Tryz.prog.types.size))=true:=by kernel_rfl
 intro t ht
 have:=List.all_eq_true.1 h t ht
 simpa using this
theorem tree_joined_inv {W:World}(h:laidMet Tryz.prog Rows.treeJoinedRow.laid W):inv.at W fun _ _=>False:=by
 have e:(Rows.treeJoinedRow.laid.filter fun x=>x.1== "strings.asciiSpace")=[("strings.asciiSpace",Lib.tabData .u8 Lib.asciiSpaceTab)]:=by kernel_rfl
 have h2:=laidMet.filter (fun x=>x.1== "strings.asciiSpace") h
 rw[e]at h2
 have ht:Lib.TabIs Tryz.prog W "strings.asciiSpace" .u8 Lib.asciiSpaceTab:=by
  exact Lib.tabIs_of_head (g:=0) (t:=155) (e:=5) (n:=256) (by kernel_rfl) (by kernel_rfl) (by kernel_rfl) (by kernel_rfl) (by kernel_rfl) (by kernel_rfl) h2
 refine⟨ht,fun b hb=>⟨?_,fun _ h=>h⟩⟩
 have hb:Tryz.prog.globalNamed "strings.asciiSpace" =some b:=hb
 unfold Lib.TabIs World.var? at ht
 rw[hb]at ht
 simp only[Option.bind_some]at ht
 cases hx:W.heap[b]? with
 | none=>rw[hx]at ht;simp at ht
 | some o=>exact (Array.getElem?_eq_some_iff.1 hx).1
set_option maxRecDepth 100000 in
theorem tree_joined_lifted (os:Os) (started:os.Started) (H:Type) (enc:TypeId×Value→H):
  ReturnsInHanded {} Tryz.checked os 4 .any (fun w args=>(Rows.treeJoinedSpec.pre enc Tryz.prog Tryz.f4 Rows.treeJoinedRow.domain false w args∧laidMetH Tryz.prog Rows.treeJoinedRow.laid w)∧sizedMet enc Tryz.prog Tryz.f4 (OpenSpec.ofChange Rows.treeJoinedSpec) false w args)
   (Rows.treeJoinedSpec.post enc Tryz.prog Tryz.f4 false true false false):=by
 refine returnsInHanded_of_change_and (C:=Tryz.checked) (X:=fun w _=>laidMetH Tryz.prog Rows.treeJoinedRow.laid w) (fun _ _ _ hh h=>h.of_heap hh) (by kernel_rfl) started (by kernel_rfl) Tryz.func4
  (ChangeSpec.witness_shaped (enc:=enc) (C:=Tryz.checked) (os:=os) (X:=fun w _=>laidMetH Tryz.prog Rows.treeJoinedRow.laid w) false (World.laidAll Tryz.prog os Rows.treeJoinedRow.laid) #[.agg #[.slice none 0 0],.agg #[.slice none 0 0]] 8 (World.laidAll_os _ _ _)
   (World.shaped_of_ZipB (by kernel_rfl) (by kernel_rfl)) (by kernel_rfl) (by kernel_rfl) (by kernel_rfl)
   (by rw[MakeChecks.laidMetH_plain _ _ _ (by kernel_rfl)];exact laidMet_laidAll _ (by kernel_rfl) (by kernel_rfl))) ?_
 intro W base args ds gs before hval0 hW _ _ hL _
 rw[MakeChecks.laidMetH_plain _ _ _ (by kernel_rfl)]at hL
 refine law_calls (ti:=tab) (T:=[2,3,5,9,22,24,31,33,34,36,37,39,42,43,45,48,50,74,95]) tab_ok (by kernel_rfl) (ts:=[24,24]) (bt:=4) rfl rfl rfl (by kernel_rfl) (by decide) ?_ (by kernel_rfl) tree_joined_reads tree_joined_trip (tree_joined_inv hL) hval0 hW
 intro ds h
 match ds,h with
 | [_,_],_=>exact⟨rfl,rfl,rfl⟩
theorem tree_joined_row:Rows.TreeJoinedSaid:=
 OpenClaim.holds_of_wide 4 Tryz.f4 rfl rfl rfl rfl rfl rfl rfl ⟨rfl,rfl,rfl,rfl,rfl⟩ rfl rfl rfl rfl rfl (by kernel_rfl) Tryz.func4 (by kernel_rfl)
  (of_decide_eq_true (by kernel_rfl)) (by unfold Func.isWrapper;first | (rw[if_pos (by decide+kernel)];kernel_rfl) | (rw[if_neg (by decide+kernel)];exact⟨rfl,rfl⟩))
  (fun os started H enc _=>tree_joined_lifted os started H enc)
theorem tree_joined:Rows.TreeJoinedCardSaid:=
 Claim7.holds_tied_plain_at .later [] [.listed,.data] true Rows.treeJoinedCard.stood.harness false tree_joined_row (fun _ h=>by cases h) (by kernel_rfl) (fun _ h=>by cases h) treeJoined_row_tie rfl ⟨rfl,rfl⟩ (by kernel_rfl) rfl
  (fun f fn hf hfn=>by
   obtain rfl:f=4:=Option.some.inj ((show Tryz.prog.funcNamed "weftway/weftwaylaw03.TreeJoined" =some 4 by kernel_rfl).symm.trans hf) |>.symm
   obtain rfl:fn=Tryz.f4:=(Option.some.inj (Tryz.func4.symm.trans hfn)).symm
   exact⟨by kernel_rfl,fun j t ht=>by
    have hm:t∈[24,24]:=by
     have hp:Tryz.f4.params.toList=[24,24]:=rfl
     rw[←hp];simpa using Array.mem_of_getElem? ht
    have hall:([24,24].all fun u=>!Tryz.prog.wantsStandIn u)=true:=by kernel_rfl
    exact (show Tryz.prog.wantsStandIn t=false by simpa using List.all_eq_true.1 hall t hm)⟩)
  (by kernel_rfl)
end Go.Proofs.YtjmofeakajdbiaaGreatDoor
