/- Chapter 3: an expression with a not around it is whole just if it is whole, and less than 40 deep; a type with a Box around it likewise (TreeWrapped): contracts of the functions, the plain law, the card. No condition. (Part 7: ZLxW, ZLxWh.) -/
import Derived.Test.YtjmofeakajdbiaaGreatDoorRows
import Derived.Test.YtjmofeakajdbiaaGreatDoorTie
import Derived.Test.YtjmofeakajdbiaaGreatDoorCards
import Derived.ChangeSame
import Derived.JoinedOf
import Derived.JoinedAt
import Derived.RowKit
import Derived.RowKit2
import Derived.ReadAgain
import Derived.ChangeAlike
import Derived.Lay
import Derived.Handed
import Derived.LaidSub
import Derived.LaidLaws
import Derived.LaidHandle
import Derived.MakeChecks
import Derived.SevenTiedAt
import Derived.Lib.LaidTab
import Derived.Lib.LaidU8
import Derived.Test.YtjmofeakajdbiaaGreatDoorWraF
set_option linter.unusedVariables false
set_option linter.unusedSimpArgs false
set_option linter.unusedVariables false
noncomputable section
namespace Go.Proofs.YtjmofeakajdbiaaGreatDoor
open Go Go.AM
theorem Ev.uniq {α:Type}{A:Nat→Option α}{r s:α}(h1:Ev A r) (h2:Ev A s):r=s:=by
 obtain⟨N,h1⟩:=h1
 obtain⟨M,h2⟩:=h2
 have a:=h1 (N+M) (by omega)
 have b:=h2 (N+M) (by omega)
 rw[a]at b
 exact Option.some.inj b
theorem iw {z:Int}(h1: -9223372036854775808≤z) (h2:z≤9223372036854775807):IntKind.i64.wrap z=z:=IntWalk.i64_in _ (by omega)
theorem room26 (s:ByteArray) (z:Int) (h1: -6≤z) (h2:z≤20000):∃r,Ev (fun n=>F26 n s z) r∧ -1≤r∧r≤20000∧(0≤r→r+5≤z):=by
 by_cases h3:z<5
 ·exact⟨-1,.succ (.of fun n=>by unfold F26;rw[if_pos h3,L26_1,if_pos rfl]),by omega,by omega,by omega⟩
 ·have e:IntKind.i64.wrap (z - 5)=z - 5:=iw (by omega) (by omega)
  by_cases h4:z - 5<((bl s).length:Int)
  ·exact⟨-1,.succ (.of fun n=>by unfold F26;rw[if_neg h3,szF_eq];simp only[letF];rw[e,if_pos h4,L26_1,if_pos rfl]),by omega,by omega,by omega⟩
  ·have e2:IntKind.i64.wrap (z - 5 - ((bl s).length:Int))=z - 5 - ((bl s).length:Int):=iw (by omega) (by omega)
   exact⟨z - 5 - ((bl s).length:Int),.succ (.of fun n=>by unfold F26;rw[if_neg h3,szF_eq];simp only[letF];rw[e,if_neg h4,L26_1,if_neg Bool.false_ne_true];simp only[letF];rw[szF_eq,e,e2]),by omega,by omega,by omega⟩
theorem room66 {l:List D}(h:ListS tab 9 l) (z:Int) (h1: -1≤z) (h2:z≤20000):∃r,Ev (fun n=>F66 n l z) r∧ -6≤r∧r≤20000∧(0≤r→r≤z):=by
 have main:∀i:Nat,i≤l.length→∀z,-6≤z→z≤20000→∃r,Ev (fun n=>L66_1 n l (i:Int) z) r∧ -6≤r∧r≤20000∧(0≤r→r≤z):=by
  refine down l.length ?_ ?_
  ·intro z h1 h2
   refine⟨z,.succ (.succ (.of fun n=>?_)),by omega,by omega,by omega⟩
   rw[L66_1];simp only[lenF];rw[if_neg (by omega),L66_2,if_neg Bool.false_ne_true]
  ·intro i hi ih z h1 h2
   by_cases hz:(0:Int)≤z
   ·obtain⟨x,hx,_,hr⟩:=h.get hi
    obtain⟨s,rfl,_⟩:=rs9 hr
    obtain⟨z1,g1,g2,g3,g4⟩:=room26 s z (by omega) h2
    obtain⟨r,k1,k2,k3,k4⟩:=ih z1 (by omega) (by omega)
    refine⟨r,.succ (.succ (Ev.congr (A:=fun n=>bO1 (F26 n s z) fun z10=>L66_1 n l ((i+1:Nat):Int) z10) (Ev.bO1 g1 k1) fun n=>?_)),k2,k3,by omega⟩
    rw[L66_1];simp only[lenF];rw[if_pos (by omega),if_pos hz,L66_2,if_pos rfl,getF_nat hx]
    simp only[ds_str,letF,wrap_succ hi h.1]
   ·refine⟨z,.succ (.succ (.of fun n=>?_)),by omega,by omega,by omega⟩
    rw[L66_1];simp only[lenF];rw[if_pos (by omega),if_neg hz,L66_2,if_neg Bool.false_ne_true]
 obtain⟨r,h,a,b,c⟩:=main 0 (Nat.zero_le _) (z - 5) (by omega) (by omega)
 exact⟨r,h.congr fun n=>by unfold F66;simp only[letF,iw (show -9223372036854775808≤z - 5 by omega) (by omega)];rfl,a,b,by omega⟩
theorem room67 {l:List D}(h:ListS tab 9 l) (s:ByteArray) (z:Int) (h1: -6≤z) (h2:z≤20000):∃r,Ev (fun n=>F67 n s l z) r∧ -6≤r∧r≤20000∧(0≤r→r+5≤z):=by
 obtain⟨y,g1,g2,g3,g4⟩:=room26 s z h1 h2
 obtain⟨r,k1,k2,k3,k4⟩:=room66 h y g2 g3
 exact⟨r,Ev.bO1 g1 (Ev.bO1 k1 .ret),k2,k3,by omega⟩
theorem ty_deep (l:List D):ListS tab 33 l→∃m:Nat,(m<100000→∀z1 s2,Ev (fun n=>F86 n z1 s2 l) ((m+1:Nat):Int))∧
  (∀z1 s2 z,-6≤z→z≤20000→∃r,Ev (fun n=>F28 n z1 s2 l z) r∧ -6≤r∧r≤20000∧(0≤r→r+5*((m:Int)+1)≤z))∧
  (∀z1 (s2:ByteArray),s2.size≤maxLen→∃b,∀d,0≤d→d≤40→Ev (fun n=>F80 n z1 s2 l d) (b&&decide ((m:Int)+1≤d))):=by
 refine list_ind (P:=fun l=>ListS tab 33 l→∃m:Nat,(m<100000→∀z1 s2,Ev (fun n=>F86 n z1 s2 l) ((m+1:Nat):Int))∧
  (∀z1 s2 z,-6≤z→z≤20000→∃r,Ev (fun n=>F28 n z1 s2 l z) r∧ -6≤r∧r≤20000∧(0≤r→r+5*((m:Int)+1)≤z))∧
  (∀z1 (s2:ByteArray),s2.size≤maxLen→∃b,∀d,0≤d→d≤40→Ev (fun n=>F80 n z1 s2 l d) (b&&decide ((m:Int)+1≤d)))) (fun l ih h=>?_) l
 have loop:∀i:Nat,i≤l.length→∃m:Nat,(m<100000→∀acc:Nat,acc<100000→Ev (fun n=>L86_1 n l (l.length:Int) (acc:Int) (i:Int)) ((max acc m+1:Nat):Int))∧
   (∀z,-6≤z→z≤20000→∃r,Ev (fun n=>L28_1 n l (i:Int) z) r∧ -6≤r∧r≤20000∧(0≤r→r+5*(m:Int)≤z))∧(i=l.length→m=0)∧
   (i+1=l.length→∃a s l',l[i]?=some (.agg [.int .u8 a,.str s,.list true 3 l'])∧∃b,∀d,0≤d→d≤40→Ev (fun n=>F80 n a s l' d) (b&&decide ((m:Int)≤d))):=by
  refine down l.length ⟨0,fun _ acc ha=>?_,fun z h1 h2=>⟨z,?_,h1,h2,by omega⟩,fun _=>rfl,fun h=>by omega⟩ (fun i hi hP=>?_)
  ·refine .succ ?_
   simp only[L86_1,Int.lt_irrefl,if_false]
   refine .succ ?_
   simp only[L86_2,Bool.false_eq_true,if_false,letF,iw (show -9223372036854775808≤(acc:Int)+1 by omega) (by omega)]
   rw[show max acc 0=acc by omega]
   exact .ret
  ·refine .succ (.succ (.of fun n=>?_))
   rw[L28_1];simp only[lenF];rw[if_neg (by omega),L28_2,if_neg Bool.false_ne_true]
  ·obtain⟨m,p1,p2,p3,p4⟩:=hP
   obtain⟨x,hx,hm,hr⟩:=h.get hi
   obtain⟨a,s,l',rfl,_,hs,hl'⟩:=rs33 hr
   obtain⟨k,q1,q2,q3⟩:=ih l' (size_row (ag:=true) (sz:=3) hm (by simp)) hl'
   refine⟨max (k+1) m,fun hk acc ha=>?_,fun z h1 h2=>?_,fun h=>by omega,fun he=>?_⟩
   ·refine .succ ?_
    simp only[L86_1,if_pos (show (i:Int)<(l.length:Int)by omega)]
    refine .succ ?_
    simp only[L86_2,if_true,getF_nat hx,ds_t33]
    refine Ev.bO1 (q1 (by omega) a s) ?_
    simp only[letF,wrap_succ hi h.1]
    have e:(if ((k+1:Nat):Int)>(acc:Int)then ((k+1:Nat):Int)else (acc:Int))=((max acc (k+1):Nat):Int):=by split<;>omega
    rw[e,show max acc (max (k+1) m)=max (max acc (k+1)) m by omega]
    exact p1 (by omega) _ (by omega)
   ·by_cases hz:(0:Int)≤z
    ·obtain⟨y,g1,g2,g3,g4⟩:=q2 a s z h1 h2
     obtain⟨r,k1,k2,k3,k4⟩:=p2 y g2 g3
     refine⟨r,.succ (.succ (Ev.congr (A:=fun n=>bO1 (F28 n a s l' z) fun z10=>L28_1 n l ((i+1:Nat):Int) z10) (Ev.bO1 g1 k1) fun n=>?_)),k2,k3,by omega⟩
     rw[L28_1];simp only[lenF];rw[if_pos (by omega),if_pos hz,L28_2,if_pos rfl,getF_nat hx]
     simp only[ds_t33,letF,wrap_succ hi h.1]
    ·refine⟨z,.succ (.succ (.of fun n=>?_)),h1,h2,by omega⟩
     rw[L28_1];simp only[lenF];rw[if_pos (by omega),if_neg hz,L28_2,if_neg Bool.false_ne_true]
   ·have m0:=p3 he
    subst m0
    obtain⟨b,hb⟩:=q3 a s hs
    refine⟨a,s,l',hx,b,fun d d0 d40=>?_⟩
    have:=hb d d0 d40
    rwa [show decide (((max (k+1) 0:Nat):Int)≤d)=decide ((k:Int)+1≤d)from decide_eq_decide.2 (by omega)]
 obtain⟨m,p1,p2,p3,p4⟩:=loop 0 (Nat.zero_le _)
 refine⟨m,fun hm z1 s2=>?_,fun z1 s2 z h1 h2=>?_,fun z1 s2 hs=>?_⟩
 ·refine .succ ?_
  simp only[F86,lenF]
  have:=p1 hm 0 (by omega)
  rwa [show max 0 m=m by omega]at this
 ·obtain⟨y,g1,g2,g3,g4⟩:=room26 s2 z h1 h2
  obtain⟨r,k1,k2,k3,k4⟩:=p2 y (by omega) g3
  exact⟨r,.succ ((Ev.bO1 g1 k1).congr fun n=>by rw[F28];rfl),k2,k3,by omega⟩
 ·have bad:∀d:Int,d<1∨z1<1∨14<z1→Ev (fun n=>F80 n z1 s2 l d) false:=by
   intro d g
   refine .succ ?_
   have stop:Ev (fun n=>L80_1 n z1 s2 l d true) false:=.succ (by simp only[L80_1,if_true];exact .ret)
   rcases g with g | g | g
   ·simp only[F80,if_pos g];exact stop
   ·simp only[F80,if_pos g,ite_self];exact stop
   ·simp only[F80,if_pos g,ite_self];exact stop
  have small:∀(b:Bool) (d:Int),d<1→(b&&decide ((m:Int)+1≤d))=false:=fun b d hd=>by rw[decide_eq_false (by omega),Bool.and_false]
  by_cases g:z1<1∨14<z1
  ·exact⟨false,fun d d0 d40=>by rw[Bool.false_and];exact bad d (.inr g)⟩
  have g1:¬z1<1:=fun x=>g (.inl x)
  have g14:¬14<z1:=fun x=>g (.inr x)
  have z0:l.length=0→m=0:=fun e=>p3 (by omega)
  by_cases hl:leafT z1
  ·have n4:z1≠4:=by rcases hl with h | h | h | h<;>omega
   refine⟨decide (s2=ByteArray.empty)&&decide (l.length=0),fun d d0 d40=>?_⟩
   by_cases hd:d<1
   ·rw[small _ d hd];exact bad d (.inl hd)
   ·refine pre20 hs hd g1 g14 (fun _=>?_) (fun h=>absurd h n4) (fun h=>absurd hl h)
    by_cases e:l.length=0
    ·rw[z0 e,decide_eq_true (show ((0:Nat):Int)+1≤d by omega),Bool.and_true]
    ·simp only[decide_eq_false e,Bool.and_false,Bool.false_and]
  by_cases h4:z1=4
  ·refine⟨nm 65 90 s2&&decide (l.length=0),fun d d0 d40=>?_⟩
   by_cases hd:d<1
   ·rw[small _ d hd];exact bad d (.inl hd)
   ·refine pre20 hs hd g1 g14 (fun h=>absurd h hl) (fun _=>?_) (fun _ h=>absurd h4 h)
    by_cases e:l.length=0
    ·rw[z0 e,decide_eq_true (show ((0:Nat):Int)+1≤d by omega),Bool.and_true]
    ·simp only[decide_eq_false e,Bool.and_false,Bool.false_and]
  by_cases e:s2=ByteArray.empty
  ·by_cases e1:l.length=1
   ·obtain⟨a,s,l',hx,b,hb⟩:=p4 (by omega)
    refine⟨b,fun d d0 d40=>?_⟩
    by_cases hd:d<1
    ·rw[small _ d hd];exact bad d (.inl hd)
    ·refine pre20 hs hd g1 g14 (fun h=>absurd h hl) (fun h=>absurd h h4) (fun _ _=>.succ ?_)
     have gx:∀{γ:Type} (k:D→Option γ),getF l (0:Int) k=k (.agg [.int .u8 a,.str s,.list true 3 l']):=fun k=>getF_nat (i:=0) hx
     simp only[L80_6,Bool.false_eq_true,if_false,if_pos e,lenF,if_pos (show (l.length:Int)=1 by omega),gx,ds_t33,letF,iw (show -9223372036854775808≤d - 1 by omega) (by omega)]
     have:=hb (d - 1) (by omega) (by omega)
     rw[show decide ((m:Int)≤d - 1)=decide ((m:Int)+1≤d)from decide_eq_decide.2 (by omega)]at this
     exact Ev.bO1 this .ret
   ·refine⟨false,fun d d0 d40=>?_⟩
    rw[Bool.false_and]
    by_cases hd:d<1
    ·exact bad d (.inl hd)
    ·refine pre20 hs hd g1 g14 (fun h=>absurd h hl) (fun h=>absurd h h4) (fun _ _=>.succ ?_)
     simp only[L80_6,Bool.false_eq_true,if_false,if_pos e,lenF,if_neg (show ¬(l.length:Int)=1 by omega)];exact .ret
  ·refine⟨false,fun d d0 d40=>?_⟩
   rw[Bool.false_and]
   by_cases hd:d<1
   ·exact bad d (.inl hd)
   ·refine pre20 hs hd g1 g14 (fun h=>absurd h hl) (fun h=>absurd h h4) (fun _ _=>.succ ?_)
    simp only[L80_6,Bool.false_eq_true,if_false,if_neg e];exact .ret
def shB (z1 z2:Int) (hp:Bool) (least most:Int) (s3 s4 s5:ByteArray) (l6 l:List D):Bool:=(decide (least≤(l.length:Int))&&decide ((l.length:Int)≤most))&&(intB z1 z2&&(placB z1 hp s5 l6 l&&(nameB z1 s3&&secB z1 s4)))
theorem ev84 {z1 z2:Int}{s3 s4 s5:ByteArray}{l6 l:List D}{z8:Int}{f:ByteArray}{hp:Bool}{least most:Int}(G:Good z1 f hp least most) {d:Int}{A:Bool}
  (h3:s3.size≤maxLen) (h4:s4.size≤maxLen) (h5:s5.size≤maxLen) (h6:ListS tab 9 l6) (hd:1≤d) (hA:Ev (fun n=>L84_10 n z1 l d (0:Int)) A):
  Ev (fun n=>F84 n z1 z2 s3 s4 s5 l6 l z8 d) (shB z1 z2 hp least most s3 s4 s5 l6 l&&A):=by
 refine .succ ?_
 simp only[F84]
 refine Ev.bO1 G.f40 ?_
 simp only[if_neg (show ¬d<1 by omega),if_neg G.ne,lenF]
 refine Ev.bO1 (G.many _ (by omega)) ?_
 unfold shB
 cases decide (least≤(l.length:Int))&&decide ((l.length:Int)≤most)
 ·simp only[letB,Bool.not_false,Bool.false_and]
  exact .succ (by simp only[L84_1,if_true];exact Ev.ret)
 ·simp only[letB,Bool.not_true,Bool.true_and,Bool.and_assoc]
  exact g1 G h3 h4 h5 h6 hA
theorem no84 {z1 z2:Int}{s3 s4 s5:ByteArray}{l6 l:List D}{z8 d:Int}(h0:0≤z1) (h1:z1<256) (hd:d<1):Ev (fun n=>F84 n z1 z2 s3 s4 s5 l6 l z8 d) false:=by
 have no23:∀f,Ev (fun n=>L84_1 n z1 z2 s3 s4 s5 l6 l z8 d f true) false:=fun f=>.succ (by simp only[L84_1,if_true];exact Ev.ret)
 rcases good_all h0 h1 with⟨f,hp,least,most,G⟩ | ⟨g1',hp,a,b,g2⟩
 ·refine .succ ?_
  simp only[F84]
  refine Ev.bO1 G.f40 ?_
  simp only[if_pos hd];exact no23 _
 ·refine .succ ?_
  simp only[F84]
  refine Ev.bO1 g1' ?_
  simp only[if_pos hd];exact no23 _
abbrev lentB (z:Int):Bool:=decide (z=5∨z=6)
theorem ev83 (z1 z2:Int) (s3 s4 s5:ByteArray) (l6 l7:List D) (z8:Int) (n:Nat):F83 n z1 z2 s3 s4 s5 l6 l7 z8=some (lentB z1):=by
 unfold F83 lentB
 by_cases c5:z1=5
 ·simp[c5]
 ·by_cases c6:z1=6<;>simp[c5,c6]
theorem ev53 (z1 z2:Int) (s3 s4 s5:ByteArray) (l6 l7:List D) (z8:Int) (n:Nat):F53 n z1 z2 s3 s4 s5 l6 l7 z8=some (lentB z1):=by
 unfold F53 lentB
 by_cases c5:z1=5
 ·simp[c5]
 ·by_cases c6:z1=6<;>simp[c5,c6]
theorem arg84 {l:List D}(h:ListS tab 39 l) {i:Nat}(hi:i<l.length) {a0 a1:Int}{a2 a3 a4:ByteArray}{a5 a6:List D}{a7:Int}
  (hx:l[i]?=some (.agg [.int .u8 a0,.int .i64 a1,.str a2,.str a3,.str a4,.list false 1 a5,.list true 8 a6,.int .i64 a7]))
  {z1 d:Int} (d1:1≤d) (d40:d≤40) {q A:Bool} (hq:Ev (fun n=>F84 n a0 a1 a2 a3 a4 a5 a6 a7 (d - 1)) q) (hA:Ev (fun n=>L84_10 n z1 l d ((i+1:Nat):Int)) A):
  Ev (fun n=>L84_10 n z1 l d (i:Int)) ((if z1=18 then q else !lentB a0&&q)&&A):=by
 have wd:IntKind.i64.wrap (d - 1)=d - 1:=IntWalk.i64_in _ (by omega)
 refine .succ ?_
 simp only[L84_10,lenF,if_pos (show (i:Int)<(l.length:Int)by omega)]
 refine .succ ?_
 simp only[L84_11,if_true,getF_nat hx,ds_t39]
 have k12:∀b,Ev (fun n=>L84_12 n z1 l d (i:Int) (!b)) (b&&A):=by
  intro b
  refine .succ ?_
  cases b
  ·simp only[L84_12,Bool.not_false,if_true,Bool.false_and];exact Ev.ret
  ·simp only[L84_12,Bool.not_true,Bool.false_eq_true,if_false,letF,wrap_succ hi h.1,Bool.true_and];exact hA
 simp only[ev83]
 refine Ev.bO1 Ev.ret ?_
 by_cases c18:z1=18
 ·simp only[if_pos c18,letF,wd]
  cases lentB a0
  ·simp only[Bool.false_eq_true,if_false]
   exact Ev.bO1 hq (by simp only[letB];exact k12 q)
  ·simp only[if_true]
   exact Ev.bO1 hq (by simp only[letB];exact k12 q)
 ·simp only[if_neg c18,letF,wd]
  cases lentB a0
  ·simp only[Bool.false_eq_true,if_false,Bool.not_false,Bool.true_and]
   exact Ev.bO1 hq (by simp only[letB];exact k12 q)
  ·simp only[if_true,Bool.not_true,Bool.false_and];exact k12 false
theorem end84 {l:List D}{z1 d:Int}:Ev (fun n=>L84_10 n z1 l d ((l.length:Nat):Int)) true:=by
 refine .succ ?_
 simp only[L84_10,lenF,Int.lt_irrefl,if_false]
 exact .succ (by simp only[L84_11,Bool.false_eq_true,if_false];exact Ev.ret)
theorem ex_deep (l:List D):ListS tab 39 l→∃m:Nat,(m<100000→∀z1 z2 s3 s4 s5 l6 z8,Ev (fun n=>F87 n z1 z2 s3 s4 s5 l6 l z8) ((m+1:Nat):Int))∧
  (∀z1 z2 s3 s4 s5 l6 z8 z,ListS tab 9 l6→ -6≤z→z≤20000→∃r,Ev (fun n=>F30 n z1 z2 s3 s4 s5 l6 l z8 z) r∧ -6≤r∧r≤20000∧(0≤r→r+5*((m:Int)+1)≤z))∧
  (∀z1 z2 (s3 s4 s5:ByteArray) l6 z8,0≤z1→z1<256→s3.size≤maxLen→s4.size≤maxLen→s5.size≤maxLen→ListS tab 9 l6→∃b,∀d,0≤d→d≤40→Ev (fun n=>F84 n z1 z2 s3 s4 s5 l6 l z8 d) (b&&decide ((m:Int)+1≤d))):=by
 refine list_ind (P:=fun l=>ListS tab 39 l→∃m:Nat,(m<100000→∀z1 z2 s3 s4 s5 l6 z8,Ev (fun n=>F87 n z1 z2 s3 s4 s5 l6 l z8) ((m+1:Nat):Int))∧
  (∀z1 z2 s3 s4 s5 l6 z8 z,ListS tab 9 l6→ -6≤z→z≤20000→∃r,Ev (fun n=>F30 n z1 z2 s3 s4 s5 l6 l z8 z) r∧ -6≤r∧r≤20000∧(0≤r→r+5*((m:Int)+1)≤z))∧
  (∀z1 z2 (s3 s4 s5:ByteArray) l6 z8,0≤z1→z1<256→s3.size≤maxLen→s4.size≤maxLen→s5.size≤maxLen→ListS tab 9 l6→∃b,∀d,0≤d→d≤40→Ev (fun n=>F84 n z1 z2 s3 s4 s5 l6 l z8 d) (b&&decide ((m:Int)+1≤d)))) (fun l ih h=>?_) l
 have loop:∀i:Nat,i≤l.length→∃m:Nat,(m<100000→∀acc:Nat,acc<100000→Ev (fun n=>L87_1 n l (l.length:Int) (acc:Int) (i:Int)) ((max acc m+1:Nat):Int))∧
   (∀z,-6≤z→z≤20000→∃r,Ev (fun n=>L30_1 n l (i:Int) z) r∧ -6≤r∧r≤20000∧(0≤r→r+5*(m:Int)≤z))∧
   (∀z1,∃b,∀d,1≤d→d≤40→Ev (fun n=>L84_10 n z1 l d (i:Int)) (b&&decide ((m:Int)+1≤d))):=by
  refine down l.length ⟨0,fun _ acc ha=>?_,fun z h1 h2=>⟨z,?_,h1,h2,by omega⟩,fun z1=>⟨true,fun d d1 d40=>?_⟩⟩ (fun i hi hP=>?_)
  ·refine .succ ?_
   simp only[L87_1,Int.lt_irrefl,if_false]
   refine .succ ?_
   simp only[L87_2,Bool.false_eq_true,if_false,letF,iw (show -9223372036854775808≤(acc:Int)+1 by omega) (by omega)]
   rw[show max acc 0=acc by omega]
   exact .ret
  ·refine .succ (.succ (.of fun n=>?_))
   rw[L30_1];simp only[lenF];rw[if_neg (by omega),L30_2,if_neg Bool.false_ne_true]
  ·rw[decide_eq_true (show ((0:Nat):Int)+1≤d by omega)];exact end84
  ·obtain⟨m,p1,p2,p3⟩:=hP
   obtain⟨x,hx,hm,hr⟩:=h.get hi
   obtain⟨a0,a1,a2,a3,a4,a5,a6,a7,rfl,w0,_,w2,w3,w4,w5,w6,_⟩:=rs39 hr
   obtain⟨k,q1,q2,q3⟩:=ih a6 (size_row (ag:=true) (sz:=8) hm (by simp)) w6
   refine⟨max (k+1) m,fun hk acc ha=>?_,fun z h1 h2=>?_,fun z1=>?_⟩
   ·refine .succ ?_
    simp only[L87_1,if_pos (show (i:Int)<(l.length:Int)by omega)]
    refine .succ ?_
    simp only[L87_2,if_true,getF_nat hx,ds_t39]
    refine Ev.bO1 (q1 (by omega) a0 a1 a2 a3 a4 a5 a7) ?_
    simp only[letF,wrap_succ hi h.1]
    have e:(if ((k+1:Nat):Int)>(acc:Int)then ((k+1:Nat):Int)else (acc:Int))=((max acc (k+1):Nat):Int):=by split<;>omega
    rw[e,show max acc (max (k+1) m)=max (max acc (k+1)) m by omega]
    exact p1 (by omega) _ (by omega)
   ·by_cases hz:(0:Int)≤z
    ·obtain⟨y,g1,g2,g3,g4⟩:=q2 a0 a1 a2 a3 a4 a5 a7 z w5 h1 h2
     obtain⟨r,k1,k2,k3,k4⟩:=p2 y g2 g3
     refine⟨r,.succ (.succ (Ev.congr (A:=fun n=>bO1 (F30 n a0 a1 a2 a3 a4 a5 a6 a7 z) fun z10=>L30_1 n l ((i+1:Nat):Int) z10) (Ev.bO1 g1 k1) fun n=>?_)),k2,k3,by omega⟩
     rw[L30_1];simp only[lenF];rw[if_pos (by omega),if_pos hz,L30_2,if_pos rfl,getF_nat hx]
     simp only[ds_t39,letF,wrap_succ hi h.1]
    ·refine⟨z,.succ (.succ (.of fun n=>?_)),h1,h2,by omega⟩
     rw[L30_1];simp only[lenF];rw[if_pos (by omega),if_neg hz,L30_2,if_neg Bool.false_ne_true]
   ·obtain⟨b,hb⟩:=q3 a0 a1 a2 a3 a4 a5 a7 (u8_range w0).1 (u8_range w0).2 w2 w3 w4 w5
    obtain⟨b2,hb2⟩:=p3 z1
    refine⟨(if z1=18 then b else !lentB a0&&b)&&b2,fun d d1 d40=>?_⟩
    have:=arg84 h hi hx (z1:=z1) d1 d40 (hb (d - 1) (by omega) (by omega)) (hb2 d d1 d40)
    have e1:decide ((k:Int)+1≤d - 1)=decide (((k+1:Nat):Int)+1≤d):=decide_eq_decide.2 (by omega)
    have e2:decide (((max (k+1) m:Nat):Int)+1≤d)=(decide (((k+1:Nat):Int)+1≤d)&&decide ((m:Int)+1≤d)):=by
     rw[←Bool.decide_and];exact decide_eq_decide.2 (by omega)
    rw[e1]at this
    rw[e2]
    revert this
    generalize decide (((k+1:Nat):Int)+1≤d)=u
    generalize decide ((m:Int)+1≤d)=v
    generalize lentB a0=w
    intro this
    have e:(((if z1=18 then b else !w&&b)&&b2)&&(u&&v))=((if z1=18 then b&&u else !w&&(b&&u))&&(b2&&v)):=by
     split<;>cases b<;>cases b2<;>cases u<;>cases v<;>cases w<;>rfl
    rw[e]
    exact this
 obtain⟨m,p1,p2,p3⟩:=loop 0 (Nat.zero_le _)
 refine⟨m,fun hm z1 z2 s3 s4 s5 l6 z8=>?_,fun z1 z2 s3 s4 s5 l6 z8 z h6 h1 h2=>?_,fun z1 z2 s3 s4 s5 l6 z8 h0 h1 h3 h4 h5 h6=>?_⟩
 ·refine .succ ?_
  simp only[F87,lenF]
  have:=p1 hm 0 (by omega)
  rwa [show max 0 m=m by omega]at this
 ·obtain⟨y1,g1,g2,g3,g4⟩:=room26 s3 z h1 h2
  obtain⟨y2,j1,j2,j3,j4⟩:=room26 s4 y1 (by omega) g3
  obtain⟨y3,i1,i2,i3,i4⟩:=room67 h6 s5 y2 (by omega) j3
  obtain⟨r,k1,k2,k3,k4⟩:=p2 y3 i2 i3
  exact⟨r,.succ ((Ev.bO1 g1 (Ev.bO1 j1 (Ev.bO1 i1 k1))).congr fun n=>by rw[F30]),k2,k3,by omega⟩
 ·rcases good_all h0 h1 with⟨f,hp,least,most,G⟩ | ⟨g1',hp,a,b,g2⟩
  ·obtain⟨b,hb⟩:=p3 z1
   refine⟨shB z1 z2 hp least most s3 s4 s5 l6 l&&b,fun d d0 d40=>?_⟩
   by_cases hd:d<1
   ·rw[decide_eq_false (show ¬(m:Int)+1≤d by omega),Bool.and_false]
    exact no84 h0 h1 hd
   ·rw[Bool.and_assoc]
    exact ev84 G h3 h4 h5 h6 (by omega) (hb d (by omega) d40)
  ·refine⟨false,fun d d0 d40=>?_⟩
   rw[Bool.false_and]
   have no23:∀f,Ev (fun n=>L84_1 n z1 z2 s3 s4 s5 l6 l z8 d f true) false:=fun f=>.succ (by simp only[L84_1,if_true];exact Ev.ret)
   refine .succ ?_
   simp only[F84]
   refine Ev.bO1 g1' ?_
   by_cases c:d<1
   ·simp only[if_pos c];exact no23 _
   ·simp only[if_neg c,if_true];exact no23 _
theorem f86nil (z:Int) (s:ByteArray):Ev (fun n=>F86 n z s []) ((1:Nat):Int):=by
 refine .succ ?_
 simp only[F86,lenF]
 refine .succ ?_
 simp only[L86_1,List.length_nil,show ¬(0:Int)<((0:Nat):Int)by decide,if_false]
 exact .succ (by simp only[L86_2,Bool.false_eq_true,if_false];exact .ret)
theorem f87nil (z1 z2:Int) (s3 s4 s5:ByteArray) (l6:List D) (z8:Int):Ev (fun n=>F87 n z1 z2 s3 s4 s5 l6 [] z8) ((1:Nat):Int):=by
 refine .succ ?_
 simp only[F87,lenF]
 refine .succ ?_
 simp only[L87_1,List.length_nil,show ¬(0:Int)<((0:Nat):Int)by decide,if_false]
 exact .succ (by simp only[L87_2,Bool.false_eq_true,if_false];exact .ret)
theorem one12 {k:Int}{s:ByteArray}{z4:Int}{s5:ByteArray}{l6:List D}{z8 z9:Int}{s10 s11 s12:ByteArray}{l13 l14:List D}{z15 z16:Int}{a b:Nat}(ha:a<200000) (hb:b<200000)
  (h1:Ev (fun n=>F86 n z4 s5 l6) (a:Int)) (h2:Ev (fun n=>F87 n z8 z9 s10 s11 s12 l13 l14 z15) (b:Int)):
  Ev (fun n=>F12 n [.agg [.int .u8 k,.str s,.list true 4 [],.int .u8 z4,.str s5,.list true 3 l6,.list true 15 [],.int .u8 z8,.int .i64 z9,.str s10,.str s11,.str s12,.list false 1 l13,.list true 8 l14,.int .i64 z15,.int .i64 z16]]) ((max a b+2:Nat):Int):=by
 have h39:Ev (fun n=>F39 n k s [] z4 s5 l6 [] z8 z9 s10 s11 s12 l13 l14 z15 z16) ((max a b+1:Nat):Int):=by
  refine Ev.bO1 h1 (Ev.bO1 h2 ?_)
  have e:(if (b:Int)>(a:Int)then (b:Int)else (a:Int))=((max a b:Nat):Int):=by split<;>omega
  simp only[letF,e,lenF]
  refine .succ ?_
  simp only[L39_1,List.length_nil,show ¬(0:Int)<((0:Nat):Int)by decide,if_false]
  refine .succ ?_
  simp only[L39_2,Bool.false_eq_true,if_false,lenF]
  refine .succ ?_
  simp only[L39_3,List.length_nil,show ¬(0:Int)<((0:Nat):Int)by decide,if_false]
  refine .succ ?_
  simp only[L39_4,Bool.false_eq_true,if_false,letF,iw (show -9223372036854775808≤((max a b:Nat):Int)+1 by omega) (by omega)]
  exact .ret
 unfold F12
 simp only[lenF]
 refine .succ ?_
 simp only[L12_1,List.length_cons,List.length_nil,show (0:Int)<((0+1:Nat):Int)by decide,if_true]
 refine .succ ?_
 simp only[L12_2,if_true,getF_zero,ds_t45]
 refine Ev.bO1 h39 ?_
 have e:(if ((max a b+1:Nat):Int)>0 then ((max a b+1:Nat):Int)else 0)=((max a b+1:Nat):Int):=by split<;>omega
 simp only[letF,e]
 refine .succ ?_
 simp only[L12_1,if_neg (show ¬IntKind.wrap .i64 ((0:Int)+1)<((0+1:Nat):Int)by decide)]
 refine .succ ?_
 simp only[L12_2,Bool.false_eq_true,if_false,letF,iw (show -9223372036854775808≤((max a b+1:Nat):Int)+1 by omega) (by omega)]
 exact .ret
theorem wrapped {z1:Int}{s2:ByteArray}{l3:List D}{z4 z5:Int}{s6 s7 s8:ByteArray}{l9 l10:List D}{z11:Int}
  (hs2:s2.size≤maxLen) (h3:ListS tab 33 l3) (w1:(Lit.int .u8 z1).wf=true) (w4:(Lit.int .u8 z4).wf=true) (w5:(Lit.int .i64 z5).wf=true) (hs6:s6.size≤maxLen) (hs7:s7.size≤maxLen) (hs8:s8.size≤maxLen) (h9:ListS tab 9 l9) (h10:ListS tab 39 l10)
  (hT:RowS tab 33 (.agg [.int .u8 z1,.str s2,.list true 3 l3])) (hE:RowS tab 39 (.agg [.int .u8 z4,.int .i64 z5,.str s6,.str s7,.str s8,.list false 1 l9,.list true 8 l10,.int .i64 z11])):
  Ev (fun n=>F5 n z1 s2 l3 z4 z5 s6 s7 s8 l9 l10 z11) true:=by
 obtain⟨mt,t1,t2,t3⟩:=ty_deep l3 h3
 obtain⟨me,e1,e2,e3⟩:=ex_deep l10 h10
 obtain⟨rt,rt1,rt2,rt3,rt4⟩:=t2 z1 s2 20000 (by omega) (by omega)
 obtain⟨re,re1,re2,re3,re4⟩:=e2 z4 z5 s6 s7 s8 l9 z11 20000 h9 (by omega) (by omega)
 have stop:Ev (fun n=>L5_1 n z1 s2 l3 z4 z5 s6 s7 s8 l9 l10 z11 true) true:=.succ (by simp only[L5_1,if_true];exact .ret)
 refine Ev.bO1 ev_awake ?_
 simp only[letB,Bool.not_true,Bool.false_eq_true,if_false]
 by_cases ht:rt<0
 ·refine Ev.bO1 (a:=true) (Ev.bO1 rt1 (by simp only[if_pos ht];exact .ret)) ?_
  simp only[if_true];exact stop
 refine Ev.bO1 (a:=false) (Ev.bO1 rt1 (by simp only[if_neg ht];exact .ret)) ?_
 simp only[Bool.false_eq_true,if_false]
 by_cases he:re<0
 ·exact Ev.bO1 (a:=true) (Ev.bO1 re1 (by simp only[if_pos he];exact .ret)) stop
 refine Ev.bO1 (a:=false) (Ev.bO1 re1 (by simp only[if_neg he];exact .ret)) ?_
 have ht5:=rt4 (by omega)
 have he5:=re4 (by omega)
 refine .succ ?_
 simp only[L5_1,Bool.false_eq_true,if_false]
 -- how deep
 have d1:=one12 (k:=0) (s:=ByteArray.empty) (z4:=0) (s5:=ByteArray.empty) (l6:=[]) (z16:=0) (by omega) (by omega) (f86nil 0 ByteArray.empty) (e1 (by omega) z4 z5 s6 s7 s8 l9 z11)
 have d2:=one12 (k:=0) (s:=ByteArray.empty) (z8:=0) (z9:=0) (s10:=ByteArray.empty) (s11:=ByteArray.empty) (s12:=ByteArray.empty) (l13:=[]) (l14:=[]) (z15:=0) (z16:=0) (by omega) (by omega) (t1 (by omega) z1 s2) (f87nil 0 0 ByteArray.empty ByteArray.empty ByteArray.empty [] 0)
 refine Ev.bO1 d1 ?_
 simp only[letF]
 refine Ev.bO1 d2 ?_
 have x1:IntKind.i64.wrap (((max 1 (me+1)+2:Nat):Int) - 2)=(me:Int)+1:=by rw[iw (by omega) (by omega)];omega
 have x2:IntKind.i64.wrap (((max (mt+1) 1+2:Nat):Int) - 2)=(mt:Int)+1:=by rw[iw (by omega) (by omega)];omega
 simp only[x1,x2]
 -- whole
 obtain⟨be,be1⟩:=e3 z4 z5 s6 s7 s8 l9 z11 (u8_range w4).1 (u8_range w4).2 hs6 hs7 hs8 h9
 obtain⟨bt,bt1⟩:=t3 z1 s2 hs2
 have hL:ListS tab 39 [.agg [.int .u8 z4,.int .i64 z5,.str s6,.str s7,.str s8,.list false 1 l9,.list true 8 l10,.int .i64 z11]]:=.one hE
 have em:ByteArray.empty.size≤maxLen:=by decide
 have q1:Ev (fun n=>F20 n (8:Int) (0:Int) ByteArray.empty ByteArray.empty ByteArray.empty ([]:List D) ([.agg [.int .u8 z4,.int .i64 z5,.str s6,.str s7,.str s8,.list false 1 l9,.list true 8 l10,.int .i64 z11]]) (0:Int)) (!lentB z4&&(be&&decide ((me:Int)+1≤39))):=by
  obtain⟨r,r1,r2⟩:=ex_agree _ hL 8 0 ByteArray.empty ByteArray.empty ByteArray.empty [] 0 40 (by omega) (by omega) em em em .nil (by omega) (by omega)
  have a:=arg84 hL (i:=0) (by simp) rfl (z1:=8) (d:=40) (by omega) (by omega) (be1 (40 - 1) (by omega) (by omega)) end84
  have v:=ev84 (z2:=0) (s3:=ByteArray.empty) (s4:=ByteArray.empty) (s5:=ByteArray.empty) (l6:=[]) (z8:=0) good8 em em em .nil (by omega) a
  have e:=r2.uniq v
  have sh:shB 8 0 false 1 1 ByteArray.empty ByteArray.empty ByteArray.empty [] [.agg [.int .u8 z4,.int .i64 z5,.str s6,.str s7,.str s8,.list false 1 l9,.list true 8 l10,.int .i64 z11]]=true:=by
   simp[shB,intB,placB,nameB,secB,emp]
  rw[sh,if_neg (by omega),Bool.true_and,Bool.and_true]at e
  unfold F20
  simp only[ev53]
  refine Ev.bO1 .ret ?_
  simp only[letB,lentB,show decide ((8:Int)=5∨(8:Int)=6)=false by decide,Bool.not_false,if_true]
  rw[e]at r1
  exact Ev.bO1 r1 .ret
 have q2:Ev (fun n=>F20 n z4 z5 s6 s7 s8 l9 l10 z11) (!lentB z4&&(be&&decide ((me:Int)+1≤40))):=by
  obtain⟨r,r1,r2⟩:=ex_agree l10 h10 z4 z5 s6 s7 s8 l9 z11 40 (u8_range w4).1 (u8_range w4).2 hs6 hs7 hs8 h9 (by omega) (by omega)
  have e:=r2.uniq (be1 40 (by omega) (by omega))
  unfold F20
  simp only[ev53]
  refine Ev.bO1 .ret ?_
  cases lentB z4
  ·simp only[letB,Bool.not_false,if_true,Bool.true_and]
   rw[e]at r1
   exact Ev.bO1 r1 .ret
  ·simp only[letB,Bool.not_true,Bool.false_eq_true,if_false,Bool.false_and];exact .ret
 have q3:Ev (fun n=>F21 n (5:Int) ByteArray.empty ([.agg [.int .u8 z1,.str s2,.list true 3 l3]])) (bt&&decide ((mt:Int)+1≤39)):=by
  have hT':ListS tab 33 [.agg [.int .u8 z1,.str s2,.list true 3 l3]]:=.one hT
  obtain⟨r,r1,r2⟩:=ty_agree _ hT' 5 ByteArray.empty 40 em (by omega) (by omega)
  have v:Ev (fun n=>F80 n 5 ByteArray.empty [.agg [.int .u8 z1,.str s2,.list true 3 l3]] 40) (bt&&decide ((mt:Int)+1≤39)):=by
   refine pre20 em (by omega) (by omega) (by omega) (fun h=>by rcases h with h | h | h | h<;>omega) (fun h=>by omega) (fun _ _=>.succ ?_)
   simp only[L80_6,Bool.false_eq_true,if_false,if_true,lenF,List.length_cons,List.length_nil,show ((0+1:Nat):Int)=1 from rfl,getF_zero,ds_t33,letF,show IntKind.i64.wrap (40 - 1)=39 by decide]
   exact Ev.bO1 (bt1 39 (by omega) (by omega)) .ret
  rw[r2.uniq v]at r1
  exact Ev.bO1 r1 .ret
 have q4:Ev (fun n=>F21 n z1 s2 l3) (bt&&decide ((mt:Int)+1≤40)):=by
  obtain⟨r,r1,r2⟩:=ty_agree l3 h3 z1 s2 40 hs2 (by omega) (by omega)
  rw[r2.uniq (bt1 40 (by omega) (by omega))]at r1
  exact Ev.bO1 r1 .ret
 refine Ev.bO1 q1 (Ev.bO1 q2 ?_)
 have half:Ev (fun n=>bO1 (F21 n (5:Int) ByteArray.empty ([.agg [.int .u8 z1,.str s2,.list true 3 l3]])) fun b24=>bO1 (F21 n z1 s2 l3) fun b25=>(if b25=true then (if (mt:Int)+1<(40:Int)then letB (b24==true) fun b26=>some b26 else letB (b24==false) fun b27=>some b27)else letB (b24==false) fun b28=>some b28)) true:=by
  refine Ev.bO1 q3 (Ev.bO1 q4 ?_)
  by_cases c:(mt:Int)+1<40
  ·simp only[if_pos c,decide_eq_true (show (mt:Int)+1≤40 by omega),decide_eq_true (show (mt:Int)+1≤39 by omega),Bool.and_true]
   cases bt<;>exact .ret
  ·simp only[if_neg c,decide_eq_false (show ¬(mt:Int)+1≤39 by omega),Bool.and_false]
   cases bt<;>cases decide ((mt:Int)+1≤40)<;>exact .ret
 by_cases c:(me:Int)+1<40
 ·simp only[if_pos c,decide_eq_true (show (me:Int)+1≤40 by omega),decide_eq_true (show (me:Int)+1≤39 by omega),Bool.and_true]
  cases be<;>cases lentB z4<;>exact half
 ·simp only[if_neg c,decide_eq_false (show ¬(me:Int)+1≤39 by omega),Bool.and_false]
  cases be<;>cases lentB z4<;>cases decide ((me:Int)+1≤40)<;>exact half
theorem tree_wrapped_trip:∀xs:List D,Shapes tab [33,39] xs→Trip Tryz.prog inv 5 (xs.map V1.d) [] (.v (.d (.bool true))) [] []:=by
 intro xs h
 match xs,h with
 | [u,v],⟨u1,u2,v1,v2,_⟩=>
  have hu:RowS tab 33 u:=⟨u1,u2⟩
  have hv:RowS tab 39 v:=⟨v1,v2⟩
  obtain⟨z1,s2,l3,rfl,w0,w1,w2⟩:=rs33 hu
  obtain⟨a0,a1,a2,a3,a4,a5,a6,a7,rfl,x0,x1,x2,x3,x4,x5,x6,_⟩:=rs39 hv
  obtain⟨n,hn⟩:=(wrapped w1 w2 w0 x0 x1 x2 x3 x4 x5 x6 hu hv).run
  exact T5 n hn
end Go.Proofs.YtjmofeakajdbiaaGreatDoor
namespace Go.Proofs.YtjmofeakajdbiaaGreatDoor
open Go Go.ChangeShapes Go.WideShapes Go.ChangeAt Go.RowKit Go.AM
theorem tree_wrapped_reads:∀t∈[33,39],Tryz.prog.readableRec t=true∧t<Tryz.prog.types.size:=by
 have h:([33,39].all fun t=>Tryz.prog.readableRec t&&decide (t<Tryz.prog.types.size))=true:=by kernel_rfl
 intro t ht
 have:=List.all_eq_true.1 h t ht
 simpa using this
theorem tree_wrapped_inv {W:World}(h:laidMet Tryz.prog Rows.treeWrappedRow.laid W):inv.at W fun _ _=>False:=by
 have e:(Rows.treeWrappedRow.laid.filter fun x=>x.1== "strings.asciiSpace")=[("strings.asciiSpace",Lib.tabData .u8 Lib.asciiSpaceTab)]:=by kernel_rfl
 have h2:=laidMet.filter (fun x=>x.1== "strings.asciiSpace") h
 rw[e]at h2
 have ht:Lib.TabIs Tryz.prog W "strings.asciiSpace" .u8 Lib.asciiSpaceTab:=by
  exact Lib.tabIs_of_head (g:=0) (t:=155) (e:=5) (n:=256) (by kernel_rfl) (by kernel_rfl) (by kernel_rfl) (by kernel_rfl) (by kernel_rfl) (by kernel_rfl) h2
 refine⟨ht,fun b hb=>⟨?_,fun _ h=>h⟩⟩
 have hb:Tryz.prog.globalNamed "strings.asciiSpace" =some b:=hb
 unfold Lib.TabIs World.var? at ht
 rw[hb]at ht
 simp only[Option.bind_some]at ht
 cases hx:W.heap[b]? with
 | none=>rw[hx]at ht;simp at ht
 | some o=>exact (Array.getElem?_eq_some_iff.1 hx).1
set_option maxRecDepth 100000 in
theorem tree_wrapped_lifted (os:Os) (started:os.Started) (H:Type) (enc:TypeId×Value→H):
  ReturnsInHanded {} Tryz.checked os 5 .any (fun w args=>(Rows.treeWrappedSpec.pre enc Tryz.prog Tryz.f5 Rows.treeWrappedRow.domain false w args∧laidMetH Tryz.prog Rows.treeWrappedRow.laid w)∧sizedMet enc Tryz.prog Tryz.f5 (OpenSpec.ofChange Rows.treeWrappedSpec) false w args)
   (Rows.treeWrappedSpec.post enc Tryz.prog Tryz.f5 false true false false):=by
 refine returnsInHanded_of_change_and (C:=Tryz.checked) (X:=fun w _=>laidMetH Tryz.prog Rows.treeWrappedRow.laid w) (fun _ _ _ hh h=>h.of_heap hh) (by kernel_rfl) started (by kernel_rfl) Tryz.func5
  (ChangeSpec.witness_shaped (enc:=enc) (C:=Tryz.checked) (os:=os) (X:=fun w _=>laidMetH Tryz.prog Rows.treeWrappedRow.laid w) false (World.laidAll Tryz.prog os Rows.treeWrappedRow.laid) #[.agg #[.int .u8 0,.string ⟨#[]⟩,.slice none 0 0],.agg #[.int .u8 0,.int .i64 0,.string ⟨#[]⟩,.string ⟨#[]⟩,.string ⟨#[]⟩,.slice none 0 0,.slice none 0 0,.int .i64 0]] 8 (World.laidAll_os _ _ _)
   (World.shaped_of_ZipB (by kernel_rfl) (by kernel_rfl)) (by kernel_rfl) (by kernel_rfl) (by kernel_rfl)
   (by rw[MakeChecks.laidMetH_plain _ _ _ (by kernel_rfl)];exact laidMet_laidAll _ (by kernel_rfl) (by kernel_rfl))) ?_
 intro W base args ds gs before hval0 hW _ _ hL _
 rw[MakeChecks.laidMetH_plain _ _ _ (by kernel_rfl)]at hL
 refine law_calls (ti:=tab) (T:=[2,3,5,9,31,33,34,36,37,39]) tab_ok (by kernel_rfl) (ts:=[33,39]) (bt:=4) rfl rfl rfl (by kernel_rfl) (by decide) ?_ (by kernel_rfl) tree_wrapped_reads tree_wrapped_trip (tree_wrapped_inv hL) hval0 hW
 intro ds h
 match ds,h with
 | [_,_],_=>exact⟨rfl,rfl,rfl⟩
theorem tree_wrapped_row:Rows.TreeWrappedSaid:=
 OpenClaim.holds_of_wide 5 Tryz.f5 rfl rfl rfl rfl rfl rfl rfl ⟨rfl,rfl,rfl,rfl,rfl⟩ rfl rfl rfl rfl rfl (by kernel_rfl) Tryz.func5 (by kernel_rfl)
  (of_decide_eq_true (by kernel_rfl)) (by unfold Func.isWrapper;first | (rw[if_pos (by decide+kernel)];kernel_rfl) | (rw[if_neg (by decide+kernel)];exact⟨rfl,rfl⟩))
  (fun os started H enc _=>tree_wrapped_lifted os started H enc)
theorem tree_wrapped:Rows.TreeWrappedCardSaid:=
 Claim7.holds_tied_plain_at .later [] [.listed,.data] true Rows.treeWrappedCard.stood.harness false tree_wrapped_row (fun _ h=>by cases h) (by kernel_rfl) (fun _ h=>by cases h) treeWrapped_row_tie rfl ⟨rfl,rfl⟩ (by kernel_rfl) rfl
  (fun f fn hf hfn=>by
   obtain rfl:f=5:=Option.some.inj ((show Tryz.prog.funcNamed "weftway/weftwaylaw03.TreeWrapped" =some 5 by kernel_rfl).symm.trans hf) |>.symm
   obtain rfl:fn=Tryz.f5:=(Option.some.inj (Tryz.func5.symm.trans hfn)).symm
   exact⟨by kernel_rfl,fun j t ht=>by
    have hm:t∈[33,39]:=by
     have hp:Tryz.f5.params.toList=[33,39]:=rfl
     rw[←hp];simpa using Array.mem_of_getElem? ht
    have hall:([33,39].all fun u=>!Tryz.prog.wantsStandIn u)=true:=by kernel_rfl
    exact (show Tryz.prog.wantsStandIn t=false by simpa using List.all_eq_true.1 hall t hm)⟩)
  (by kernel_rfl)
end Go.Proofs.YtjmofeakajdbiaaGreatDoor
