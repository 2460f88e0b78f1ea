/- TreeWhole. No condition. (Part 7.) -/
import Derived.Test.YtjmofeakajdbiaaGreatDoorRows
import Derived.Test.YtjmofeakajdbiaaGreatDoorTie
import Derived.Test.YtjmofeakajdbiaaGreatDoorCards
import Derived.ChangeSame
import Derived.JoinedOf
import Derived.JoinedAt
import Derived.RowKit
import Derived.RowKit2
import Derived.ReadAgain
import Derived.ChangeAlike
import Derived.Lay
import Derived.Handed
import Derived.LaidSub
import Derived.LaidLaws
import Derived.LaidHandle
import Derived.MakeChecks
import Derived.SevenTiedAt
import Derived.Lib.LaidTab
import Derived.Lib.LaidU8
import Derived.Test.YtjmofeakajdbiaaGreatDoorWhoF
set_option linter.unusedVariables false
set_option linter.unusedSimpArgs false
set_option linter.unusedVariables false
noncomputable section
namespace Go.Proofs.YtjmofeakajdbiaaGreatDoor
open Go Go.AM
theorem Ut {γ:Type}{b:Nat}{L M:List D}{k:List D→Option γ}(h:L.length+M.length≤10000) (hb:b≤1000):Hp b L M k=k (L++M):=by
 have hM:10000<maxLen:=by decide
 have h2:(L.length+M.length)*b≤10000*1000:=Nat.mul_le_mul h hb
 unfold Hp
 rw[if_pos ⟨by omega,by omega⟩]
theorem Pr {l:List D}(hl:l.length≤4000) (s:ByteArray):Ev (fun n=>gR n s l) (s,l):=by
 unfold gR
 have ha:∀{γ:Type} (k:List D→Option γ),Hp 16 ([]:List D) l k=k l:=fun k=>Ut (by simp only[List.length_nil];omega) (by omega)
 simp only[ha]
 exact .ret
theorem mH {l:List D}{i:Nat}{x:D}(h:l[i]?=some x):l.take (i+1)=l.take i++[x]:=by rw[List.take_add_one,h];rfl
def mI (l:List D):Prop:=l.length≤4000∧∀(s:ByteArray) (k:Int) (t:ByteArray) (m:List D),D.agg [.str s,.int .u8 k,.str t,.list true 3 m]∈l→RI m
theorem Ye {l:List D}(h:AK Ap 74 l):∀z:Int,-6≤z→z≤20000→∃r,Ev (fun n=>gN n l z) r∧ -6≤r∧r≤20000∧(0≤r→r≤z∧mI l):=by
 have loop:∀i:Nat,i≤l.length→∀z:Int,-6≤z→z≤20000→∃r,Ev (fun n=>HW n l (i:Int) z) r∧ -6≤r∧r≤20000∧(0≤r→r+5*((l.length:Int) - (i:Int))≤z∧∀(j:Nat) (s:ByteArray) (k:Int) (t:ByteArray) (m:List D),i≤j→l[j]?=some (.agg [.str s,.int .u8 k,.str t,.list true 3 m])→RI m):=by
  refine down l.length ?_ ?_
  ·intro z h1 h2
   refine⟨z,.succ ?_,h1,h2,fun _=>⟨by omega,fun j s k t m hj hx=>absurd (List.getElem?_eq_some_iff.1 hx).1 (by omega)⟩⟩
   simp only[HW,AB,Int.lt_irrefl,if_false]
   exact .succ (by simp only[H9,Bool.false_eq_true,if_false];exact .ret)
  ·intro i hi ih z h1 h2
   by_cases c:(0:Int)≤z
   ·obtain⟨x,hx,hm,hr⟩:=h.get hi
    obtain⟨a0,a1,a2,a3,rfl,w0,w1,w2,w3⟩:=Wm hr
    obtain⟨p1,p2,p3,p4,p5⟩:=Ey a0 z h1 h2
    obtain⟨u1,u2,u3,u4,u5⟩:=RJ a3 w3 a1 a2 p1 (by omega) p4
    obtain⟨r,r1,r2,r3,r4⟩:=ih u1 u3 u4
    refine⟨r,.succ ?_,r2,r3,fun hr0=>?_⟩
    ·simp only[HW,AB,if_pos (CT hi),if_pos c]
     refine .succ ?_
     simp only[H9,if_true,AG hx,Bl]
     refine Ev.bO1 p2 (Ev.bO1 u2 ?_)
     simp only[AE,AF hi h.1]
     exact r1
    ·obtain⟨x1,x2⟩:=r4 hr0
     obtain⟨u6,u7⟩:=u5 (by omega)
     have:=p5 (by omega)
     refine⟨by omega,fun j s k t m' hj hx'=>?_⟩
     by_cases e:j=i
     ·subst e;rw[hx]at hx';cases hx';exact u7
     ·exact x2 j s k t m' (by omega) hx'
   ·refine⟨z,.succ ?_,h1,h2,fun h=>absurd h c⟩
    simp only[HW,AB,if_pos (CT hi),if_neg c]
    exact .succ (by simp only[H9,Bool.false_eq_true,if_false];exact .ret)
 intro z h1 h2
 obtain⟨r,r1,r2,r3,r4⟩:=loop 0 (Nat.zero_le _) z h1 h2
 refine⟨r,(by unfold gN;exact r1),r2,r3,fun hr=>?_⟩
 obtain⟨x1,x2⟩:=r4 hr
 refine⟨by omega,by omega,fun s k t m hm=>?_⟩
 obtain⟨j,hj⟩:=List.getElem?_of_mem hm
 exact x2 j s k t m (Nat.zero_le _) hj
theorem fJ {l:List D}(h:AK Ap 45 l):∃b,Ev (fun n=>F8 n l) b∧(b=false→l.length≤4000∧∀(a0:Int) (a1:ByteArray) (a2:List D) (a3:Int) (a4:ByteArray) (a5 a6:List D) (a7 a8:Int) (a9 a10 a11:ByteArray) (a12 a13:List D) (a14 a15:Int),D.agg [.int .u8 a0,.str a1,.list true 4 a2,.int .u8 a3,.str a4,.list true 3 a5,.list true 15 a6,.int .u8 a7,.int .i64 a8,.str a9,.str a10,.str a11,.list false 1 a12,.list true 8 a13,.int .i64 a14,.int .i64 a15]∈l→mI a2∧RI a5∧RQ a6∧a12.length≤4000∧RO a13):=by
 have loop:∀i:Nat,i≤l.length→∀z:Int,-6≤z→z≤20000→∃b,Ev (fun n=>Nb n l (i:Int) z) b∧(b=false→5*((l.length:Int) - (i:Int))≤z∧∀(j:Nat) (a0:Int) (a1:ByteArray) (a2:List D) (a3:Int) (a4:ByteArray) (a5 a6:List D) (a7 a8:Int) (a9 a10 a11:ByteArray) (a12 a13:List D) (a14 a15:Int),i≤j→l[j]?=some (.agg [.int .u8 a0,.str a1,.list true 4 a2,.int .u8 a3,.str a4,.list true 3 a5,.list true 15 a6,.int .u8 a7,.int .i64 a8,.str a9,.str a10,.str a11,.list false 1 a12,.list true 8 a13,.int .i64 a14,.int .i64 a15])→mI a2∧RI a5∧RQ a6∧a12.length≤4000∧RO a13):=by
  have t_end:∀(z2 z:Int),Ev (fun n=>OA n l z2 z false) (decide (z<0)):=by
   intro z2 z
   refine .succ ?_
   simp only[OA,Bool.false_eq_true,if_false]
   by_cases c:z<0
   ·simp only[if_pos c,decide_eq_true c];exact .ret
   ·simp only[if_neg c,decide_eq_false c];exact .ret
  refine down l.length ?_ ?_
  ·intro z h1 h2
   refine⟨decide (z<0),.succ ?_,fun hb=>⟨by have:=of_decide_eq_false hb;omega,fun j _ _ _ _ _ _ _ _ _ _ _ _ _ _ _ _ hj hx=>absurd (List.getElem?_eq_some_iff.1 hx).1 (by omega)⟩⟩
   simp only[Nb,AB,Int.lt_irrefl,if_false]
   exact t_end _ _
  ·intro i hi ih z h1 h2
   by_cases c:(0:Int)≤z
   ·obtain⟨x,hx,hm,hr⟩:=h.get hi
    obtain⟨a0,a1,a2,a3,a4,a5,a6,a7,a8,a9,a10,a11,a12,a13,a14,a15,rfl,w0,w1,w2,w3,w4,w5,w6,w7,w8,w9,w10,w11,w12,w13,w14,w15⟩:=Un hr
    obtain⟨p1,p2,p3,p4,p5⟩:=Ey a1 z h1 h2
    obtain⟨q1,q2,q3,q4,q5⟩:=Ye w2 p1 (by omega) p4
    obtain⟨u1,u2,u3,u4,u5⟩:=RJ a5 w5 a3 a4 q1 q3 q4
    obtain⟨v1,v2,v3,v4,v5⟩:=Z4 a6 w6 u1 u3 u4
    obtain⟨y1,y2,y3,y4,y5⟩:=To a13 w13 a7 a8 a9 a10 a11 a12 a14 v1 w12 v3 v4
    obtain⟨b,b1,b2⟩:=ih y1 y3 y4
    refine⟨b,.succ ?_,fun hb=>?_⟩
    ·simp only[Nb,AB,if_pos (CT hi),if_pos c]
     refine .succ ?_
     simp only[OA,if_true,AG hx,Bd]
     refine Ev.bO1 p2 (Ev.bO1 q2 (Ev.bO1 u2 (Ev.bO1 v2 (Ev.bO1 y2 ?_))))
     simp only[AE,AF hi h.1]
     exact b1
    ·obtain⟨x1,x2⟩:=b2 hb
     obtain⟨g1,g1',g1''⟩:=y5 (by omega)
     obtain⟨g2,g3⟩:=v5 (by omega)
     obtain⟨g4,g4'⟩:=u5 (by omega)
     obtain⟨g5,g6⟩:=q5 (by omega)
     have g7:=p5 (by omega)
     refine⟨by omega,fun j _ _ _ _ _ _ _ _ _ _ _ _ _ _ _ _ hj hx'=>?_⟩
     by_cases e:j=i
     ·subst e;rw[hx]at hx';cases hx';exact⟨g6,g4',g3,g1',g1''⟩
     ·exact x2 j _ _ _ _ _ _ _ _ _ _ _ _ _ _ _ _ (by omega) hx'
   ·refine⟨decide (z<0),.succ ?_,fun hb=>absurd (of_decide_eq_false hb) (by omega)⟩
    simp only[Nb,AB,if_pos (CT hi),if_neg c]
    exact t_end _ _
 obtain⟨b,b1,b2⟩:=loop 0 (Nat.zero_le _) 20000 (by omega) (by omega)
 refine⟨b,(by unfold F8;exact b1),fun hb=>⟨by have:=(b2 hb).1;omega,fun _ _ _ _ _ _ _ _ _ _ _ _ _ _ _ _ hx=>?_⟩⟩
 obtain⟨j,hj⟩:=List.getElem?_of_mem hx
 exact (b2 hb).2 j _ _ _ _ _ _ _ _ _ _ _ _ _ _ _ _ (Nat.zero_le _) hj
theorem fK {l:List D}(hl:l.length≤4000) {i b:Nat}{x:D}(hb:b≤1000) {γ:Type}(k:List D→Option γ) (hx:l[i]?=some x):Hp b (l.take i) [x] k=k (l.take (i+1)):=by
 rw[mH hx]
 exact Ut (by simp only[List.length_take,List.length_cons,List.length_nil];omega) hb
theorem Yf (l:List D):AK Ap 33 l→RI l→∀z s,Ev (fun n=>Z5 n z s l) (z,s,l):=by
 refine Bt (P:=fun l=>AK Ap 33 l→RI l→∀z s,Ev (fun n=>Z5 n z s l) (z,s,l)) (fun l ih h hs z s=>?_) l
 have loop:∀i:Nat,i≤l.length→Ev (fun n=>IE n z s l (i:Int) (l.take i)) (z,s,l):=by
  refine down l.length (.succ ?_) (fun i hi ihl=>.succ ?_)
  ·simp only[IE,AB,Int.lt_irrefl,if_false,List.take_length]
   exact .succ (by simp only[Jn,Bool.false_eq_true,if_false];exact .ret)
  ·obtain⟨x,hx,hm,hr⟩:=h.get hi
   obtain⟨a0,a1,a2,rfl,_,_,w2⟩:=YK hr
   simp only[IE,AB,if_pos (CT hi)]
   refine .succ ?_
   simp only[Jn,if_true,AG hx,CM]
   refine Ev.bO3 (ih a2 (Au (ag:=true) (sz:=3) hm (by simp)) w2 (hs.row hm) a0 a1) ?_
   simp only[fK hs.len (show 48≤1000 by decide) _ hx,AE,AF hi h.1]
   exact ihl
 refine .succ ?_
 simp only[Z5]
 exact loop 0 (Nat.zero_le _)
theorem bX (l:List D):AK Ap 39 l→RO l→∀(z1 z2:Int) (s3 s4 s5:ByteArray) (l6:List D) (z8:Int),l6.length≤4000→Ev (fun n=>bW n z1 z2 s3 s4 s5 l6 l z8 true) (z1,z2,s3,s4,s5,l6,l,z8):=by
 refine Bt (P:=fun l=>AK Ap 39 l→RO l→∀(z1 z2:Int) (s3 s4 s5:ByteArray) (l6:List D) (z8:Int),l6.length≤4000→Ev (fun n=>bW n z1 z2 s3 s4 s5 l6 l z8 true) (z1,z2,s3,s4,s5,l6,l,z8)) (fun l ih h hs z1 z2 s3 s4 s5 l6 z8 h6=>?_) l
 have loop:∀i:Nat,i≤l.length→Ev (fun n=>IH n z1 z2 s3 s4 l z8 true s5 l6 (i:Int) (l.take i)) (z1,z2,s3,s4,s5,l6,l,z8):=by
  refine down l.length (.succ ?_) (fun i hi ihl=>.succ ?_)
  ·simp only[IH,AB,Int.lt_irrefl,if_false,List.take_length]
   refine .succ ?_
   simp only[Jp,Bool.false_eq_true,if_false,AI,Bool.not_true]
   exact .succ (by simp only[LV];exact .ret)
  ·obtain⟨x,hx,hm,hr⟩:=h.get hi
   obtain⟨a0,a1,a2,a3,a4,a5,a6,a7,rfl,w0,_,w2,w3,w4,w5,w6,_⟩:=NM hr
   obtain⟨g1,g2⟩:=hs.row hm
   simp only[IH,AB,if_pos (CT hi)]
   refine .succ ?_
   simp only[Jp,if_true,AG hx,Ao]
   refine Ev.bO8 (ih a6 (Au (ag:=true) (sz:=8) hm (by simp)) w6 g2 a0 a1 a2 a3 a4 a5 a7 g1) ?_
   simp only[fK hs.len (show 120≤1000 by decide) _ hx,AE,AF hi h.1]
   exact ihl
 refine .succ ?_
 simp only[bW]
 exact Ev.bO2 (Pr h6 s5) (loop 0 (Nat.zero_le _))
theorem mJ (l:List D):AK Ap 50 l→RQ l→Ev (fun n=>Z6 n l true) l:=by
 refine Bt (P:=fun l=>AK Ap 50 l→RQ l→Ev (fun n=>Z6 n l true) l) (fun l ih h hs=>?_) l
 have loop:∀i:Nat,i≤l.length→Ev (fun n=>II n l true (l.take i) (i:Int)) l:=by
  refine down l.length (.succ ?_) (fun i hi ihl=>.succ ?_)
  ·simp only[II,AB,Int.lt_irrefl,if_false,List.take_length]
   exact .succ (by simp only[Jq,Bool.false_eq_true,if_false];exact .ret)
  ·obtain⟨x,hx,hm,hr⟩:=h.get hi
   obtain⟨a0,a1,a2,a3,a4,a5,a6,a7,a8,a9,a10,a11,a12,a13,a14,rfl,w0,w1,w2,w3,w4,w5,w6,w7,w8,w9,w10,w11,w12,w13,w14⟩:=N9 hr
   obtain⟨g3,g6,g9,g10,g11,g12,g13,g14⟩:=hs.sh hm
   have ha:∀{γ:Type} (k:List D→Option γ),Hp 16 ([]:List D) a3 k=k a3:=fun k=>Ut (by simp only[List.length_nil];omega) (by omega)
   have k7:Ev (fun n=>Jt n l true (l.take i) (i:Int) a0 a1 a2 a7 a3 a4 a5 a6 a8 a9 a10 a11 a12 a13 a14) l:=by
    refine .succ ?_
    simp only[Jt,fK hs.len (show 264≤1000 by decide) _ hx,AE,AF hi h.1]
    exact ihl
   have k5:∀j:Nat,j≤a13.length→Ev (fun n=>IK n l true (l.take i) (i:Int) a0 a1 a2 a7 a14 a3 a4 a5 a6 a8 a9 a10 a11 a12 (j:Int) (a13.take j)) l:=by
    refine down a13.length (.succ ?_) (fun j hj ihj=>.succ ?_)
    ·simp only[IK,AG hx,Af,AB,Int.lt_irrefl,if_false,List.take_length]
     refine .succ ?_
     simp only[Js,Bool.false_eq_true,if_false,AI,Bool.not_true]
     exact k7
    ·obtain⟨y,hy,hym,hyr⟩:=w13.get hj
     obtain⟨t1,t2,m,rfl,_,_,wm⟩:=NN hyr
     simp only[IK,AG hx,Af,AB,if_pos (CT hj)]
     refine .succ ?_
     simp only[Js,if_true,AG hx,Af,AG hy,Be]
     refine Ev.bO1 (ih m (Nat.lt_trans (Au (ag:=true) (sz:=15) hym (by simp)) (Au (ag:=true) (sz:=3) hm (by simp))) wm (g14 _ _ _ hym)) ?_
     simp only[fK g13 (show 56≤1000 by decide) _ hy,AE,AF hj w13.1]
     exact ihj
   have k3:∀j:Nat,j≤a10.length→Ev (fun n=>IJ n l true (l.take i) (i:Int) a0 a1 a2 a7 a14 a3 a4 a5 a6 a8 a9 (j:Int) (a10.take j)) l:=by
    refine down a10.length (.succ ?_) (fun j hj ihj=>.succ ?_)
    ·simp only[IJ,AG hx,Af,AB,Int.lt_irrefl,if_false,List.take_length]
     refine .succ ?_
     simp only[Jr,Bool.false_eq_true,if_false,AG hx,Af]
     refine Ev.bO1 (ih a11 (Au (ag:=true) (sz:=15) hm (by simp)) w11 g11) (Ev.bO1 (ih a12 (Au (ag:=true) (sz:=15) hm (by simp)) w12 g12) ?_)
     exact k5 0 (Nat.zero_le _)
    ·obtain⟨y,hy,hym,hyr⟩:=w10.get hj
     obtain⟨b0,b1,b2,b3,b4,b5,b6,b7,rfl,v0,_,v2,v3,v4,v5,v6,_⟩:=NM hyr
     obtain⟨u1,u2⟩:=g10.row hym
     simp only[IJ,AG hx,Af,AB,if_pos (CT hj)]
     refine .succ ?_
     simp only[Jr,if_true,AG hx,Af,AG hy,Ao]
     refine Ev.bO8 (bX b6 v6 u2 b0 b1 b2 b3 b4 b5 b7 u1) ?_
     simp only[fK g10.len (show 120≤1000 by decide) _ hy,AE,AF hj w10.1]
     exact ihj
   simp only[II,AB,if_pos (CT hi)]
   refine .succ ?_
   simp only[Jq,if_true,AG hx,Af,ha]
   refine Ev.bO3 (Yf a6 w6 g6 a4 a5) (Ev.bO2 (Pr g9 a8) ?_)
   exact k3 0 (Nat.zero_le _)
 refine .succ ?_
 simp only[Z6]
 exact loop 0 (Nat.zero_le _)
theorem fL {l:List D}(h:AK Ap 74 l) (hs:mI l):Ev (fun n=>mG n l) l:=by
 have loop:∀i:Nat,i≤l.length→Ev (fun n=>IG n l (l.take i) (i:Int)) l:=by
  refine down l.length (.succ ?_) (fun i hi ihl=>.succ ?_)
  ·simp only[IG,AB,Int.lt_irrefl,if_false,List.take_length]
   exact .succ (by simp only[Jo,Bool.false_eq_true,if_false];exact .ret)
  ·obtain⟨x,hx,hm,hr⟩:=h.get hi
   obtain⟨a0,a1,a2,a3,rfl,_,_,_,w3⟩:=Wm hr
   simp only[IG,AB,if_pos (CT hi)]
   refine .succ ?_
   simp only[Jo,if_true,AG hx,Bl]
   refine Ev.bO3 (Yf a3 w3 (hs.2 _ _ _ _ hm) a1 a2) ?_
   simp only[fK hs.1 (show 64≤1000 by decide) _ hx,AE,AF hi h.1]
   exact ihl
 unfold mG
 exact loop 0 (Nat.zero_le _)
theorem Z7 {l:List D}(h:AK Ap 45 l) (hl:l.length≤4000) (hs:∀(a0:Int) (a1:ByteArray) (a2:List D) (a3:Int) (a4:ByteArray) (a5 a6:List D) (a7 a8:Int) (a9 a10 a11:ByteArray) (a12 a13:List D) (a14 a15:Int),D.agg [.int .u8 a0,.str a1,.list true 4 a2,.int .u8 a3,.str a4,.list true 3 a5,.list true 15 a6,.int .u8 a7,.int .i64 a8,.str a9,.str a10,.str a11,.list false 1 a12,.list true 8 a13,.int .i64 a14,.int .i64 a15]∈l→mI a2∧RI a5∧RQ a6∧a12.length≤4000∧RO a13):Ev (fun n=>F9 n l true) l:=by
 have loop:∀i:Nat,i≤l.length→Ev (fun n=>OB n l true (i:Int) (l.take i)) l:=by
  refine down l.length (.succ ?_) (fun i hi ihl=>.succ ?_)
  ·simp only[OB,AB,Int.lt_irrefl,if_false,List.take_length]
   exact .succ (by simp only[RK,Bool.false_eq_true,if_false];exact .ret)
  ·obtain⟨x,hx,hm,hr⟩:=h.get hi
   obtain⟨a0,a1,a2,a3,a4,a5,a6,a7,a8,a9,a10,a11,a12,a13,a14,a15,rfl,w0,w1,w2,w3,w4,w5,w6,w7,w8,w9,w10,w11,w12,w13,w14,w15⟩:=Un hr
   obtain⟨g1,g2,g3,g4,g5⟩:=hs _ _ _ _ _ _ _ _ _ _ _ _ _ _ _ _ hm
   simp only[OB,AB,if_pos (CT hi)]
   refine .succ ?_
   simp only[RK,if_true,AG hx,Bd]
   refine Ev.bO1 (fL w2 g1) (Ev.bO3 (Yf a5 w5 g2 a3 a4) (Ev.bO1 (mJ a6 w6 g3) (Ev.bO8 (bX a13 w13 g5 a7 a8 a9 a10 a11 a12 a14 g4) ?_)))
   simp only[AI,Bool.not_true,Bool.false_eq_true,if_false]
   refine .succ ?_
   simp only[Tp,fK hl (show 248≤1000 by decide) _ hx,AE,AF hi h.1]
   exact ihl
 unfold F9
 exact loop 0 (Nat.zero_le _)
end Go.Proofs.YtjmofeakajdbiaaGreatDoor
end
set_option maxRecDepth 100000
set_option maxHeartbeats 40000000
set_option linter.unusedVariables false
noncomputable section
namespace Go.Proofs.YtjmofeakajdbiaaGreatDoor
open Go Go.AM
def F3 (n:Nat) (l1:LD):Option (Bool):=
 bO1 (F8 n l1) fun b2=>(if b2=true then some true else bO1 (F9 n l1 true) fun l3=>bO1 (kA n l3) fun b4=>bO1 (lR n l1) fun b5=>AI (b4==b5) fun b6=>(if b6=true then bO1 (mX n l3) fun z7=>bO1 (nA n l1) fun z8=>(if z7=z8 then bO1 (mY n l3) fun z9=>bO1 (nC n l1) fun z10=>(if z9=z10 then bO1 (nD n l3 l1 true) fun b11=>some b11 else some false)else some false)else some false))
noncomputable def X3:BS:=⟨3,Tryz.f3,[.agg [.q 16]],[],⟨.one (.b),[],[]⟩,Bool,inferInstance,F3,[]⟩
noncomputable def k3:Kz:=sg X3 [wC,xO,gH,yM,wW,yR,zD,k8,k9] Tryz.func3 (by kernel_rfl) (by kernel_rfl) (by kernel_rfl)
theorem T3 (n:Nat):∀⦃l1 r1⦄,F3 n l1=some r1->
  BB Tryz.prog inv 3 [.d (.agg [.list true 16 l1])] [] (.v (.d (.bool r1))) [] []:=fun l1 r1 h=>k3.ok n [.L l1] _ h _ _ _ _ _ _ rfl rfl rfl rfl _ rfl
end Go.Proofs.YtjmofeakajdbiaaGreatDoor
end
set_option linter.unusedVariables false
noncomputable section
namespace Go.Proofs.YtjmofeakajdbiaaGreatDoor
open Go Go.AM
theorem Ws {l:List D}(h:AK Ap 45 l):Ev (fun n=>F3 n l) true:=by
 unfold F3
 obtain⟨b,g1,g2⟩:=fJ h
 obtain⟨b',k1,k2⟩:=YZ h
 obtain rfl:=Ev.uniq g1 k1
 refine Ev.bO1 g1 ?_
 cases b with
 | true=>simp only[if_true];exact .ret
 | false=>
  simp only[Bool.false_eq_true,if_false]
  obtain⟨lp,sp⟩:=g2 rfl
  obtain⟨_,fp⟩:=k2 rfl
  have c3:=Z7 h lp sp
  obtain⟨w,w1,w2⟩:=TP h
  obtain⟨d,d1,d2⟩:=Ya h fp
  obtain⟨s,s1,s2⟩:=Zx h
  refine Ev.bO1 c3 (Ev.bO1 w1 (Ev.bO1 w2 ?_))
  simp only[AI]
  rw[show (w==w)=true by cases w<;>rfl]
  simp only[if_true]
  refine Ev.bO1 d1 (Ev.bO1 d2 ?_)
  simp only[if_true]
  refine Ev.bO1 s1 (Ev.bO1 s2 ?_)
  simp only[if_true]
  exact Ev.bO1 (Wr h) .ret
theorem Lh:∀xs:List D,Ip Ap [24] xs→BB Tryz.prog inv 3 (xs.map V1.d) [] (.v (.d (.bool true))) [] []:=by
 intro xs h
 match xs,h with
 | [u],⟨u1,u2,_⟩=>
  obtain⟨p,rfl,hp⟩:=pW ⟨u1,u2⟩
  obtain⟨n,hn⟩:=(Ws hp).run
  exact T3 n hn
end Go.Proofs.YtjmofeakajdbiaaGreatDoor
end
namespace Go.Proofs.YtjmofeakajdbiaaGreatDoor
open Go Go.ChangeShapes Go.WideShapes Go.ChangeAt Go.RowKit Go.AM
theorem Kj:∀t∈[24],Tryz.prog.readableRec t=true∧t<Tryz.prog.types.size:=by
 have h:([24].all fun t=>Tryz.prog.readableRec t&&decide (t<Tryz.prog.types.size))=true:=by kernel_rfl
 intro t ht
 have:=List.all_eq_true.1 h t ht
 simpa using this
theorem Nq {W:World}(h:laidMet Tryz.prog Rows.treeWholeRow.laid W):inv.at W fun _ _=>False:=by
 have e:(Rows.treeWholeRow.laid.filter fun x=>x.1== "strings.asciiSpace")=[("strings.asciiSpace",Lib.tabData .u8 Lib.asciiSpaceTab)]:=by kernel_rfl
 have h2:=laidMet.filter (fun x=>x.1== "strings.asciiSpace") h
 rw[e]at h2
 have ht:Lib.TabIs Tryz.prog W "strings.asciiSpace" .u8 Lib.asciiSpaceTab:=by
  exact Lib.tabIs_of_head (g:=0) (t:=155) (e:=5) (n:=256) (by kernel_rfl) (by kernel_rfl) (by kernel_rfl) (by kernel_rfl) (by kernel_rfl) (by kernel_rfl) h2
 refine⟨ht,fun b hb=>⟨?_,fun _ h=>h⟩⟩
 have hb:Tryz.prog.globalNamed "strings.asciiSpace" =some b:=hb
 unfold Lib.TabIs World.var? at ht
 rw[hb]at ht
 simp only[Option.bind_some]at ht
 cases hx:W.heap[b]? with
 | none=>rw[hx]at ht;simp at ht
 | some o=>exact (Array.getElem?_eq_some_iff.1 hx).1
set_option maxRecDepth 100000 in
theorem Ju (os:Os) (started:os.Started) (H:Type) (enc:TypeId×Value→H):
  ReturnsInHanded {} Tryz.checked os 3 .any (fun w args=>(Rows.treeWholeSpec.pre enc Tryz.prog Tryz.f3 Rows.treeWholeRow.domain false w args∧laidMetH Tryz.prog Rows.treeWholeRow.laid w)∧sizedMet enc Tryz.prog Tryz.f3 (OpenSpec.ofChange Rows.treeWholeSpec) false w args)
   (Rows.treeWholeSpec.post enc Tryz.prog Tryz.f3 false true false false):=by
 refine returnsInHanded_of_change_and (C:=Tryz.checked) (X:=fun w _=>laidMetH Tryz.prog Rows.treeWholeRow.laid w) (fun _ _ _ hh h=>h.of_heap hh) (by kernel_rfl) started (by kernel_rfl) Tryz.func3
  (ChangeSpec.witness_shaped (enc:=enc) (C:=Tryz.checked) (os:=os) (X:=fun w _=>laidMetH Tryz.prog Rows.treeWholeRow.laid w) false (World.laidAll Tryz.prog os Rows.treeWholeRow.laid) #[.agg #[.slice none 0 0]] 8 (World.laidAll_os _ _ _)
   (World.shaped_of_ZipB (by kernel_rfl) (by kernel_rfl)) (by kernel_rfl) (by kernel_rfl) (by kernel_rfl)
   (by rw[MakeChecks.laidMetH_plain _ _ _ (by kernel_rfl)];exact laidMet_laidAll _ (by kernel_rfl) (by kernel_rfl))) ?_
 intro W base args ds gs before hval0 hW _ _ hL _
 rw[MakeChecks.laidMetH_plain _ _ _ (by kernel_rfl)]at hL
 refine Wn (ti:=Ap) (T:=[2,3,5,9,22,24,31,33,34,36,37,39,42,43,45,48,50,74,95]) BU (by kernel_rfl) (ts:=[24]) (bt:=4) rfl rfl rfl (by kernel_rfl) (by decide) ?_ (by kernel_rfl) Kj Lh (Nq hL) hval0 hW
 intro ds h
 match ds,h with
 | [_],_=>exact⟨rfl,rfl,rfl⟩
theorem Nr:Rows.TreeWholeSaid:=
 OpenClaim.holds_of_wide 3 Tryz.f3 rfl rfl rfl rfl rfl rfl rfl ⟨rfl,rfl,rfl,rfl,rfl⟩ rfl rfl rfl rfl rfl (by kernel_rfl) Tryz.func3 (by kernel_rfl)
  (of_decide_eq_true (by kernel_rfl)) (by unfold Func.isWrapper;first | (rw[if_pos (by decide+kernel)];kernel_rfl) | (rw[if_neg (by decide+kernel)];exact⟨rfl,rfl⟩))
  (fun os started H enc _=>Ju os started H enc)
theorem tree_whole:Rows.TreeWholeCardSaid:=
 Claim7.holds_tied_plain_at .later [] [.listed,.data] true Rows.treeWholeCard.stood.harness false Nr (fun _ h=>by cases h) (by kernel_rfl) (fun _ h=>by cases h) treeWhole_row_tie rfl ⟨rfl,rfl⟩ (by kernel_rfl) rfl
  (fun f fn hf hfn=>by
   obtain rfl:f=3:=Option.some.inj ((show Tryz.prog.funcNamed "weftway/weftwaylaw03.TreeWhole" =some 3 by kernel_rfl).symm.trans hf) |>.symm
   obtain rfl:fn=Tryz.f3:=(Option.some.inj (Tryz.func3.symm.trans hfn)).symm
   exact⟨by kernel_rfl,fun j t ht=>by
    have hm:t∈[24]:=by
     have hp:Tryz.f3.params.toList=[24]:=rfl
     rw[←hp];simpa using Array.mem_of_getElem? ht
    have hall:([24].all fun u=>!Tryz.prog.wantsStandIn u)=true:=by kernel_rfl
    exact (show Tryz.prog.wantsStandIn t=false by simpa using List.all_eq_true.1 hall t hm)⟩)
  (by kernel_rfl)
end Go.Proofs.YtjmofeakajdbiaaGreatDoor
