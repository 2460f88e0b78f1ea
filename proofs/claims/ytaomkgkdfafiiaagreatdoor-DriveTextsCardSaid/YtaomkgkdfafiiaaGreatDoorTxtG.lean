/- DriveTexts. No condition. (Part 7.) -/
import Derived.Test.YtaomkgkdfafiiaaGreatDoorRows
import Derived.Test.YtaomkgkdfafiiaaGreatDoorTie
import Derived.Test.YtaomkgkdfafiiaaGreatDoorCards
import Derived.ChangeSame
import Derived.JoinedOf
import Derived.JoinedAt
import Derived.RowKit
import Derived.RowKit2
import Derived.ReadAgain
import Derived.ChangeAlike
import Derived.Lay
import Derived.Handed
import Derived.LaidSub
import Derived.LaidLaws
import Derived.LaidHandle
import Derived.MakeChecks
import Derived.SevenTiedAt
import Derived.Lib.LaidTab
import Derived.Lib.LaidU8
import Derived.Test.YtaomkgkdfafiiaaGreatDoorTxtF
set_option linter.unusedVariables false
set_option linter.unusedSimpArgs false
set_option linter.unusedVariables false
noncomputable section
namespace Go.Proofs.YtaomkgkdfafiiaaGreatDoor
open Go Go.AM
theorem pE {i N:Nat}(h:i<N):(i:Int)<(N:Int):=Int.ofNat_lt.2 h
abbrev aV (z:Int):Prop:= -9223372036854775808≤z∧z≤9223372036854775807
theorem SP (a sp:ByteArray):Ef [a] sp=a:=by
 apply ByteArray.ext
 simp[Ef,Lib.join,List.intercalate]
theorem Gn (a b:ByteArray) (l:List ByteArray) (sp:ByteArray):Ef (a::b::l) sp=a++sp++Ef (b::l) sp:=by
 apply ByteArray.ext
 rw[ByteArray.data_append,ByteArray.data_append]
 apply Array.ext'
 simp[Ef,Lib.join,List.intercalate,List.intersperse]
theorem pQ {xs:List ByteArray}{sp:ByteArray}(h:xs.length≤1000) (hs:(Ef xs sp).size≤1000) (n:Nat):iT n (xs.map D.str) sp=some (Ef xs sp):=by
 have e:(Lib.join (xs.map (·.data.toList)) sp.data.toList).length=(Ef xs sp).size:=by
  show _=(Lib.join (xs.map (·.data.toList)) sp.data.toList).toArray.size
  simp
 unfold iT
 rw[TX]
 simp only[]
 rw[if_pos ⟨by omega,by omega⟩]
theorem aW:BK.size=1:=rfl
theorem kd:RD=EE++BK:=by
 apply ByteArray.ext
 rw[ByteArray.data_append]
 rfl
theorem kp:OC=E1++BK:=by
 apply ByteArray.ext
 rw[ByteArray.data_append]
 rfl
theorem kf:OD=E2++BK:=by
 apply ByteArray.ext
 rw[ByteArray.data_append]
 rfl
theorem eD {z5:Int}(h5:aV z5) {s:ByteArray}(hs:s.size≤200):Ev (fun n=>F1 n z5 s) (s++BK++A5 z5):=by
 have y:=EH h5
 have q1:∀k:ByteArray→Option ByteArray,Ee s BK k=k (s++BK):=fun k=>EP (by rw[aW];omega)
 have q2:∀k:ByteArray→Option ByteArray,Ee (s++BK) (A5 z5) k=k (s++BK++A5 z5):=fun k=>EP (by rw[ByteArray.size_append,aW];omega)
 refine Ev.succ ?_
 simp only[F1,q1]
 refine Ev.bO1 (iV h5) ?_
 simp only[q2]
 exact Ev.ret
theorem oJ (l m:List D) (b:Nat) (k:List D→Option ByteArray) (h:l.length+m.length≤100) (hb:b≤1000):Ed b l m k=k (l++m):=by
 unfold Ed
 have:(l.length+m.length)*b≤100*1000:=Nat.mul_le_mul h hb
 rw[if_pos ⟨by simp only[maxLen];omega,by omega⟩]
theorem eE {z5:Int}(h5:aV z5) {ws:List ByteArray}{s:ByteArray}(hw:ws.length≤10) (hs:s.size≤200) (e:Ef (ws++[A5 z5]) BK=s++BK++A5 z5):Ev (fun n=>F0 n z5 (ws.map D.str)) (s++BK++A5 z5):=by
 have y:=EH h5
 refine Ev.succ ?_
 have q:∀k:List D→Option ByteArray,Ed 16 (ws.map D.str) [.str (A5 z5)] k=k ((ws++[A5 z5]).map D.str):=fun k=>by
  rw[oJ _ _ _ _ (by simp;omega) (by decide)]
  simp
 have j:∀n,iT n ((ws++[A5 z5]).map D.str) BK=some (s++BK++A5 z5):=fun n=>by
  rw[pQ (by simp;omega) (by rw[e,ByteArray.size_append,ByteArray.size_append,aW];omega),e]
 simp only[F0,oX h5,iU,q,j]
 exact Ev.ret
theorem gC {w1 w2 w3 w4 w5 w6:ByteArray}(h1:w1.size≤10) (h2:w2.size≤10) (h3:w3.size≤10) (h4:w4.size≤10) (h5:w5.size≤10) (h6:w6.size≤10) {z:Int}(hz:0≤z∧z<256):
  ∃s:ByteArray,s.size≤10∧Ev (fun n=>cX n OB w1 w2 w3 w4 w5 w6 z) s∧Ev (fun n=>bJ n [.str w1,.str w2,.str w3,.str w4,.str w5,.str w6] z) s:=by
 have wz:IntKind.i64.wrap z=z:=IntWalk.i64_in _ (by omega)
 have big:∀s:ByteArray,7≤z→s=OB→Ev (fun n=>cX n OB w1 w2 w3 w4 w5 w6 z) s∧Ev (fun n=>bJ n [.str w1,.str w2,.str w3,.str w4,.str w5,.str w6] z) s:=by
  rintro s hb rfl
  constructor
  ·simp only[cX,letE,wz,if_neg (show ¬z<7 by omega)]
   exact Ev.succ (by simp only[KK,Bool.false_eq_true,if_false];exact Ev.ret)
  ·simp only[bJ,letE,wz,ZG,if_neg (show ¬z<1 by omega),List.length_cons,List.length_nil]
   simp only[if_pos (show ((0+1+1+1+1+1+1:Nat):Int)<z by omega)]
   exact Ev.succ (by simp only[Hs,if_true];exact Ev.ret)
 by_cases c:7≤z
 ·exact⟨OB,by decide,big OB c rfl⟩
 ·have:z=0∨z=1∨z=2∨z=3∨z=4∨z=5∨z=6:=by omega
  have a1:∀s:ByteArray,(∀K:D→Option ByteArray,MR [.agg [.str OB],.agg [.str w1],.agg [.str w2],.agg [.str w3],.agg [.str w4],.agg [.str w5],.agg [.str w6]] z K=K (.agg [.str s]))→Ev (fun n=>cX n OB w1 w2 w3 w4 w5 w6 z) s:=by
   intro s hg
   simp only[cX,letE,wz,if_pos (show z<7 by omega)]
   refine Ev.succ ?_
   simp only[KK,if_true,Ec,if_pos (show 0≤z∧z<7 by omega),hg,V3]
   exact Ev.ret
  have a2:∀s:ByteArray,1≤z→(∀K:D→Option ByteArray,MR [.str w1,.str w2,.str w3,.str w4,.str w5,.str w6] (z - 1) K=K (.str s))→Ev (fun n=>bJ n [.str w1,.str w2,.str w3,.str w4,.str w5,.str w6] z) s:=by
   intro s h1 hg
   simp only[bJ,letE,wz,ZG,if_neg (show ¬z<1 by omega),List.length_cons,List.length_nil]
   simp only[if_neg (show ¬((0+1+1+1+1+1+1:Nat):Int)<z by omega)]
   refine Ev.succ ?_
   simp only[Hs,Bool.false_eq_true,if_false,letE]
   rw[lK (by omega)]
   simp only[hg,RE]
   exact Ev.ret
  rcases this with rfl | rfl | rfl | rfl | rfl | rfl | rfl
  ·refine⟨OB,by decide,a1 _ (fun K=>rfl),?_⟩
   simp only[bJ,if_pos (show (0:Int)<1 by decide)]
   exact Ev.succ (by simp only[Hs,if_true];exact Ev.ret)
  ·exact⟨w1,h1,a1 _ (fun K=>rfl),a2 _ (by decide) (fun K=>rfl)⟩
  ·exact⟨w2,h2,a1 _ (fun K=>rfl),a2 _ (by decide) (fun K=>rfl)⟩
  ·exact⟨w3,h3,a1 _ (fun K=>rfl),a2 _ (by decide) (fun K=>rfl)⟩
  ·exact⟨w4,h4,a1 _ (fun K=>rfl),a2 _ (by decide) (fun K=>rfl)⟩
  ·exact⟨w5,h5,a1 _ (fun K=>rfl),a2 _ (by decide) (fun K=>rfl)⟩
  ·exact⟨w6,h6,a1 _ (fun K=>rfl),a2 _ (by decide) (fun K=>rfl)⟩
theorem oL (a b sp:ByteArray):Ef ([a]++[b]) sp=a++sp++b:=by
 show Ef [a,b] sp=_
 rw[Gn,SP]
theorem aX (a b c sp:ByteArray):Ef ([a,b]++[c]) sp=(a++sp++b)++sp++c:=by
 show Ef [a,b,c] sp=_
 rw[Gn,Gn,SP]
 simp only[ByteArray.append_assoc]
theorem mL (a b c d sp:ByteArray):Ef ([a,b,c]++[d]) sp=(a++sp++b++sp++c)++sp++d:=by
 show Ef [a,b,c,d] sp=_
 rw[Gn,Gn,Gn,SP]
 simp only[ByteArray.append_assoc]
theorem Xv {z1 z2 z3 z4 z5:Int}(h2:aV z2) (h3:aV z3) (h4:0≤z4∧z4<256) (h5:aV z5):∃s,Ev (fun n=>cY n z1 z2 z3 z4 z5) s∧Ev (fun n=>cZ n z1 z2 z3 z4 z5) s:=by
 have y2:=EH h2
 have y3:=EH h3
 by_cases c1:z1=1
 ·have e:=mL EE (A5 z2) (A5 z3) (A5 z5) BK
  have kz:EE.size=4:=rfl
  have sz:(EE++BK++A5 z2++BK++A5 z3).size≤200:=by
   rw[ByteArray.size_append,ByteArray.size_append,ByteArray.size_append,ByteArray.size_append,aW,kz];omega
  refine⟨EE++BK++A5 z2++BK++A5 z3++BK++A5 z5,?_,?_⟩
  rotate_left
  ·simp only[cZ,if_pos c1]
   refine Ev.succ ?_
   simp only[Hu,if_true]
   refine Ev.bO1 (iV h2) ?_
   have q1:∀k:ByteArray→Option ByteArray,Ee RD (A5 z2) k=k (EE++BK++A5 z2):=fun k=>by rw[kd];exact EP (by rw[ByteArray.size_append,aW,kz];omega)
   have q2:∀k:ByteArray→Option ByteArray,Ee (EE++BK++A5 z2) BK k=k (EE++BK++A5 z2++BK):=fun k=>EP (by rw[ByteArray.size_append,ByteArray.size_append,aW,kz];omega)
   have q3:∀k:ByteArray→Option ByteArray,Ee (EE++BK++A5 z2++BK) (A5 z3) k=k (EE++BK++A5 z2++BK++A5 z3):=fun k=>EP (by rw[ByteArray.size_append,ByteArray.size_append,ByteArray.size_append,aW,kz];omega)
   simp only[q1,q2]
   refine Ev.bO1 (iV h3) ?_
   simp only[q3]
   exact eD h5 sz
  ·simp only[cY,iW,bO0,if_pos c1]
   refine Ev.succ ?_
   simp only[Hr,if_true,pH h2,oX h3,iU]
   exact eE h5 (ws:=[EE,A5 z2,A5 z3]) (by simp) sz e
 by_cases c2:z1=2
 ·obtain⟨s,hs,g1,g2⟩:=gC (w1:=JR) (w2:=JS) (w3:=FV) (w4:=Da) (w5:=G5) (w6:=G6) (by decide) (by decide) (by decide) (by decide) (by decide) (by decide) h4
  have e:=aX E1 s (A5 z5) BK
  have kz:E1.size=5:=rfl
  have sz:(E1++BK++s).size≤200:=by
   rw[ByteArray.size_append,ByteArray.size_append,aW,kz];omega
  refine⟨E1++BK++s++BK++A5 z5,?_,?_⟩
  rotate_left
  ·simp only[cZ,if_neg c1]
   refine Ev.succ ?_
   simp only[Hu,Bool.false_eq_true,if_false,if_pos c2]
   refine Ev.succ ?_
   simp only[I4,if_true]
   refine Ev.bO1 g2 ?_
   have q1:∀k:ByteArray→Option ByteArray,Ee OC s k=k (E1++BK++s):=fun k=>by rw[kp];exact EP (by rw[ByteArray.size_append,aW,kz];omega)
   simp only[q1]
   exact eD h5 sz
  ·simp only[cY,iW,bO0,if_neg c1]
   refine Ev.succ ?_
   simp only[Hr,Bool.false_eq_true,if_false,if_pos c2]
   refine Ev.succ ?_
   simp only[I2,if_true]
   refine Ev.bO1 g1 ?_
   exact eE h5 (ws:=[E1,s]) (by simp) sz e
 by_cases c6:z1=6
 ·obtain⟨s,hs,g1,g2⟩:=gC (w1:=G7) (w2:=G8) (w3:=FW) (w4:=G9) (w5:=FX) (w6:=Db) (by decide) (by decide) (by decide) (by decide) (by decide) (by decide) h4
  have e:=aX E2 s (A5 z5) BK
  have kz:E2.size=5:=rfl
  have sz:(E2++BK++s).size≤200:=by
   rw[ByteArray.size_append,ByteArray.size_append,aW,kz];omega
  refine⟨E2++BK++s++BK++A5 z5,?_,?_⟩
  rotate_left
  ·simp only[cZ,if_neg c1]
   refine Ev.succ ?_
   simp only[Hu,Bool.false_eq_true,if_false,if_neg c2]
   refine Ev.succ ?_
   simp only[I4,Bool.false_eq_true,if_false,if_pos c6]
   refine Ev.succ ?_
   simp only[Gk,if_true]
   refine Ev.bO1 g2 ?_
   have q1:∀k:ByteArray→Option ByteArray,Ee OD s k=k (E2++BK++s):=fun k=>by rw[kf];exact EP (by rw[ByteArray.size_append,aW,kz];omega)
   simp only[q1]
   exact eD h5 sz
  ·simp only[cY,iW,bO0,if_neg c1]
   refine Ev.succ ?_
   simp only[Hr,Bool.false_eq_true,if_false,if_neg c2]
   refine Ev.succ ?_
   simp only[I2,Bool.false_eq_true,if_false,if_pos c6]
   refine Ev.succ ?_
   simp only[Gj,if_true]
   refine Ev.bO1 g1 ?_
   exact eE h5 (ws:=[E2,s]) (by simp) sz e
 have plain:∀w:ByteArray,w.size≤10→Ev (fun n=>F0 n z5 [.str w]) (w++BK++A5 z5)∧Ev (fun n=>F1 n z5 w) (w++BK++A5 z5):=fun w hw=>
  ⟨eE h5 (ws:=[w]) (by simp) (by omega) (oL w (A5 z5) BK),eD h5 (by omega)⟩
 have go:∀s,Ev (fun n=>Gj n z1 z4 z5 false) s→Ev (fun n=>Gk n z1 z4 z5 false) s→∃s,Ev (fun n=>cY n z1 z2 z3 z4 z5) s∧Ev (fun n=>cZ n z1 z2 z3 z4 z5) s:=by
  intro s g1 g2
  refine⟨s,?_,?_⟩
  ·simp only[cY,iW,bO0,if_neg c1]
   refine Ev.succ ?_
   simp only[Hr,Bool.false_eq_true,if_false,if_neg c2]
   refine Ev.succ ?_
   simp only[I2,Bool.false_eq_true,if_false,if_neg c6]
   exact g1
  ·simp only[cZ,if_neg c1]
   refine Ev.succ ?_
   simp only[Hu,Bool.false_eq_true,if_false,if_neg c2]
   refine Ev.succ ?_
   simp only[I4,Bool.false_eq_true,if_false,if_neg c6]
   exact g2
 by_cases c3:z1=3
 ·obtain⟨p1,p2⟩:=plain LM (by decide)
  refine go (LM++BK++A5 z5) (Ev.succ ?_) (Ev.succ ?_)
  rotate_left
  ·simp only[Gk,Bool.false_eq_true,if_false,if_pos c3]
   exact Ev.succ (by simp only[Ht,if_true];exact p2)
  ·simp only[Gj,Bool.false_eq_true,if_false,if_pos c3]
   exact Ev.succ (by simp only[Hq,if_true];exact p1)
 by_cases c4:z1=4
 ·obtain⟨p1,p2⟩:=plain EF (by decide)
  refine go (EF++BK++A5 z5) (Ev.succ ?_) (Ev.succ ?_)
  rotate_left
  ·simp only[Gk,Bool.false_eq_true,if_false,if_neg c3]
   refine Ev.succ ?_
   simp only[Ht,Bool.false_eq_true,if_false,if_pos c4]
   exact Ev.succ (by simp only[I3,if_true];exact p2)
  ·simp only[Gj,Bool.false_eq_true,if_false,if_neg c3]
   refine Ev.succ ?_
   simp only[Hq,Bool.false_eq_true,if_false,if_pos c4]
   exact Ev.succ (by simp only[I1,if_true];exact p1)
 by_cases c5:z1=5
 ·obtain⟨p1,p2⟩:=plain EG (by decide)
  refine go (EG++BK++A5 z5) (Ev.succ ?_) (Ev.succ ?_)
  rotate_left
  ·simp only[Gk,Bool.false_eq_true,if_false,if_neg c3]
   refine Ev.succ ?_
   simp only[Ht,Bool.false_eq_true,if_false,if_neg c4]
   refine Ev.succ ?_
   simp only[I3,Bool.false_eq_true,if_false,if_pos c5]
   exact Ev.succ (by simp only[KM,if_true];exact p2)
  ·simp only[Gj,Bool.false_eq_true,if_false,if_neg c3]
   refine Ev.succ ?_
   simp only[Hq,Bool.false_eq_true,if_false,if_neg c4]
   refine Ev.succ ?_
   simp only[I1,Bool.false_eq_true,if_false,if_pos c5]
   exact Ev.succ (by simp only[KL,if_true];exact p1)
 refine go OB (Ev.succ ?_) (Ev.succ ?_)
 ·simp only[Gj,Bool.false_eq_true,if_false,if_neg c3]
  refine Ev.succ ?_
  simp only[Hq,Bool.false_eq_true,if_false,if_neg c4]
  refine Ev.succ ?_
  simp only[I1,Bool.false_eq_true,if_false,if_neg c5]
  exact Ev.succ (by simp only[KL,Bool.false_eq_true,if_false];exact Ev.ret)
 ·simp only[Gk,Bool.false_eq_true,if_false,if_neg c3]
  refine Ev.succ ?_
  simp only[Ht,Bool.false_eq_true,if_false,if_neg c4]
  refine Ev.succ ?_
  simp only[I3,Bool.false_eq_true,if_false,if_neg c5]
  exact Ev.succ (by simp only[KM,Bool.false_eq_true,if_false];exact Ev.ret)
def upto (i:Nat):List D:=(List.range i).map fun (k:Nat)=>D.int .i64 (k:Int)
theorem Xw (i:Nat):upto (i+1)=upto i++[.int .i64 (i:Int)]:=by simp[upto,List.range_succ]
theorem Kq (i:Nat):(upto i).length=i:=by simp[upto]
theorem aY {i m:Nat}(h:i<m):(upto m)[i]?=some (.int .i64 (i:Int)):=by simp[upto,h]
theorem oM (l m:List D) (b:Nat) (k:List D→Option (List D)) (h:l.length+m.length≤10000) (hb:b≤1000):Ed b l m k=k (l++m):=by
 unfold Ed
 have:(l.length+m.length)*b≤10000*1000:=Nat.mul_le_mul h hb
 rw[if_pos ⟨by simp only[maxLen];omega,by omega⟩]
theorem Xx {m:Nat}(hm:m≤5000):∀i,i≤m→Ev (fun n=>I0 n (m:Int) (upto i) (i:Int)) (upto m):=by
 refine down m ?_ fun i hi ih=>?_
 ·refine Ev.succ ?_
  simp only[I0,Int.lt_irrefl,if_false]
  exact Ev.succ (by simp only[KJ,Bool.false_eq_true,if_false];exact Ev.ret)
 ·refine Ev.succ ?_
  simp only[I0,if_pos (pE hi)]
  refine Ev.succ ?_
  have hw:=Pw hi (N:=m) (by simp only[maxLen];omega)
  have q:∀k:List D→Option (List D),Ed 8 (upto i) [.int .i64 (i:Int)] k=k (upto (i+1)):=fun k=>by
   rw[oM _ _ _ _ (by rw[Kq];simp;omega) (by decide),Xw]
  simp only[KJ,if_true,q,letE,hw]
  exact ih
def cap (z:Int):Nat:=if z<0 then 0 else if 5000<z then 5000 else z.toNat
theorem oO {z:Int}:Ev (fun n=>lN n z) (upto (cap z)):=by
 have hm:cap z≤5000:=by
  unfold cap
  split
  ·omega
  ·split<;>omega
 have e:(if (5000:Int)<(if (0:Int)>z then (0:Int)else z)then (5000:Int)else (if (0:Int)>z then (0:Int)else z))=((cap z:Nat):Int):=by
  unfold cap
  by_cases c:z<0
  ·have c':(0:Int)>z:=c
   simp only[if_pos c,if_pos c']
   rfl
  ·have c':¬(0:Int)>z:=c
   simp only[if_neg c,if_neg c']
   by_cases d:5000<z
   ·simp only[if_pos d];rfl
   ·simp only[if_neg d];omega
 simp only[lN,letE,e]
 have:=Xx hm 0 (Nat.zero_le _)
 exact this
theorem Vh {z1 z2 z3 z4 z5:Int}(h2:aV z2) (h3:aV z3) (h4:0≤z4∧z4<256) (h5:aV z5) {m:Nat}(hm:m≤5000):∀i,i≤m→Ev (fun n=>PJ n z1 z2 z3 z4 z5 (upto m) (m:Int) (i:Int)) true:=by
 refine down m ?_ fun i hi ih=>?_
 ·refine Ev.succ ?_
  simp only[PJ,ZG,Kq,Int.lt_irrefl,if_false]
  refine Ev.succ ?_
  obtain⟨s,g1,g2⟩:=Xv (z1:=z1) h2 h3 h4 h5
  simp only[SM,Bool.false_eq_true,if_false,ZG,Kq,if_true]
  refine Ev.bO1 g1 ?_
  refine Ev.bO1 g2 ?_
  simp only[if_true,oH,iU]
  exact Ev.ret
 ·refine Ev.succ ?_
  simp only[PJ,ZG,Kq,if_pos (pE hi)]
  refine Ev.succ ?_
  simp only[SM,if_true,ZD (aY hi),RC]
  refine Ev.succ ?_
  have hw:=Pw hi (N:=m) (by simp only[maxLen];omega)
  simp only[UN,Bool.false_eq_true,if_false,letE,hw]
  exact ih
theorem Xy {z1 z2 z3 z4 z5 z6:Int}(h2:aV z2) (h3:aV z3) (h4:0≤z4∧z4<256) (h5:aV z5):Ev (fun n=>F4 n z1 z2 z3 z4 z5 z6) true:=by
 unfold F4
 refine Ev.bO1 oO ?_
 have hm:cap z6≤5000:=by
  unfold cap
  split
  ·omega
  ·split<;>omega
 have loop:=Vh (z1:=z1) h2 h3 h4 h5 hm 0 (Nat.zero_le _)
 have four:Ev (fun n=>SN n z1 z2 z3 z4 z5 (upto (cap z6)) ((cap z6:Nat):Int)) true:=Ev.succ (by simp only[SN];exact loop)
 by_cases c:z6<0
 ·simp only[if_pos c]
  refine Ev.succ ?_
  simp only[SO,if_true]
  refine Ev.succ ?_
  simp only[PL,if_neg (show ¬(5000:Int)<z6 by omega)]
  refine Ev.succ ?_
  simp only[PK,Bool.false_eq_true,if_false]
  have e:((cap z6:Nat):Int)=0:=by unfold cap;rw[if_pos c];rfl
  rw[e]at four
  exact four
 ·simp only[if_neg c]
  refine Ev.succ ?_
  simp only[SO,Bool.false_eq_true,if_false]
  by_cases d:5000<z6
  ·refine Ev.succ ?_
   simp only[PL,if_pos d]
   refine Ev.succ ?_
   simp only[PK,if_true]
   have e:((cap z6:Nat):Int)=5000:=by unfold cap;rw[if_neg c,if_pos d];rfl
   rw[e]at four
   exact four
  ·refine Ev.succ ?_
   simp only[PL,if_neg d]
   refine Ev.succ ?_
   simp only[PK,Bool.false_eq_true,if_false]
   have e:((cap z6:Nat):Int)=z6:=by unfold cap;rw[if_neg c,if_neg d];omega
   rw[e]at four
   exact four
theorem MV:∀xs:List D,Jc US [54,3] xs→Bf Tryz.prog inv 4 (xs.map V1.d) [] (.v (.d (.bool true))) [] []:=by
 intro xs h
 match xs,h with
 | [o,p],⟨o1,o2,p1,p2,_⟩=>
  obtain⟨a0,a1,a2,a3,a4,rfl,w0,w1,w2,w3,w4⟩:=oI ⟨o1,o2⟩
  obtain⟨z,rfl,_⟩:=pP ⟨p1,p2⟩
  obtain⟨n,hn⟩:=(Xy (z1:=a0) (z6:=z) (LN w1) (LN w2) (ZF w3) (LN w4)).run
  exact T4 n hn
end Go.Proofs.YtaomkgkdfafiiaaGreatDoor
end
namespace Go.Proofs.YtaomkgkdfafiiaaGreatDoor
open Go Go.ChangeShapes Go.WideShapes Go.ChangeAt Go.RowKit Go.AM
theorem Kr:∀t∈[54,3],Tryz.prog.readableRec t=true∧t<Tryz.prog.types.size:=by
 have h:([54,3].all fun t=>Tryz.prog.readableRec t&&decide (t<Tryz.prog.types.size))=true:=by kernel_rfl
 intro t ht
 have:=List.all_eq_true.1 h t ht
 simpa using this
theorem MW {W:World}(h:laidMet Tryz.prog Rows.driveTextsRow.laid W):inv.at W fun _ _=>False:=by
 have e:(Rows.driveTextsRow.laid.filter fun x=>x.1== "internal/strconv.uint64pow10")=[("internal/strconv.uint64pow10",Lib.tabData .u64 Lib.pow10Tab)]:=by kernel_rfl
 have h2:=laidMet.filter (fun x=>x.1== "internal/strconv.uint64pow10") h
 rw[e]at h2
 have ht:Lib.TabIs Tryz.prog W "internal/strconv.uint64pow10" .u64 Lib.pow10Tab:=by
  exact Lib.tabIs_of_head (g:=0) (t:=261) (e:=212) (n:=20) (by kernel_rfl) (by kernel_rfl) (by kernel_rfl) (by kernel_rfl) (by kernel_rfl) (by kernel_rfl) h2
 refine⟨ht,fun b hb=>⟨?_,fun _ h=>h⟩⟩
 have hb:Tryz.prog.globalNamed "internal/strconv.uint64pow10" =some b:=hb
 unfold Lib.TabIs World.var? at ht
 rw[hb]at ht
 simp only[Option.bind_some]at ht
 cases hx:W.heap[b]? with
 | none=>rw[hx]at ht;simp at ht
 | some o=>exact (Array.getElem?_eq_some_iff.1 hx).1
set_option maxRecDepth 100000 in
theorem Jd (os:Os) (started:os.Started) (H:Type) (enc:TypeId×Value→H):
  ReturnsInHanded {} Tryz.checked os 4 .any (fun w args=>(Rows.driveTextsSpec.pre enc Tryz.prog Tryz.f4 Rows.driveTextsRow.domain false w args∧laidMetH Tryz.prog Rows.driveTextsRow.laid w)∧sizedMet enc Tryz.prog Tryz.f4 (OpenSpec.ofChange Rows.driveTextsSpec) false w args)
   (Rows.driveTextsSpec.post enc Tryz.prog Tryz.f4 false true false false):=by
 refine returnsInHanded_of_change_and (C:=Tryz.checked) (X:=fun w _=>laidMetH Tryz.prog Rows.driveTextsRow.laid w) (fun _ _ _ hh h=>h.of_heap hh) (by kernel_rfl) started (by kernel_rfl) Tryz.func4
  (ChangeSpec.witness_shaped (enc:=enc) (C:=Tryz.checked) (os:=os) (X:=fun w _=>laidMetH Tryz.prog Rows.driveTextsRow.laid w) false (World.laidAll Tryz.prog os Rows.driveTextsRow.laid) #[.agg #[.int .u8 0,.int .i64 0,.int .i64 0,.int .u8 0,.int .i64 0],.int .i64 0] 8 (World.laidAll_os _ _ _)
   (World.shaped_of_ZipB (by kernel_rfl) (by kernel_rfl)) (by kernel_rfl) (by kernel_rfl) (by kernel_rfl)
   (by rw[MakeChecks.laidMetH_plain _ _ _ (by kernel_rfl)];exact laidMet_laidAll _ (by kernel_rfl) (by kernel_rfl))) ?_
 intro W base args ds gs before hval0 hW _ _ hL _
 rw[MakeChecks.laidMetH_plain _ _ _ (by kernel_rfl)]at hL
 refine Xu (ti:=US) (T:=[2,3,5,54]) Dp (by kernel_rfl) (ts:=[54,3]) (bt:=4) rfl rfl rfl (by kernel_rfl) (by decide) ?_ (by kernel_rfl) Kr MV (MW hL) hval0 hW
 intro ds h
 match ds,h with
 | [_,_],_=>exact⟨rfl,rfl,rfl⟩
theorem MX:Rows.DriveTextsSaid:=
 OpenClaim.holds_of_wide 4 Tryz.f4 rfl rfl rfl rfl rfl rfl rfl ⟨rfl,rfl,rfl,rfl,rfl⟩ rfl rfl rfl rfl rfl (by kernel_rfl) Tryz.func4 (by kernel_rfl)
  (of_decide_eq_true (by kernel_rfl)) (by unfold Func.isWrapper;first | (rw[if_pos (by decide+kernel)];kernel_rfl) | (rw[if_neg (by decide+kernel)];exact⟨rfl,rfl⟩))
  (fun os started H enc _=>Jd os started H enc)
theorem drive_texts:Rows.DriveTextsCardSaid:=
 Claim7.holds_tied_plain_at .later [] [.data,.data,.data] true Rows.driveTextsCard.stood.harness true MX (fun _ h=>by cases h) (by kernel_rfl) (fun _ h=>by cases h) driveTexts_row_tie rfl ⟨rfl,rfl⟩ (by kernel_rfl) rfl
  (fun f fn hf hfn=>by
   obtain rfl:f=4:=Option.some.inj ((show Tryz.prog.funcNamed "weftway/weftwaylaw29.DriveTexts" =some 4 by kernel_rfl).symm.trans hf) |>.symm
   obtain rfl:fn=Tryz.f4:=(Option.some.inj (Tryz.func4.symm.trans hfn)).symm
   exact⟨by kernel_rfl,fun j t ht=>by
    have hm:t∈[54,3]:=by
     have hp:Tryz.f4.params.toList=[54,3]:=rfl
     rw[←hp];simpa using Array.mem_of_getElem? ht
    have hall:([54,3].all fun u=>!Tryz.prog.wantsStandIn u)=true:=by kernel_rfl
    exact (show Tryz.prog.wantsStandIn t=false by simpa using List.all_eq_true.1 hall t hm)⟩)
  (by kernel_rfl)
end Go.Proofs.YtaomkgkdfafiiaaGreatDoor
