/- Part of a proof. No condition. (Part 6.) -/
import Derived.Test.YtjmofeakajdbiaaGreatDoorWhoE
set_option linter.unusedVariables false
set_option linter.unusedSimpArgs false
set_option linter.unusedVariables false
noncomputable section
namespace Go.Proofs.YtjmofeakajdbiaaGreatDoor
open Go Go.AM
structure Fm (z1:Int) (f:ByteArray) (n t s y N T p e l x B E A:Bool):Prop where
 f148:Ev (fun k=>RD k z1) f
 ne:¬f=ByteArray.empty
 hn:Ev (fun k=>BI k f 110) n
 ht:Ev (fun k=>BI k f 116) t
 hs:Ev (fun k=>BI k f 115) s
 hy:Ev (fun k=>BI k f 121) y
 hN:Ev (fun k=>BI k f 78) N
 hT:Ev (fun k=>BI k f 84) T
 hp:Ev (fun k=>BI k f 112) p
 he:Ev (fun k=>BI k f 101) e
 hl:Ev (fun k=>BI k f 108) l
 hx:Ev (fun k=>BI k f 120) x
 hB:Ev (fun k=>BI k f 66) B
 hE:Ev (fun k=>BI k f 69) E
 hA:Ev (fun k=>BI k f 65) A
 nt:(n&&t)=false
 sy:(s&&y)=false
theorem tE:Fm 1 iL true false false false false false false false true false false false false:=⟨AP fun m=>by kernel_rfl,by decide,AP fun m=>by kernel_rfl,AP fun m=>by kernel_rfl,AP fun m=>by kernel_rfl,AP fun m=>by kernel_rfl,AP fun m=>by kernel_rfl,AP fun m=>by kernel_rfl,AP fun m=>by kernel_rfl,AP fun m=>by kernel_rfl,AP fun m=>by kernel_rfl,AP fun m=>by kernel_rfl,AP fun m=>by kernel_rfl,AP fun m=>by kernel_rfl,AP fun m=>by kernel_rfl,rfl,rfl⟩
theorem tF:Fm 2 bC false true false false true false false true false false false false false:=⟨AP fun m=>by kernel_rfl,by decide,AP fun m=>by kernel_rfl,AP fun m=>by kernel_rfl,AP fun m=>by kernel_rfl,AP fun m=>by kernel_rfl,AP fun m=>by kernel_rfl,AP fun m=>by kernel_rfl,AP fun m=>by kernel_rfl,AP fun m=>by kernel_rfl,AP fun m=>by kernel_rfl,AP fun m=>by kernel_rfl,AP fun m=>by kernel_rfl,AP fun m=>by kernel_rfl,AP fun m=>by kernel_rfl,rfl,rfl⟩
theorem tG:Fm 3 iM false false false false false false true true false false false false false:=⟨AP fun m=>by kernel_rfl,by decide,AP fun m=>by kernel_rfl,AP fun m=>by kernel_rfl,AP fun m=>by kernel_rfl,AP fun m=>by kernel_rfl,AP fun m=>by kernel_rfl,AP fun m=>by kernel_rfl,AP fun m=>by kernel_rfl,AP fun m=>by kernel_rfl,AP fun m=>by kernel_rfl,AP fun m=>by kernel_rfl,AP fun m=>by kernel_rfl,AP fun m=>by kernel_rfl,AP fun m=>by kernel_rfl,rfl,rfl⟩
theorem tH:Fm 4 rL false false false false false false false true false false false false false:=⟨AP fun m=>by kernel_rfl,by decide,AP fun m=>by kernel_rfl,AP fun m=>by kernel_rfl,AP fun m=>by kernel_rfl,AP fun m=>by kernel_rfl,AP fun m=>by kernel_rfl,AP fun m=>by kernel_rfl,AP fun m=>by kernel_rfl,AP fun m=>by kernel_rfl,AP fun m=>by kernel_rfl,AP fun m=>by kernel_rfl,AP fun m=>by kernel_rfl,AP fun m=>by kernel_rfl,AP fun m=>by kernel_rfl,rfl,rfl⟩
theorem tI:Fm 5 rM true false false false false false false false false false false false false:=⟨AP fun m=>by kernel_rfl,by decide,AP fun m=>by kernel_rfl,AP fun m=>by kernel_rfl,AP fun m=>by kernel_rfl,AP fun m=>by kernel_rfl,AP fun m=>by kernel_rfl,AP fun m=>by kernel_rfl,AP fun m=>by kernel_rfl,AP fun m=>by kernel_rfl,AP fun m=>by kernel_rfl,AP fun m=>by kernel_rfl,AP fun m=>by kernel_rfl,AP fun m=>by kernel_rfl,AP fun m=>by kernel_rfl,rfl,rfl⟩
theorem tJ:Fm 6 bD false false false false false false false true false false true true false:=⟨AP fun m=>by kernel_rfl,by decide,AP fun m=>by kernel_rfl,AP fun m=>by kernel_rfl,AP fun m=>by kernel_rfl,AP fun m=>by kernel_rfl,AP fun m=>by kernel_rfl,AP fun m=>by kernel_rfl,AP fun m=>by kernel_rfl,AP fun m=>by kernel_rfl,AP fun m=>by kernel_rfl,AP fun m=>by kernel_rfl,AP fun m=>by kernel_rfl,AP fun m=>by kernel_rfl,AP fun m=>by kernel_rfl,rfl,rfl⟩
theorem tK:Fm 7 iP false false false false false false false true false false true false false:=⟨AP fun m=>by kernel_rfl,by decide,AP fun m=>by kernel_rfl,AP fun m=>by kernel_rfl,AP fun m=>by kernel_rfl,AP fun m=>by kernel_rfl,AP fun m=>by kernel_rfl,AP fun m=>by kernel_rfl,AP fun m=>by kernel_rfl,AP fun m=>by kernel_rfl,AP fun m=>by kernel_rfl,AP fun m=>by kernel_rfl,AP fun m=>by kernel_rfl,AP fun m=>by kernel_rfl,AP fun m=>by kernel_rfl,rfl,rfl⟩
theorem tL:Fm 8 bF true false false true false false false false false false false false true:=⟨AP fun m=>by kernel_rfl,by decide,AP fun m=>by kernel_rfl,AP fun m=>by kernel_rfl,AP fun m=>by kernel_rfl,AP fun m=>by kernel_rfl,AP fun m=>by kernel_rfl,AP fun m=>by kernel_rfl,AP fun m=>by kernel_rfl,AP fun m=>by kernel_rfl,AP fun m=>by kernel_rfl,AP fun m=>by kernel_rfl,AP fun m=>by kernel_rfl,AP fun m=>by kernel_rfl,AP fun m=>by kernel_rfl,rfl,rfl⟩
theorem tM:Fm 9 mP false false false false false false false false false false true false false:=⟨AP fun m=>by kernel_rfl,by decide,AP fun m=>by kernel_rfl,AP fun m=>by kernel_rfl,AP fun m=>by kernel_rfl,AP fun m=>by kernel_rfl,AP fun m=>by kernel_rfl,AP fun m=>by kernel_rfl,AP fun m=>by kernel_rfl,AP fun m=>by kernel_rfl,AP fun m=>by kernel_rfl,AP fun m=>by kernel_rfl,AP fun m=>by kernel_rfl,AP fun m=>by kernel_rfl,AP fun m=>by kernel_rfl,rfl,rfl⟩
theorem lS:Fm 10 bG false false false false true false false false false true true false false:=⟨AP fun m=>by kernel_rfl,by decide,AP fun m=>by kernel_rfl,AP fun m=>by kernel_rfl,AP fun m=>by kernel_rfl,AP fun m=>by kernel_rfl,AP fun m=>by kernel_rfl,AP fun m=>by kernel_rfl,AP fun m=>by kernel_rfl,AP fun m=>by kernel_rfl,AP fun m=>by kernel_rfl,AP fun m=>by kernel_rfl,AP fun m=>by kernel_rfl,AP fun m=>by kernel_rfl,AP fun m=>by kernel_rfl,rfl,rfl⟩
theorem lU:Fm 11 bH true false false false false false true false false false true false false:=⟨AP fun m=>by kernel_rfl,by decide,AP fun m=>by kernel_rfl,AP fun m=>by kernel_rfl,AP fun m=>by kernel_rfl,AP fun m=>by kernel_rfl,AP fun m=>by kernel_rfl,AP fun m=>by kernel_rfl,AP fun m=>by kernel_rfl,AP fun m=>by kernel_rfl,AP fun m=>by kernel_rfl,AP fun m=>by kernel_rfl,AP fun m=>by kernel_rfl,AP fun m=>by kernel_rfl,AP fun m=>by kernel_rfl,rfl,rfl⟩
theorem lV:Fm 12 bI true false true false false true false false false false false false false:=⟨AP fun m=>by kernel_rfl,by decide,AP fun m=>by kernel_rfl,AP fun m=>by kernel_rfl,AP fun m=>by kernel_rfl,AP fun m=>by kernel_rfl,AP fun m=>by kernel_rfl,AP fun m=>by kernel_rfl,AP fun m=>by kernel_rfl,AP fun m=>by kernel_rfl,AP fun m=>by kernel_rfl,AP fun m=>by kernel_rfl,AP fun m=>by kernel_rfl,AP fun m=>by kernel_rfl,AP fun m=>by kernel_rfl,rfl,rfl⟩
theorem lW:Fm 13 mP false false false false false false false false false false true false false:=⟨AP fun m=>by kernel_rfl,by decide,AP fun m=>by kernel_rfl,AP fun m=>by kernel_rfl,AP fun m=>by kernel_rfl,AP fun m=>by kernel_rfl,AP fun m=>by kernel_rfl,AP fun m=>by kernel_rfl,AP fun m=>by kernel_rfl,AP fun m=>by kernel_rfl,AP fun m=>by kernel_rfl,AP fun m=>by kernel_rfl,AP fun m=>by kernel_rfl,AP fun m=>by kernel_rfl,AP fun m=>by kernel_rfl,rfl,rfl⟩
section
variable {z1:Int}{s2 s3:ByteArray}{l4:List D}{z5:Int}{s6:ByteArray}{l7:List D}{z8:Int}{s9:ByteArray}{l10 l11 l12 l13 l14:List D}{z15:Int}{z16:Int}{f:ByteArray}{n t s y N T p e l x B E A tB X R:Bool}(G:Fm z1 f n t s y N T p e l x B E A)
include G
theorem d8 (h9:s9.size≤maxLen) (h10:AK Ap 9 l10):Ev (fun n=>NW n s9 l10 f) (cond p (Co s9 l10) (DD s9 l10)):=by
 refine .succ ?_
 simp only[NW]
 refine Ev.bO1 G.hp ?_
 cases p
 ·simp only[bs]
  unfold DD
  by_cases a:s9=ByteArray.empty<;>by_cases c:l10.length=0<;>simp only[a,c,emp,AB,qz,decide_true,decide_false,bs]<;>exact .ret
 ·simp only[bs]
  exact Ev.bO1 (kQ h9 h10) .ret
theorem d4 (hd:1≤z16∧z16≤40) (hty:Ev (fun n=>Tv n z5 s6 l7 (z16 - 1)) tB) (h4:AK Ap 9 l4) (h9:s9.size≤maxLen) (h10:AK Ap 9 l10):Ev (fun n=>HU n l4 z5 s6 l7 z8 s9 l10 f z16 (0:Int)) (l4.all F5&&((cond T (decide (1≤z8)&&(decide (z8≤8)&&tB)) (decide (z8=0)&&Cw z5 s6 l7))&&cond p (Co s9 l10) (DD s9 l10))):=by
 have wd:IntKind.i64.wrap (z16 - 1)=z16 - 1:=iw (by omega) (by omega)
 have k8:=d8 G h9 h10
 have k6:∀b,Ev (fun n=>Iq n s9 l10 f (!b)) (b&&cond p (Co s9 l10) (DD s9 l10)):=by
  intro b
  refine .succ ?_
  cases b
  ·simp only[Iq,bs];exact .ret
  ·simp only[Iq,bs];exact k8
 have k7:∀b,Ev (fun n=>Kg n s9 l10 f (!b)) (b&&cond p (Co s9 l10) (DD s9 l10)):=by
  intro b
  refine .succ ?_
  cases b
  ·simp only[Kg,bs];exact .ret
  ·simp only[Kg,bs];exact k8
 have loop:∀i:Nat,i≤l4.length→Ev (fun n=>HU n l4 z5 s6 l7 z8 s9 l10 f z16 (i:Int)) ((l4.drop i).all F5&&((cond T (decide (1≤z8)&&(decide (z8≤8)&&tB)) (decide (z8=0)&&Cw z5 s6 l7))&&cond p (Co s9 l10) (DD s9 l10))):=by
  refine down l4.length (.succ ?_) (fun i hi ih=>.succ ?_)
  ·simp only[HU,AB,Int.lt_irrefl,if_false,List.drop_length,List.all_nil]
   refine .succ ?_
   simp only[NX,bs]
   refine Ev.bO1 G.hT ?_
   cases T
   ·simp only[bs]
    by_cases c:z8=0
    ·simp only[if_pos c,decide_eq_true c,Bool.true_and]
     exact Ev.bO1 qR (k7 _)
    ·simp only[if_neg c,decide_eq_false c,Bool.false_and]
     exact k7 false
   ·simp only[bs]
    by_cases c:z8<1
    ·simp only[if_pos c,decide_eq_false (show ¬1≤z8 by omega),Bool.false_and]
     exact k6 false
    ·simp only[if_neg c,decide_eq_true (show 1≤z8 by omega),Bool.true_and]
     by_cases c2:8<z8
     ·simp only[if_pos c2,decide_eq_false (show ¬z8≤8 by omega),Bool.false_and]
      exact k6 false
     ·simp only[if_neg c2,decide_eq_true (show z8≤8 by omega),Bool.true_and,AE,wd]
      exact Ev.bO1 hty (k6 _)
  ·obtain⟨x,hx,_,hr⟩:=h4.get hi
   obtain⟨q,rfl,hs⟩:=Yq hr
   rw[HT hx]
   simp only[HU,AB,if_pos (CT hi)]
   refine .succ ?_
   simp only[NX,if_true,AG hx,Bc,F5]
   refine Ev.bO1 (N8 hs) ?_
   cases nm 97 122 q
   ·simp only[bs];exact .ret
   ·simp only[bs,AE,AF hi h4.1];exact ih
 exact loop 0 (Nat.zero_le _)
theorem d2 (k4:Ev (fun n=>HU n l4 z5 s6 l7 z8 s9 l10 f z16 (0:Int)) R) (b:Bool):Ev (fun n=>B2 n l4 z5 s6 l7 z8 s9 l10 f z16 (!b)) (b&&((N || decide (l4.length=0))&&(decide (l4.length≤6)&&R))):=by
 have k3:∀b,Ev (fun n=>GS n l4 z5 s6 l7 z8 s9 l10 f z16 (!b)) (b&&R):=by
  intro b
  refine .succ ?_
  cases b
  ·simp only[GS,bs];exact .ret
  ·simp only[GS,bs];exact k4
 have k31:=k3 true
 have kI:=k3 false
 simp only[Bool.not_true,Bool.not_false,Bool.true_and,Bool.false_and]at k31 kI
 refine .succ ?_
 cases b
 ·simp only[B2,bs];exact .ret
 simp only[B2,bs]
 refine Ev.bO1 G.hN ?_
 by_cases c:l4.length=0<;>by_cases c6:l4.length≤6<;>cases N<;>simp only[AB,q0,c,c6,show ((6:Int)<(l4.length:Int))=¬l4.length≤6 by apply propext;omega,not_true_eq_false,not_false_eq_true,decide_true,decide_false,bs]<;>first | exact k31 | exact kI
theorem d1 (h3:s3.size≤maxLen) (k2:∀b,Ev (fun n=>B2 n l4 z5 s6 l7 z8 s9 l10 f z16 (!b)) (b&&R)) (b:Bool):Ev (fun n=>B3 n s3 l4 z5 s6 l7 z8 s9 l10 f z16 (!b)) (b&&(cond s (nm 97 122 s3) (cond y (nm 65 90 s3) (emp s3))&&R)):=by
 have k21:=k2 true
 have k20:=k2 false
 simp only[Bool.not_true,Bool.not_false,Bool.true_and,Bool.false_and]at k21 k20
 refine .succ ?_
 cases b
 ·simp only[B3,bs];exact .ret
 simp only[B3,bs]
 refine Ev.bO1 G.hs ?_
 have hsy:=G.sy
 have h1:=G.hs
 have h2:=G.hy
 cases s
 ·simp only[bs]
  refine Ev.bO1 h2 ?_
  cases y
  ·simp only[bs]
   refine Ev.bO1 h1 ?_
   simp only[bs]
   refine Ev.bO1 h2 ?_
   by_cases a:s3=ByteArray.empty<;>simp only[a,emp,decide_true,decide_false,bs]<;>first | exact k21 | exact k20
  ·simp only[bs]
   refine Ev.bO1 (S4 h3) ?_
   cases nm 65 90 s3
   ·simp only[bs];exact k20
   simp only[bs]
   refine Ev.bO1 h1 ?_
   simp only[bs]
   refine Ev.bO1 h2 ?_
   simp only[bs];exact k21
 ·rw[Bool.true_and]at hsy
  subst hsy
  simp only[bs]
  refine Ev.bO1 (N8 h3) ?_
  cases nm 97 122 s3
  ·simp only[bs];exact k20
  simp only[bs]
  refine Ev.bO1 h2 ?_
  simp only[bs]
  refine Ev.bO1 h1 ?_
  simp only[bs];exact k21
theorem d0 (h2:s2.size≤maxLen) (k1:∀b,Ev (fun n=>B3 n s3 l4 z5 s6 l7 z8 s9 l10 f z16 (!b)) (b&&R)):Ev (fun n=>YR n z1 s2 s3 l4 z5 s6 l7 z8 s9 l10 l11 l12 l13 l14 z15 f z16) (cond n (nm 97 122 s2) (cond t (nm 65 90 s2) (emp s2))&&R):=by
 have k21:=k1 true
 have k20:=k1 false
 simp only[Bool.not_true,Bool.not_false,Bool.true_and,Bool.false_and]at k21 k20
 unfold YR
 refine Ev.bO1 G.hn ?_
 have hsy:=G.nt
 have g1:=G.hn
 have g2:=G.ht
 cases n
 ·simp only[bs]
  refine Ev.bO1 g2 ?_
  cases t
  ·simp only[bs]
   refine Ev.bO1 g1 ?_
   simp only[bs]
   refine Ev.bO1 g2 ?_
   by_cases a:s2=ByteArray.empty<;>simp only[a,emp,decide_true,decide_false,bs]<;>first | exact k21 | exact k20
  ·simp only[bs]
   refine Ev.bO1 (S4 h2) ?_
   cases nm 65 90 s2
   ·simp only[bs];exact k20
   simp only[bs]
   refine Ev.bO1 g1 ?_
   simp only[bs]
   refine Ev.bO1 g2 ?_
   simp only[bs];exact k21
 ·rw[Bool.true_and]at hsy
  subst hsy
  simp only[bs]
  refine Ev.bO1 (N8 h2) ?_
  cases nm 97 122 s2
  ·simp only[bs];exact k20
  simp only[bs]
  refine Ev.bO1 g2 ?_
  simp only[bs]
  refine Ev.bO1 g1 ?_
  simp only[bs];exact k21
theorem dc (d0':Ev (fun n=>YR n z1 s2 s3 l4 z5 s6 l7 z8 s9 l10 l11 l12 l13 l14 z15 f z16) X) (hd:1≤z16) (k5:Ev (fun n=>HV n l11 l12 l13 l14 z16 f (0:Int)) R):
  Ev (fun n=>TJ n z1 s2 s3 l4 z5 s6 l7 z8 s9 l10 l11 l12 l13 l14 z15 z16) (X&&(decide ((l11.length:Int)=cond (e || l) 1 (cond x (l4.length:Int) 0))&&((B || decide (l12.length=0))&&((E || decide (l13.length=0))&&((A || decide (l14.length=0))&&(decide (l14.length≤6)&&R)))))):=by
 have k4:∀b,Ev (fun n=>BH n l11 l12 l13 l14 z16 f (!b)) (b&&R):=by
  intro b
  refine .succ ?_
  cases b
  ·simp only[BH,bs];exact .ret
  ·simp only[BH,bs];exact k5
 have mA:=k4 true
 have Yr:=k4 false
 simp only[Bool.not_true,Bool.not_false,Bool.true_and,Bool.false_and]at mA Yr
 have k3:∀z:Int,Ev (fun n=>Ki n l11 l12 l13 l14 z16 f z) (decide ((l11.length:Int)=z)&&((B || decide (l12.length=0))&&((E || decide (l13.length=0))&&((A || decide (l14.length=0))&&(decide (l14.length≤6)&&R))))):=by
  intro z
  refine .succ ?_
  simp only[Ki,AB]
  by_cases c:(l11.length:Int)=z
  rotate_left
  ·simp only[if_neg c,decide_eq_false c,Bool.false_and];exact Yr
  simp only[if_pos c,decide_eq_true c,Bool.true_and]
  have gB:=G.hB
  have gE:=G.hE
  have gA:=G.hA
  have e6:((6:Int)<(l14.length:Int))=¬l14.length≤6:=by apply propext;omega
  have fA:Ev (fun n=>bO1 (BI n f 65) fun b34=>AI (!b34) fun b35=>(if b35=true then (if (0:Int)<(l14.length:Int)then BH n l11 l12 l13 l14 z16 f true else (if (6:Int)<(l14.length:Int)then BH n l11 l12 l13 l14 z16 f true else BH n l11 l12 l13 l14 z16 f false))else (if (6:Int)<(l14.length:Int)then BH n l11 l12 l13 l14 z16 f true else BH n l11 l12 l13 l14 z16 f false))) ((A || decide (l14.length=0))&&(decide (l14.length≤6)&&R)):=by
   refine Ev.bO1 gA ?_
   by_cases c4:l14.length=0<;>by_cases c6:l14.length≤6<;>cases A<;>simp only[q0,e6,c4,c6,not_true_eq_false,not_false_eq_true,decide_true,decide_false,bs]<;>first | exact mA | exact Yr
  have fE:Ev (fun n=>bO1 (BI n f 69) fun b31=>AI (!b31) fun b32=>(if b32=true then (if (0:Int)<(l13.length:Int)then BH n l11 l12 l13 l14 z16 f true else bO1 (BI n f 65) fun b34=>AI (!b34) fun b35=>(if b35=true then (if (0:Int)<(l14.length:Int)then BH n l11 l12 l13 l14 z16 f true else (if (6:Int)<(l14.length:Int)then BH n l11 l12 l13 l14 z16 f true else BH n l11 l12 l13 l14 z16 f false))else (if (6:Int)<(l14.length:Int)then BH n l11 l12 l13 l14 z16 f true else BH n l11 l12 l13 l14 z16 f false)))else bO1 (BI n f 65) fun b34=>AI (!b34) fun b35=>(if b35=true then (if (0:Int)<(l14.length:Int)then BH n l11 l12 l13 l14 z16 f true else (if (6:Int)<(l14.length:Int)then BH n l11 l12 l13 l14 z16 f true else BH n l11 l12 l13 l14 z16 f false))else (if (6:Int)<(l14.length:Int)then BH n l11 l12 l13 l14 z16 f true else BH n l11 l12 l13 l14 z16 f false)))) ((E || decide (l13.length=0))&&((A || decide (l14.length=0))&&(decide (l14.length≤6)&&R))):=by
   refine Ev.bO1 gE ?_
   by_cases c3:l13.length=0<;>cases E<;>simp only[q0]<;>simp only[c3,not_true_eq_false,not_false_eq_true,decide_true,decide_false,bs]<;>first | exact Yr | skip
   all_goals (simpa only[q0,bs] using fA)
  refine Ev.bO1 gB ?_
  by_cases c2:l12.length=0<;>cases B<;>simp only[q0]<;>simp only[c2,not_true_eq_false,not_false_eq_true,decide_true,decide_false,bs]<;>first | exact Yr | skip
  all_goals (simpa only[q0,bs] using fE)
 have k2:∀b,Ev (fun n=>Kh n l4 l11 l12 l13 l14 z16 f b) (decide ((l11.length:Int)=cond b 1 (cond x (l4.length:Int) 0))&&((B || decide (l12.length=0))&&((E || decide (l13.length=0))&&((A || decide (l14.length=0))&&(decide (l14.length≤6)&&R))))):=by
  intro b
  refine .succ ?_
  cases b
  ·simp only[Kh,bs,AB]
   refine Ev.bO1 G.hx ?_
   cases x
   ·simp only[bs];exact k3 0
   ·simp only[bs];exact k3 _
  ·simp only[Kh,bs];exact k3 1
 have k1:∀b,Ev (fun n=>GU n l4 l11 l12 l13 l14 z16 f (!b)) (b&&(decide ((l11.length:Int)=cond (e || l) 1 (cond x (l4.length:Int) 0))&&((B || decide (l12.length=0))&&((E || decide (l13.length=0))&&((A || decide (l14.length=0))&&(decide (l14.length≤6)&&R)))))):=by
  intro b
  refine .succ ?_
  cases b
  ·simp only[GU,bs];exact .ret
  simp only[GU,bs]
  refine Ev.bO1 G.he ?_
  cases e
  ·simp only[bs]
   exact Ev.bO1 G.hl (k2 l)
  ·simp only[bs]
   exact k2 true
 refine .succ ?_
 simp only[TJ]
 refine Ev.bO1 G.f148 ?_
 simp only[if_neg (show ¬z16<1 by omega),if_neg G.ne]
 refine Ev.bO1 d0' ?_
 simp only[AI]
 exact k1 X
end
end Go.Proofs.YtjmofeakajdbiaaGreatDoor
end
set_option linter.unusedVariables false
noncomputable section
namespace Go.Proofs.YtjmofeakajdbiaaGreatDoor
open Go Go.AM
theorem F2 {α:Type}{A:Nat→Option α}{r s:α}(h:Ev A r) (e:r=s):Ev A s:=e▸h
theorem lX {s:ByteArray}{l:List D}(h:DD s l=true):Co s l=false:=by
 unfold DD at h
 obtain⟨h1,_⟩:=Bool.and_eq_true_iff.1 h
 have:s=ByteArray.empty:=of_decide_eq_true h1
 subst this
 have e:nm 97 122 ByteArray.empty=false:=by kernel_rfl
 unfold Co
 rw[e,Bool.false_and]
theorem lY {z:Int}{s:ByteArray}{l:List D}{d:Int}{b:Bool}(h:Cw z s l=true) (hb:Ev (fun n=>Tv n z s l d) b):b=false:=by
 unfold Cw at h
 obtain⟨h1,_⟩:=Bool.and_eq_true_iff.1 h
 have:z=0:=of_decide_eq_true h1
 subst this
 have no:Ev (fun n=>HQ n 0 s l d true) false:=.succ (by simp only[HQ,if_true];exact .ret)
 refine Ev.uniq hb (.succ ?_)
 simp only[Tv,show (0:Int)<1 by decide,if_true]
 by_cases c:d<1
 ·simp only[if_pos c];exact no
 ·simp only[if_neg c];exact no
theorem qU {z1:Int}{s2 s3:ByteArray}{l4:List D}{z5:Int}{s6:ByteArray}{l7:List D}{z8:Int}{s9:ByteArray}{l10 l11 l12 l13 l14:List D}{z15:Int}:Ev (fun n=>KW n z1 s2 s3 l4 z5 s6 l7 z8 s9 l10 l11 l12 l13 l14 z15) (if z1=12 then decide (1≤z8)&&decide (z8≤8)else decide (z8=0)):=by
 unfold KW
 by_cases e:z1=12
 ·simp only[if_pos e]
  refine .succ ?_
  by_cases a:1≤z8<;>by_cases b:z8≤8<;>simp only[NB,a,b,decide_true,decide_false,bs]<;>exact .ret
 ·simp only[if_neg e]
  refine .succ ?_
  by_cases a:z8=0<;>simp only[NB,a,decide_true,decide_false,bs]<;>exact .ret
theorem lZ {z1:Int}{s2 s3:ByteArray}{l4:List D}{z5:Int}{s6:ByteArray}{l7:List D}{z8:Int}{s9:ByteArray}{l10 l11 l12 l13 l14:List D}{z15:Int}(h:14≤z1):Ev (fun n=>JP n z1 s2 s3 l4 z5 s6 l7 z8 s9 l10 l11 l12 l13 l14 z15) (.inl ((0:Int),(0:Int),false,false,false,false,false)):=by
 unfold JP
 simp only[if_neg (show ¬z1=1 by omega)]
 refine .succ ?_
 simp only[FV,Bool.false_eq_true,if_false,if_neg (show ¬z1=2 by omega)]
 refine .succ ?_
 simp only[FU,Bool.false_eq_true,if_false,if_neg (show ¬z1=3 by omega)]
 refine .succ ?_
 simp only[FT,Bool.false_eq_true,if_false,if_neg (show ¬z1=4 by omega)]
 refine .succ ?_
 simp only[FR,Bool.false_eq_true,if_false,if_neg (show ¬z1=5 by omega)]
 refine .succ ?_
 simp only[FQ,Bool.false_eq_true,if_false,if_neg (show ¬z1=6 by omega)]
 refine .succ ?_
 simp only[FP,Bool.false_eq_true,if_false,if_neg (show ¬z1=7 by omega)]
 refine .succ ?_
 simp only[FO,Bool.false_eq_true,if_false,if_neg (show ¬z1=8 by omega)]
 refine .succ ?_
 simp only[FM,Bool.false_eq_true,if_false,if_neg (show ¬z1=9 by omega)]
 refine .succ ?_
 simp only[FL,Bool.false_eq_true,if_false,if_neg (show ¬z1=13 by omega)]
 refine .succ ?_
 simp only[Da,Bool.false_eq_true,if_false,if_neg (show ¬z1=10 by omega)]
 refine .succ ?_
 simp only[D5,Bool.false_eq_true,if_false,if_neg (show ¬z1=11 by omega)]
 refine .succ ?_
 simp only[D4,Bool.false_eq_true,if_false,if_neg (show ¬z1=12 by omega)]
 exact .succ (by simp only[D3,Bool.false_eq_true,if_false];exact .ret)
theorem RE {z1:Int}{s2 s3:ByteArray}{l4:List D}{z5:Int}{s6:ByteArray}{l7:List D}{z8:Int}{s9:ByteArray}{l10 l11 l12 l13 l14:List D}{z15:Int}{z16:Int}(h:Ev (fun n=>JP n z1 s2 s3 l4 z5 s6 l7 z8 s9 l10 l11 l12 l13 l14 z15) (.inl ((0:Int),(0:Int),false,false,false,false,false))∧Ev (fun n=>RD n z1) ByteArray.empty∨z16<1) (h0:0≤z1) (h1:z1<256):LM (fun n=>Ss n z1 s2 s3 l4 z5 s6 l7 z8 s9 l10 l11 l12 l13 l14 z15 z16) (fun n=>TJ n z1 s2 s3 l4 z5 s6 l7 z8 s9 l10 l11 l12 l13 l14 z15 z16):=by
 have n1:∀a b c d e f,Ev (fun n=>Fy n z5 s6 l7 s9 l10 l11 l12 l13 l14 z16 a b c d e f true) false:=fun _ _ _ _ _ _=>.succ (by simp only[Fy,if_true];exact .ret)
 have n4:∀a b c d,Ev (fun n=>Gc n z5 s6 l7 s9 l10 l11 l12 l13 l14 z16 a b c d true) false:=fun _ _ _ _=>.succ (by simp only[Gc,if_true];exact .ret)
 have n7:Ev (fun n=>Gd n z5 s6 l7 s9 l10 l11 l12 l13 l14 z16 true) false:=.succ (by simp only[Gd,if_true];exact .ret)
 have n10:Ev (fun n=>EI n z5 s6 l7 s9 l10 l11 l12 l13 l14 z16 true) false:=.succ (by simp only[EI,if_true];exact .ret)
 have n13:Ev (fun n=>EJ n z5 s6 l7 s9 l10 l11 l12 l13 l14 z16 true) false:=.succ (by simp only[EJ,if_true];exact .ret)
 have nd:∀f,Ev (fun n=>GU n l4 l11 l12 l13 l14 z16 f true) false:=fun f=>.succ (by simp only[GU,if_true];exact .ret)
 rcases h with⟨h2,h3⟩ | hd
 ·refine⟨false,.succ ?_,.succ ?_⟩
  ·simp only[Ss]
   refine Jm h2 (Ev.bO7 .ret ?_)
   by_cases c:z16<1
   ·simp only[if_pos c];exact n1 _ _ _ _ _ _
   ·simp only[if_neg c,bs];exact n1 _ _ _ _ _ _
  ·simp only[TJ]
   refine Ev.bO1 h3 ?_
   by_cases c:z16<1
   ·simp only[if_pos c];exact nd _
   ·simp only[if_neg c,if_true];exact nd _
 ·refine⟨false,.succ ?_,.succ ?_⟩
  ·simp only[Ss]
   obtain⟨v,hv⟩:=@fD z1 s2 s3 l4 z5 s6 l7 z8 s9 l10 l11 l12 l13 l14 z15
   rcases v with⟨a,b,c,d,e,f,g⟩ | ⟨a,b,c,d⟩ | _ | _ | _
   ·refine Jm hv (Ev.bO7 .ret ?_)
    simp only[if_pos hd];exact n1 _ _ _ _ _ _
   ·refine DQ hv (Jm .ret (Ev.bO4 .ret ?_))
    simp only[if_pos hd];exact n4 _ _ _ _
   ·refine DQ hv (DQ .ret (Jm .ret ?_))
    simp only[if_pos hd];exact n7
   ·refine DQ hv (DQ .ret (DQ .ret (Jm .ret ?_)))
    simp only[if_pos hd];exact n10
   ·refine DQ hv (DQ .ret (DQ .ret (DQ .ret ?_)))
    simp only[if_pos hd];exact n13
  ·simp only[TJ]
   have:∃f,Ev (fun n=>RD n z1) f:=by
    by_cases e:14≤z1
    ·refine⟨ByteArray.empty,?_⟩
     unfold RD
     simp only[AE]
     rw[iw (by omega) (by omega)]
     simp only[if_pos e]
     exact .succ (by simp only[GR,if_true];exact .ret)
    ·obtain rfl | rfl | rfl | rfl | rfl | rfl | rfl | rfl | rfl | rfl | rfl | rfl | rfl | rfl:z1=0∨z1=1∨z1=2∨z1=3∨z1=4∨z1=5∨z1=6∨z1=7∨z1=8∨z1=9∨z1=10∨z1=11∨z1=12∨z1=13:=by omega
     ·exact⟨ByteArray.empty,AP fun m=>by kernel_rfl⟩
     ·exact⟨_,tE.f148⟩
     ·exact⟨_,tF.f148⟩
     ·exact⟨_,tG.f148⟩
     ·exact⟨_,tH.f148⟩
     ·exact⟨_,tI.f148⟩
     ·exact⟨_,tJ.f148⟩
     ·exact⟨_,tK.f148⟩
     ·exact⟨_,tL.f148⟩
     ·exact⟨_,tM.f148⟩
     ·exact⟨_,lS.f148⟩
     ·exact⟨_,lU.f148⟩
     ·exact⟨_,lV.f148⟩
     ·exact⟨_,lW.f148⟩
   obtain⟨f,hf⟩:=this
   refine Ev.bO1 hf ?_
   simp only[if_pos hd]
   exact nd f
theorem rI {s2 s3:ByteArray}{l4:List D}{z5:Int}{s6:ByteArray}{l7:List D}{z8:Int}{s9:ByteArray}{l10 l11 l12 l13 l14:List D}{tB Y0 Y1 bB bE A:Bool}(zt:Cw z5 s6 l7=true→tB=false) (np:DD s9 l10=true→Co s9 l10=false) (yY:l11.length=0→Y0=true∧Y1=true) (aA:l14.length=0→A=true):
  ((cond true (nm 97 122 s2) (cond false (nm 65 90 s2) (emp s2))&&(cond false (nm 97 122 s3) (cond false (nm 65 90 s3) (emp s3))&&((false || decide (l4.length=0))&&(decide (l4.length≤6)&&(l4.all F5&&((cond false (decide (1≤z8)&&(decide (z8≤8)&&tB)) (decide (z8=0)&&Cw z5 s6 l7))&&cond false (Co s9 l10) (DD s9 l10)))))))&&(decide ((l11.length:Int)=cond (false || true) 1 (cond false (l4.length:Int) 0))&&((false || decide (l12.length=0))&&((false || decide (l13.length=0))&&((false || decide (l14.length=0))&&(decide (l14.length≤6)&&(cond false Y0 Y1&&(A&&(bB&&bE)))))))))=((if (1:Int)=12 then decide (1≤z8)&&decide (z8≤8)else decide (z8=0))&&(nm 97 122 s2&&(emp s3&&(decide ((l11.length:Int)=1)&&((l4.all F5&&decide (l4.length≤0))&&(!tB&&(Cw z5 s6 l7&&((false==Co s9 l10)&&((false || DD s9 l10)&&((false || decide (l12.length=0))&&(decide (l13.length=0)&&(decide (l14.length=0)&&(cond true (Y1&&decide (l11.length≤6)) (Y0&&decide (l11.length≤6))&&(bB&&(bE&&(A&&decide (l14.length≤6))))))))))))))))):=by
 rw[Bool.eq_iff_iff]
 simp only[Bool.and_eq_true,Bool.or_eq_true,Bool.not_eq_true',beq_iff_eq,decide_eq_true_eq,cond_true,cond_false,Bool.true_or,Bool.false_or,Bool.false_eq_true,false_or,true_or,true_and,show ¬((1:Int)=12)by decide,if_false]
 constructor<;>intro h<;>grind
theorem xS {s2 s3:ByteArray}{l4:List D}{z5:Int}{s6:ByteArray}{l7:List D}{z8:Int}{s9:ByteArray}{l10 l11 l12 l13 l14:List D}{tB Y0 Y1 bB bE A:Bool}(zt:Cw z5 s6 l7=true→tB=false) (np:DD s9 l10=true→Co s9 l10=false) (yY:l11.length=0→Y0=true∧Y1=true) (aA:l14.length=0→A=true):
  ((cond false (nm 97 122 s2) (cond true (nm 65 90 s2) (emp s2))&&(cond false (nm 97 122 s3) (cond false (nm 65 90 s3) (emp s3))&&((true || decide (l4.length=0))&&(decide (l4.length≤6)&&(l4.all F5&&((cond false (decide (1≤z8)&&(decide (z8≤8)&&tB)) (decide (z8=0)&&Cw z5 s6 l7))&&cond false (Co s9 l10) (DD s9 l10)))))))&&(decide ((l11.length:Int)=cond (true || false) 1 (cond false (l4.length:Int) 0))&&((false || decide (l12.length=0))&&((false || decide (l13.length=0))&&((false || decide (l14.length=0))&&(decide (l14.length≤6)&&(cond true Y0 Y1&&(A&&(bB&&bE)))))))))=((if (2:Int)=12 then decide (1≤z8)&&decide (z8≤8)else decide (z8=0))&&(nm 65 90 s2&&(emp s3&&(decide ((l11.length:Int)=1)&&((l4.all F5&&decide (l4.length≤6))&&(!tB&&(Cw z5 s6 l7&&(!Co s9 l10&&(DD s9 l10&&(decide (l12.length=0)&&(decide (l13.length=0)&&(decide (l14.length=0)&&((Y0&&decide (l11.length≤6))&&(bB&&(bE&&(A&&decide (l14.length≤6))))))))))))))))):=by
 rw[Bool.eq_iff_iff]
 simp only[Bool.and_eq_true,Bool.or_eq_true,Bool.not_eq_true',beq_iff_eq,decide_eq_true_eq,cond_true,cond_false,Bool.true_or,Bool.false_or,Bool.false_eq_true,false_or,true_or,true_and,show ¬((2:Int)=12)by decide,if_false]
 constructor<;>intro h<;>grind
theorem xT {s2 s3:ByteArray}{l4:List D}{z5:Int}{s6:ByteArray}{l7:List D}{z8:Int}{s9:ByteArray}{l10 l11 l12 l13 l14:List D}{tB Y0 Y1 bB bE A:Bool}(zt:Cw z5 s6 l7=true→tB=false) (np:DD s9 l10=true→Co s9 l10=false) (yY:l11.length=0→Y0=true∧Y1=true) (aA:l14.length=0→A=true):
  ((cond false (nm 97 122 s2) (cond false (nm 65 90 s2) (emp s2))&&(cond false (nm 97 122 s3) (cond false (nm 65 90 s3) (emp s3))&&((false || decide (l4.length=0))&&(decide (l4.length≤6)&&(l4.all F5&&((cond false (decide (1≤z8)&&(decide (z8≤8)&&tB)) (decide (z8=0)&&Cw z5 s6 l7))&&cond true (Co s9 l10) (DD s9 l10)))))))&&(decide ((l11.length:Int)=cond (true || false) 1 (cond false (l4.length:Int) 0))&&((false || decide (l12.length=0))&&((false || decide (l13.length=0))&&((false || decide (l14.length=0))&&(decide (l14.length≤6)&&(cond true Y0 Y1&&(A&&(bB&&bE)))))))))=((if (3:Int)=12 then decide (1≤z8)&&decide (z8≤8)else decide (z8=0))&&(emp s2&&(emp s3&&(decide ((l11.length:Int)=1)&&((l4.all F5&&decide (l4.length≤0))&&(!tB&&(Cw z5 s6 l7&&((true==Co s9 l10)&&((true || DD s9 l10)&&((false || decide (l12.length=0))&&((false || decide (l13.length=0))&&(decide (l14.length=0)&&(cond false (Y1&&decide (l11.length≤6)) (Y0&&decide (l11.length≤6))&&(bB&&(bE&&(A&&decide (l14.length≤6))))))))))))))))):=by
 rw[Bool.eq_iff_iff]
 simp only[Bool.and_eq_true,Bool.or_eq_true,Bool.not_eq_true',beq_iff_eq,decide_eq_true_eq,cond_true,cond_false,Bool.true_or,Bool.false_or,Bool.false_eq_true,false_or,true_or,true_and,show ¬((3:Int)=12)by decide,if_false]
 constructor<;>intro h<;>grind
theorem xU {s2 s3:ByteArray}{l4:List D}{z5:Int}{s6:ByteArray}{l7:List D}{z8:Int}{s9:ByteArray}{l10 l11 l12 l13 l14:List D}{tB Y0 Y1 bB bE A:Bool}(zt:Cw z5 s6 l7=true→tB=false) (np:DD s9 l10=true→Co s9 l10=false) (yY:l11.length=0→Y0=true∧Y1=true) (aA:l14.length=0→A=true):
  ((cond false (nm 97 122 s2) (cond false (nm 65 90 s2) (emp s2))&&(cond false (nm 97 122 s3) (cond false (nm 65 90 s3) (emp s3))&&((false || decide (l4.length=0))&&(decide (l4.length≤6)&&(l4.all F5&&((cond false (decide (1≤z8)&&(decide (z8≤8)&&tB)) (decide (z8=0)&&Cw z5 s6 l7))&&cond false (Co s9 l10) (DD s9 l10)))))))&&(decide ((l11.length:Int)=cond (true || false) 1 (cond false (l4.length:Int) 0))&&((false || decide (l12.length=0))&&((false || decide (l13.length=0))&&((false || decide (l14.length=0))&&(decide (l14.length≤6)&&(cond true Y0 Y1&&(A&&(bB&&bE)))))))))=((if (4:Int)=12 then decide (1≤z8)&&decide (z8≤8)else decide (z8=0))&&(emp s2&&(emp s3&&(decide ((l11.length:Int)=1)&&((l4.all F5&&decide (l4.length≤0))&&(!tB&&(Cw z5 s6 l7&&((false==Co s9 l10)&&((false || DD s9 l10)&&((false || decide (l12.length=0))&&((false || decide (l13.length=0))&&(decide (l14.length=0)&&(cond false (Y1&&decide (l11.length≤6)) (Y0&&decide (l11.length≤6))&&(bB&&(bE&&(A&&decide (l14.length≤6))))))))))))))))):=by
 rw[Bool.eq_iff_iff]
 simp only[Bool.and_eq_true,Bool.or_eq_true,Bool.not_eq_true',beq_iff_eq,decide_eq_true_eq,cond_true,cond_false,Bool.true_or,Bool.false_or,Bool.false_eq_true,false_or,true_or,true_and,show ¬((4:Int)=12)by decide,if_false]
 constructor<;>intro h<;>grind
theorem xV {s2 s3:ByteArray}{l4:List D}{z5:Int}{s6:ByteArray}{l7:List D}{z8:Int}{s9:ByteArray}{l10 l11 l12 l13 l14:List D}{tB Y0 Y1 bB bE A:Bool}(zt:Cw z5 s6 l7=true→tB=false) (np:DD s9 l10=true→Co s9 l10=false) (yY:l11.length=0→Y0=true∧Y1=true) (aA:l14.length=0→A=true):
  ((cond true (nm 97 122 s2) (cond false (nm 65 90 s2) (emp s2))&&(cond false (nm 97 122 s3) (cond false (nm 65 90 s3) (emp s3))&&((false || decide (l4.length=0))&&(decide (l4.length≤6)&&(l4.all F5&&((cond false (decide (1≤z8)&&(decide (z8≤8)&&tB)) (decide (z8=0)&&Cw z5 s6 l7))&&cond false (Co s9 l10) (DD s9 l10)))))))&&(decide ((l11.length:Int)=cond (false || false) 1 (cond false (l4.length:Int) 0))&&((false || decide (l12.length=0))&&((false || decide (l13.length=0))&&((false || decide (l14.length=0))&&(decide (l14.length≤6)&&(cond false Y0 Y1&&(A&&(bB&&bE)))))))))=((if (5:Int)=12 then decide (1≤z8)&&decide (z8≤8)else decide (z8=0))&&(nm 97 122 s2&&(emp s3&&(decide ((l11.length:Int)=0)&&((l4.all F5&&decide (l4.length≤0))&&(!tB&&(Cw z5 s6 l7&&((false==Co s9 l10)&&((false || DD s9 l10)&&((false || decide (l12.length=0))&&(decide (l13.length=0)&&(decide (l14.length=0)&&(cond false (Y1&&decide (l11.length≤6)) (Y0&&decide (l11.length≤6))&&(bB&&(bE&&(A&&decide (l14.length≤6))))))))))))))))):=by
 rw[Bool.eq_iff_iff]
 simp only[Bool.and_eq_true,Bool.or_eq_true,Bool.not_eq_true',beq_iff_eq,decide_eq_true_eq,cond_true,cond_false,Bool.true_or,Bool.false_or,Bool.false_eq_true,false_or,true_or,true_and,show ¬((5:Int)=12)by decide,if_false]
 constructor<;>intro h<;>grind
theorem xW {s2 s3:ByteArray}{l4:List D}{z5:Int}{s6:ByteArray}{l7:List D}{z8:Int}{s9:ByteArray}{l10 l11 l12 l13 l14:List D}{tB Y0 Y1 bB bE A:Bool}(zt:Cw z5 s6 l7=true→tB=false) (np:DD s9 l10=true→Co s9 l10=false) (yY:l11.length=0→Y0=true∧Y1=true) (aA:l14.length=0→A=true):
  ((cond false (nm 97 122 s2) (cond false (nm 65 90 s2) (emp s2))&&(cond false (nm 97 122 s3) (cond false (nm 65 90 s3) (emp s3))&&((false || decide (l4.length=0))&&(decide (l4.length≤6)&&(l4.all F5&&((cond false (decide (1≤z8)&&(decide (z8≤8)&&tB)) (decide (z8=0)&&Cw z5 s6 l7))&&cond false (Co s9 l10) (DD s9 l10)))))))&&(decide ((l11.length:Int)=cond (true || false) 1 (cond false (l4.length:Int) 0))&&((true || decide (l12.length=0))&&((true || decide (l13.length=0))&&((false || decide (l14.length=0))&&(decide (l14.length≤6)&&(cond true Y0 Y1&&(A&&(bB&&bE)))))))))=((if (6:Int)=12 then decide (1≤z8)&&decide (z8≤8)else decide (z8=0))&&(emp s2&&(emp s3&&(decide ((l11.length:Int)=1)&&((l4.all F5&&decide (l4.length≤0))&&(!tB&&(Cw z5 s6 l7&&((false==Co s9 l10)&&((false || DD s9 l10)&&((true || decide (l12.length=0))&&((true || decide (l13.length=0))&&(decide (l14.length=0)&&(cond false (Y1&&decide (l11.length≤6)) (Y0&&decide (l11.length≤6))&&(bB&&(bE&&(A&&decide (l14.length≤6))))))))))))))))):=by
 rw[Bool.eq_iff_iff]
 simp only[Bool.and_eq_true,Bool.or_eq_true,Bool.not_eq_true',beq_iff_eq,decide_eq_true_eq,cond_true,cond_false,Bool.true_or,Bool.false_or,Bool.false_eq_true,false_or,true_or,true_and,show ¬((6:Int)=12)by decide,if_false]
 constructor<;>intro h<;>grind
theorem xX {s2 s3:ByteArray}{l4:List D}{z5:Int}{s6:ByteArray}{l7:List D}{z8:Int}{s9:ByteArray}{l10 l11 l12 l13 l14:List D}{tB Y0 Y1 bB bE A:Bool}(zt:Cw z5 s6 l7=true→tB=false) (np:DD s9 l10=true→Co s9 l10=false) (yY:l11.length=0→Y0=true∧Y1=true) (aA:l14.length=0→A=true):
  ((cond false (nm 97 122 s2) (cond false (nm 65 90 s2) (emp s2))&&(cond false (nm 97 122 s3) (cond false (nm 65 90 s3) (emp s3))&&((false || decide (l4.length=0))&&(decide (l4.length≤6)&&(l4.all F5&&((cond false (decide (1≤z8)&&(decide (z8≤8)&&tB)) (decide (z8=0)&&Cw z5 s6 l7))&&cond false (Co s9 l10) (DD s9 l10)))))))&&(decide ((l11.length:Int)=cond (true || false) 1 (cond false (l4.length:Int) 0))&&((true || decide (l12.length=0))&&((false || decide (l13.length=0))&&((false || decide (l14.length=0))&&(decide (l14.length≤6)&&(cond true Y0 Y1&&(A&&(bB&&bE)))))))))=((if (7:Int)=12 then decide (1≤z8)&&decide (z8≤8)else decide (z8=0))&&(emp s2&&(emp s3&&(decide ((l11.length:Int)=1)&&((l4.all F5&&decide (l4.length≤0))&&(!tB&&(Cw z5 s6 l7&&((false==Co s9 l10)&&((false || DD s9 l10)&&((true || decide (l12.length=0))&&((false || decide (l13.length=0))&&(decide (l14.length=0)&&(cond false (Y1&&decide (l11.length≤6)) (Y0&&decide (l11.length≤6))&&(bB&&(bE&&(A&&decide (l14.length≤6))))))))))))))))):=by
 rw[Bool.eq_iff_iff]
 simp only[Bool.and_eq_true,Bool.or_eq_true,Bool.not_eq_true',beq_iff_eq,decide_eq_true_eq,cond_true,cond_false,Bool.true_or,Bool.false_or,Bool.false_eq_true,false_or,true_or,true_and,show ¬((7:Int)=12)by decide,if_false]
 constructor<;>intro h<;>grind
theorem xY {s2 s3:ByteArray}{l4:List D}{z5:Int}{s6:ByteArray}{l7:List D}{z8:Int}{s9:ByteArray}{l10 l11 l12 l13 l14:List D}{tB Y0 Y1 bB bE A:Bool}(zt:Cw z5 s6 l7=true→tB=false) (np:DD s9 l10=true→Co s9 l10=false) (yY:l11.length=0→Y0=true∧Y1=true) (aA:l14.length=0→A=true):
  ((cond true (nm 97 122 s2) (cond false (nm 65 90 s2) (emp s2))&&(cond false (nm 97 122 s3) (cond true (nm 65 90 s3) (emp s3))&&((false || decide (l4.length=0))&&(decide (l4.length≤6)&&(l4.all F5&&((cond false (decide (1≤z8)&&(decide (z8≤8)&&tB)) (decide (z8=0)&&Cw z5 s6 l7))&&cond false (Co s9 l10) (DD s9 l10)))))))&&(decide ((l11.length:Int)=cond (false || false) 1 (cond false (l4.length:Int) 0))&&((false || decide (l12.length=0))&&((false || decide (l13.length=0))&&((true || decide (l14.length=0))&&(decide (l14.length≤6)&&(cond false Y0 Y1&&(A&&(bB&&bE)))))))))=((if (8:Int)=12 then decide (1≤z8)&&decide (z8≤8)else decide (z8=0))&&(nm 97 122 s2&&(nm 65 90 s3&&(decide ((l11.length:Int)=0)&&((l4.all F5&&decide (l4.length≤0))&&(!tB&&(Cw z5 s6 l7&&(!Co s9 l10&&(DD s9 l10&&(decide (l12.length=0)&&(decide (l13.length=0)&&((Y0&&decide (l11.length≤6))&&(bB&&(bE&&(A&&decide (l14.length≤6)))))))))))))))):=by
 rw[Bool.eq_iff_iff]
 simp only[Bool.and_eq_true,Bool.or_eq_true,Bool.not_eq_true',beq_iff_eq,decide_eq_true_eq,cond_true,cond_false,Bool.true_or,Bool.false_or,Bool.false_eq_true,false_or,true_or,true_and,show ¬((8:Int)=12)by decide,if_false]
 constructor<;>intro h<;>grind
theorem xZ {s2 s3:ByteArray}{l4:List D}{z5:Int}{s6:ByteArray}{l7:List D}{z8:Int}{s9:ByteArray}{l10 l11 l12 l13 l14:List D}{tB Y0 Y1 bB bE A:Bool}(zt:Cw z5 s6 l7=true→tB=false) (np:DD s9 l10=true→Co s9 l10=false) (yY:l11.length=0→Y0=true∧Y1=true) (aA:l14.length=0→A=true):
  ((cond false (nm 97 122 s2) (cond false (nm 65 90 s2) (emp s2))&&(cond false (nm 97 122 s3) (cond false (nm 65 90 s3) (emp s3))&&((false || decide (l4.length=0))&&(decide (l4.length≤6)&&(l4.all F5&&((cond false (decide (1≤z8)&&(decide (z8≤8)&&tB)) (decide (z8=0)&&Cw z5 s6 l7))&&cond false (Co s9 l10) (DD s9 l10)))))))&&(decide ((l11.length:Int)=cond (false || false) 1 (cond false (l4.length:Int) 0))&&((true || decide (l12.length=0))&&((false || decide (l13.length=0))&&((false || decide (l14.length=0))&&(decide (l14.length≤6)&&(cond false Y0 Y1&&(A&&(bB&&bE)))))))))=((if (9:Int)=12 then decide (1≤z8)&&decide (z8≤8)else decide (z8=0))&&(emp s2&&(emp s3&&(decide ((l11.length:Int)=0)&&((l4.all F5&&decide (l4.length≤0))&&(!tB&&(Cw z5 s6 l7&&((false==Co s9 l10)&&((false || DD s9 l10)&&((true || decide (l12.length=0))&&((false || decide (l13.length=0))&&(decide (l14.length=0)&&(cond false (Y1&&decide (l11.length≤6)) (Y0&&decide (l11.length≤6))&&(bB&&(bE&&(A&&decide (l14.length≤6))))))))))))))))):=by
 rw[Bool.eq_iff_iff]
 simp only[Bool.and_eq_true,Bool.or_eq_true,Bool.not_eq_true',beq_iff_eq,decide_eq_true_eq,cond_true,cond_false,Bool.true_or,Bool.false_or,Bool.false_eq_true,false_or,true_or,true_and,show ¬((9:Int)=12)by decide,if_false]
 constructor<;>intro h<;>grind
theorem qV {s2 s3:ByteArray}{l4:List D}{z5:Int}{s6:ByteArray}{l7:List D}{z8:Int}{s9:ByteArray}{l10 l11 l12 l13 l14:List D}{tB Y0 Y1 bB bE A:Bool}(zt:Cw z5 s6 l7=true→tB=false) (np:DD s9 l10=true→Co s9 l10=false) (yY:l11.length=0→Y0=true∧Y1=true) (aA:l14.length=0→A=true):
  ((cond false (nm 97 122 s2) (cond false (nm 65 90 s2) (emp s2))&&(cond false (nm 97 122 s3) (cond false (nm 65 90 s3) (emp s3))&&((true || decide (l4.length=0))&&(decide (l4.length≤6)&&(l4.all F5&&((cond false (decide (1≤z8)&&(decide (z8≤8)&&tB)) (decide (z8=0)&&Cw z5 s6 l7))&&cond false (Co s9 l10) (DD s9 l10)))))))&&(decide ((l11.length:Int)=cond (false || false) 1 (cond true (l4.length:Int) 0))&&((true || decide (l12.length=0))&&((false || decide (l13.length=0))&&((false || decide (l14.length=0))&&(decide (l14.length≤6)&&(cond false Y0 Y1&&(A&&(bB&&bE)))))))))=((if (10:Int)=12 then decide (1≤z8)&&decide (z8≤8)else decide (z8=0))&&(emp s2&&(emp s3&&(decide ((l11.length:Int)=(l4.length:Int))&&((l4.all F5&&decide (l4.length≤6))&&(!tB&&(Cw z5 s6 l7&&((false==Co s9 l10)&&((false || DD s9 l10)&&((true || decide (l12.length=0))&&((false || decide (l13.length=0))&&(decide (l14.length=0)&&(cond true (Y1&&decide (l11.length≤6)) (Y0&&decide (l11.length≤6))&&(bB&&(bE&&(A&&decide (l14.length≤6))))))))))))))))):=by
 rw[Bool.eq_iff_iff]
 simp only[Bool.and_eq_true,Bool.or_eq_true,Bool.not_eq_true',beq_iff_eq,decide_eq_true_eq,cond_true,cond_false,Bool.true_or,Bool.false_or,Bool.false_eq_true,false_or,true_or,true_and,show ¬((10:Int)=12)by decide,if_false]
 constructor<;>intro h<;>grind
theorem qW {s2 s3:ByteArray}{l4:List D}{z5:Int}{s6:ByteArray}{l7:List D}{z8:Int}{s9:ByteArray}{l10 l11 l12 l13 l14:List D}{tB Y0 Y1 bB bE A:Bool}(zt:Cw z5 s6 l7=true→tB=false) (np:DD s9 l10=true→Co s9 l10=false) (yY:l11.length=0→Y0=true∧Y1=true) (aA:l14.length=0→A=true):
  ((cond true (nm 97 122 s2) (cond false (nm 65 90 s2) (emp s2))&&(cond false (nm 97 122 s3) (cond false (nm 65 90 s3) (emp s3))&&((false || decide (l4.length=0))&&(decide (l4.length≤6)&&(l4.all F5&&((cond false (decide (1≤z8)&&(decide (z8≤8)&&tB)) (decide (z8=0)&&Cw z5 s6 l7))&&cond true (Co s9 l10) (DD s9 l10)))))))&&(decide ((l11.length:Int)=cond (false || false) 1 (cond false (l4.length:Int) 0))&&((true || decide (l12.length=0))&&((false || decide (l13.length=0))&&((false || decide (l14.length=0))&&(decide (l14.length≤6)&&(cond false Y0 Y1&&(A&&(bB&&bE)))))))))=((if (11:Int)=12 then decide (1≤z8)&&decide (z8≤8)else decide (z8=0))&&(nm 97 122 s2&&(emp s3&&(decide ((l11.length:Int)=0)&&((l4.all F5&&decide (l4.length≤0))&&(!tB&&(Cw z5 s6 l7&&((true==Co s9 l10)&&((true || DD s9 l10)&&((true || decide (l12.length=0))&&(decide (l13.length=0)&&(decide (l14.length=0)&&(cond false (Y1&&decide (l11.length≤6)) (Y0&&decide (l11.length≤6))&&(bB&&(bE&&(A&&decide (l14.length≤6))))))))))))))))):=by
 rw[Bool.eq_iff_iff]
 simp only[Bool.and_eq_true,Bool.or_eq_true,Bool.not_eq_true',beq_iff_eq,decide_eq_true_eq,cond_true,cond_false,Bool.true_or,Bool.false_or,Bool.false_eq_true,false_or,true_or,true_and,show ¬((11:Int)=12)by decide,if_false]
 constructor<;>intro h<;>grind
theorem qX {s2 s3:ByteArray}{l4:List D}{z5:Int}{s6:ByteArray}{l7:List D}{z8:Int}{s9:ByteArray}{l10 l11 l12 l13 l14:List D}{tB Y0 Y1 bB bE A:Bool}(zt:Cw z5 s6 l7=true→tB=false) (np:DD s9 l10=true→Co s9 l10=false) (yY:l11.length=0→Y0=true∧Y1=true) (aA:l14.length=0→A=true):
  ((cond true (nm 97 122 s2) (cond false (nm 65 90 s2) (emp s2))&&(cond true (nm 97 122 s3) (cond false (nm 65 90 s3) (emp s3))&&((false || decide (l4.length=0))&&(decide (l4.length≤6)&&(l4.all F5&&((cond true (decide (1≤z8)&&(decide (z8≤8)&&tB)) (decide (z8=0)&&Cw z5 s6 l7))&&cond false (Co s9 l10) (DD s9 l10)))))))&&(decide ((l11.length:Int)=cond (false || false) 1 (cond false (l4.length:Int) 0))&&((false || decide (l12.length=0))&&((false || decide (l13.length=0))&&((false || decide (l14.length=0))&&(decide (l14.length≤6)&&(cond false Y0 Y1&&(A&&(bB&&bE)))))))))=((if (12:Int)=12 then decide (1≤z8)&&decide (z8≤8)else decide (z8=0))&&(nm 97 122 s2&&(nm 97 122 s3&&(decide ((l11.length:Int)=0)&&((l4.all F5&&decide (l4.length≤0))&&(tB&&(!Co s9 l10&&(DD s9 l10&&(decide (l12.length=0)&&(decide (l13.length=0)&&(decide (l14.length=0)&&((Y0&&decide (l11.length≤6))&&(bB&&(bE&&(A&&decide (l14.length≤6)))))))))))))))):=by
 rw[Bool.eq_iff_iff]
 simp only[Bool.and_eq_true,Bool.or_eq_true,Bool.not_eq_true',beq_iff_eq,decide_eq_true_eq,cond_true,cond_false,Bool.true_or,Bool.false_or,Bool.false_eq_true,false_or,true_or,true_and,if_true]
 constructor<;>intro h<;>grind
theorem qY {s2 s3:ByteArray}{l4:List D}{z5:Int}{s6:ByteArray}{l7:List D}{z8:Int}{s9:ByteArray}{l10 l11 l12 l13 l14:List D}{tB Y0 Y1 bB bE A:Bool}(zt:Cw z5 s6 l7=true→tB=false) (np:DD s9 l10=true→Co s9 l10=false) (yY:l11.length=0→Y0=true∧Y1=true) (aA:l14.length=0→A=true):
  ((cond false (nm 97 122 s2) (cond false (nm 65 90 s2) (emp s2))&&(cond false (nm 97 122 s3) (cond false (nm 65 90 s3) (emp s3))&&((false || decide (l4.length=0))&&(decide (l4.length≤6)&&(l4.all F5&&((cond false (decide (1≤z8)&&(decide (z8≤8)&&tB)) (decide (z8=0)&&Cw z5 s6 l7))&&cond false (Co s9 l10) (DD s9 l10)))))))&&(decide ((l11.length:Int)=cond (false || false) 1 (cond false (l4.length:Int) 0))&&((true || decide (l12.length=0))&&((false || decide (l13.length=0))&&((false || decide (l14.length=0))&&(decide (l14.length≤6)&&(cond false Y0 Y1&&(A&&(bB&&bE)))))))))=((if (13:Int)=12 then decide (1≤z8)&&decide (z8≤8)else decide (z8=0))&&(emp s2&&(emp s3&&(decide ((l11.length:Int)=0)&&((l4.all F5&&decide (l4.length≤0))&&(!tB&&(Cw z5 s6 l7&&((false==Co s9 l10)&&((false || DD s9 l10)&&((true || decide (l12.length=0))&&((false || decide (l13.length=0))&&(decide (l14.length=0)&&(cond false (Y1&&decide (l11.length≤6)) (Y0&&decide (l11.length≤6))&&(bB&&(bE&&(A&&decide (l14.length≤6))))))))))))))))):=by
 rw[Bool.eq_iff_iff]
 simp only[Bool.and_eq_true,Bool.or_eq_true,Bool.not_eq_true',beq_iff_eq,decide_eq_true_eq,cond_true,cond_false,Bool.true_or,Bool.false_or,Bool.false_eq_true,false_or,true_or,true_and,show ¬((13:Int)=12)by decide,if_false]
 constructor<;>intro h<;>grind
theorem fF {z1:Int}{s2 s3:ByteArray}{l4:List D}{z5:Int}{s6:ByteArray}{l7:List D}{z8:Int}{s9:ByteArray}{l10 l11 l12 l13 l14:List D}{z15:Int}{z16:Int}(d0':0≤z16) (d1':z16≤40) (h0:0≤z1) (h1:z1<256) (h2:s2.size≤maxLen) (h3:s3.size≤maxLen) (h4:AK Ap 9 l4) (h6:s6.size≤maxLen) (h7:AK Ap 33 l7) (h9:s9.size≤maxLen) (h10:AK Ap 9 l10) (h11:AK Ap 39 l11) (h14:AK Ap 95 l14)
  (hb:1≤z16→∃r,Ev (fun n=>CS n l12 (l12.length:Int) z16) (r,z16)∧Ev (fun n=>RN n l12 (z16 - 1)) r) (he:1≤z16→∃r,Ev (fun n=>CS n l13 (l13.length:Int) z16) (r,z16)∧Ev (fun n=>RN n l13 (z16 - 1)) r)
  (ha:1≤z16→∀(s1 s2:ByteArray) (m:List D),.agg [.str s1,.str s2,.list true 15 m]∈l14→∃r,Ev (fun n=>CS n m (m.length:Int) z16) (r,z16)∧Ev (fun n=>RN n m (z16 - 1)) r):LM (fun n=>Ss n z1 s2 s3 l4 z5 s6 l7 z8 s9 l10 l11 l12 l13 l14 z15 z16) (fun n=>TJ n z1 s2 s3 l4 z5 s6 l7 z8 s9 l10 l11 l12 l13 l14 z15 z16):=by
 by_cases hd1:z16<1
 ·exact RE (.inr hd1) h0 h1
 by_cases hz:z1=0
 ·subst hz
  exact RE (.inl ⟨AP fun m=>by kernel_rfl,AP fun m=>by kernel_rfl⟩) h0 h1
 by_cases hz:14≤z1
 ·refine RE (.inl ⟨lZ hz,?_⟩) h0 h1
  unfold RD
  simp only[AE]
  rw[iw (by omega) (by omega)]
  simp only[if_pos hz]
  exact .succ (by simp only[GR,if_true];exact .ret)
 have hd:1≤z16∧z16≤40:=⟨by omega,d1'⟩
 obtain⟨bB,b1,b2⟩:=hb hd.1
 obtain⟨bE,e1,e2⟩:=he hd.1
 obtain⟨A,aA,a1,a2⟩:=YT h14 hd.1 hd.2 (ha hd.1)
 obtain⟨Y0,Y1,yY,y0,y1,y2⟩:=Zn h11 hd.1 hd.2
 obtain⟨tB,t1,t2⟩:=NP l7 h7 z5 s6 (z16 - 1) h6 (by omega) (by omega)
 have G:Pg z5 s6 l7 s9 l10 l11 l12 l13 l14 z16 tB (Y0&&decide (l11.length≤6)) (Y1&&decide (l11.length≤6)) bB bE (A&&decide (l14.length≤6)):=⟨hd,t1,kP h9 h10,y0,y1,b1,e1,a1⟩
 have zt:=fun h=>lY (l:=l7) (s:=s6) h t2
 have np:=fun h=>lX (s:=s9) (l:=l10) h
 have cnt:=@qU z1 s2 s3 l4 z5 s6 l7 z8 s9 l10 l11 l12 l13 l14 z15
 have doc:∀{f:ByteArray} {n t s y N T p e l x B E A':Bool} (F:Fm z1 f n t s y N T p e l x B E A'),_:=fun F=>dc F (d0 F h2 (d1 F h3 (d2 F (d4 F (z8:=z8) (s9:=s9) (l10:=l10) hd t2 h4 h9 h10)))) (l11:=l11) (l12:=l12) (l13:=l13) (l14:=l14) (z15:=z15) hd.1 (y2 l12 l13 l14 _ _ _ F.he (a2 l12 l13 _ _ b2 e2))
 obtain rfl | rfl | rfl | rfl | rfl | rfl | rfl | rfl | rfl | rfl | rfl | rfl | rfl:z1=1∨z1=2∨z1=3∨z1=4∨z1=5∨z1=6∨z1=7∨z1=8∨z1=9∨z1=10∨z1=11∨z1=12∨z1=13:=by omega
 ·refine⟨_,qS G (z24:=1) (b25:=false) (b26:=false) (b27:=true) (AP fun m=>by kernel_rfl) cnt h2 h3 h4,F2 (doc tE) ?_⟩
  exact rI zt np yY aA
 ·refine⟨_,qT G (AP fun m=>by kernel_rfl) cnt h2 h3 h4,F2 (doc tF) ?_⟩
  exact xS zt np yY aA
 ·refine⟨_,gI G (k:=0) (z18:=1) (b19:=true) (b20:=false) (b21:=false) (b22:=false) (AP fun m=>by kernel_rfl) cnt h2 h3 h4,F2 (doc tG) ?_⟩
  exact xT zt np yY aA
 ·refine⟨_,gI G (k:=0) (z18:=1) (b19:=false) (b20:=false) (b21:=false) (b22:=false) (AP fun m=>by kernel_rfl) cnt h2 h3 h4,F2 (doc tH) ?_⟩
  exact xU zt np yY aA
 ·refine⟨_,qS G (z24:=0) (b25:=false) (b26:=false) (b27:=false) (AP fun m=>by kernel_rfl) cnt h2 h3 h4,F2 (doc tI) ?_⟩
  exact xV zt np yY aA
 ·refine⟨_,gI G (k:=0) (z18:=1) (b19:=false) (b20:=true) (b21:=true) (b22:=false) (AP fun m=>by kernel_rfl) cnt h2 h3 h4,F2 (doc tJ) ?_⟩
  exact xW zt np yY aA
 ·refine⟨_,gI G (k:=0) (z18:=1) (b19:=false) (b20:=true) (b21:=false) (b22:=false) (AP fun m=>by kernel_rfl) cnt h2 h3 h4,F2 (doc tK) ?_⟩
  exact xX zt np yY aA
 ·refine⟨_,xR G (AP fun m=>by kernel_rfl) cnt h2 h3 h4,F2 (doc tL) ?_⟩
  exact xY zt np yY aA
 ·refine⟨_,gI G (k:=0) (z18:=0) (b19:=false) (b20:=true) (b21:=false) (b22:=false) (AP fun m=>by kernel_rfl) cnt h2 h3 h4,F2 (doc tM) ?_⟩
  exact xZ zt np yY aA
 ·refine⟨_,gI G (k:=6) (z18:=(l4.length:Int)) (b19:=false) (b20:=true) (b21:=false) (b22:=true) (AP fun m=>by kernel_rfl) cnt h2 h3 h4,F2 (doc lS) ?_⟩
  exact qV zt np yY aA
 ·refine⟨_,qS G (z24:=0) (b25:=true) (b26:=true) (b27:=false) (AP fun m=>by kernel_rfl) cnt h2 h3 h4,F2 (doc lU) ?_⟩
  exact qW zt np yY aA
 ·refine⟨_,gV G (AP fun m=>by kernel_rfl) cnt h2 h3 h4,F2 (doc lV) ?_⟩
  exact qX zt np yY aA
 ·refine⟨_,gI G (k:=0) (z18:=0) (b19:=false) (b20:=true) (b21:=false) (b22:=false) (AP fun m=>by kernel_rfl) cnt h2 h3 h4,F2 (doc lW) ?_⟩
  exact qY zt np yY aA
theorem Zo (l:List D):AK Ap 50 l→∀d:Int,1≤d→d≤40→∃r,Ev (fun n=>CS n l (l.length:Int) d) (r,d)∧Ev (fun n=>gD n l (l.length:Int) d) (r,d)∧Ev (fun n=>RN n l (d - 1)) r:=by
 refine Bt (P:=fun l=>AK Ap 50 l→∀d:Int,1≤d→d≤40→∃r,Ev (fun n=>CS n l (l.length:Int) d) (r,d)∧Ev (fun n=>gD n l (l.length:Int) d) (r,d)∧Ev (fun n=>RN n l (d - 1)) r) (fun l ih h d d0 d1=>?_) l
 have wd:IntKind.i64.wrap (d - 1)=d - 1:=iw (by omega) (by omega)
 have loop:∀i:Nat,i≤l.length→∃r,Ev (fun n=>Hl n l (l.length:Int) (i:Int) d) (r,d)∧Ev (fun n=>PE n l (l.length:Int) (i:Int) d) (r,d)∧Ev (fun n=>Pa n l (d - 1) (i:Int)) r:=by
  refine down l.length ⟨true,.succ ?_,.succ ?_,.succ ?_⟩ ?_
  ·simp only[Hl,AB,Int.lt_irrefl,if_false]
   exact .succ (by simp only[Hm,Bool.false_eq_true,if_false,AB,Int.le_refl,if_true];exact .ret)
  ·simp only[PE,AB,Int.lt_irrefl,if_false]
   exact .succ (by simp only[PF,Bool.false_eq_true,if_false,AB,Int.le_refl,if_true];exact .ret)
  ·simp only[Pa,AB,Int.lt_irrefl,if_false]
   exact .succ (by simp only[TK,Bool.false_eq_true,if_false];exact .ret)
  ·rintro i hi ⟨r,r1,r2,r3⟩
   obtain⟨x,hx,hm,hr⟩:=h.get hi
   obtain⟨a0,a1,a2,a3,a4,a5,a6,a7,a8,a9,a10,a11,a12,a13,a14,rfl,w0,w1,w2,w3,w4,w5,w6,w7,w8,w9,w10,w11,w12,w13,w14⟩:=N9 hr
   have sub:∀m:List D,SizeOf.sizeOf m<SizeOf.sizeOf l→AK Ap 50 m→1≤d - 1→∃r,Ev (fun n=>CS n m (m.length:Int) (d - 1)) (r,d - 1)∧Ev (fun n=>RN n m (d - 1 - 1)) r:=by
    intro m hs hm2 hd
    obtain⟨r,k1,_,k3⟩:=ih m hs hm2 (d - 1) hd (by omega)
    exact⟨r,k1,k3⟩
   obtain⟨q,q1,q2⟩:=fF (z1:=a0) (s2:=a1) (s3:=a2) (l4:=a3) (z5:=a4) (s6:=a5) (l7:=a6) (z8:=a7) (s9:=a8) (l10:=a9) (l11:=a10) (l12:=a11) (l13:=a12) (l14:=a13) (z15:=a14) (z16:=d - 1) (by omega) (by omega) (EB w0).1 (EB w0).2 w1 w2 w3 w5 w6 w8 w9 w10 w13
    (sub a11 (Au (ag:=true) (sz:=15) hm (by simp)) w11) (sub a12 (Au (ag:=true) (sz:=15) hm (by simp)) w12)
    (fun hd s1 s2 m hm2=>sub m (Nat.lt_trans (Au (ag:=true) (sz:=15) hm2 (by simp)) (Au (ag:=true) (sz:=3) hm (by simp))) (by obtain⟨b0,b1,b2,e,_,_,w⟩:=NN (w13.2 _ hm2);cases e;exact w) hd)
   have p1:Ev (fun n=>Zg n a0 a1 a2 a3 a4 a5 a6 a7 a8 a9 a10 a11 a12 a13 a14 d) (q,d):=.succ (by simp only[Zg,AE,wd];exact Ev.bO1 q1 .ret)
   have p2:Ev (fun n=>mV n a0 a1 a2 a3 a4 a5 a6 a7 a8 a9 a10 a11 a12 a13 a14 d) (q,d):=by unfold mV;simp only[AE,wd];exact Ev.bO1 q1 .ret
   refine⟨q&&r,.succ ?_,.succ ?_,.succ ?_⟩
   ·simp only[Hl,AB,if_pos (CT hi)]
    refine .succ ?_
    simp only[Hm,if_true,AG hx,Af]
    refine Ev.bO2 p1 ?_
    cases q
    ·simp only[bs];exact .ret
    ·simp only[bs,AE,AF hi h.1];exact r1
   ·simp only[PE,AB,if_pos (CT hi)]
    refine .succ ?_
    simp only[PF,if_true,AG hx,Af]
    refine Ev.bO2 p2 ?_
    cases q
    ·simp only[bs];exact .ret
    ·simp only[bs,AE,AF hi h.1];exact r2
   ·simp only[Pa,AB,if_pos (CT hi)]
    refine .succ ?_
    simp only[TK,if_true,AG hx,Af]
    refine Ev.bO1 q2 ?_
    cases q
    ·simp only[bs];exact .ret
    ·simp only[bs,AE,AF hi h.1];exact r3
 obtain⟨r,r1,r2,r3⟩:=loop 0 (Nat.zero_le _)
 exact⟨r,.succ (by simp only[CS];exact r1),by unfold gD;exact r2,.succ (by simp only[RN];exact r3)⟩
end Go.Proofs.YtjmofeakajdbiaaGreatDoor
end
set_option linter.unusedVariables false
noncomputable section
namespace Go.Proofs.YtjmofeakajdbiaaGreatDoor
open Go Go.AM
def bR (z8 z9:Int) (s10 s11 s12:ByteArray) (l13 l14:List D):Bool:=decide (z8=0)&&(decide (z9=0)&&(emp s10&&(emp s11&&(emp s12&&(decide (l13.length=0)&&decide (l14.length=0))))))
theorem qZ {l:List D}:Ev (fun n=>Zd n l ([]:List D)) (decide (l.length=0)):=by
 unfold Zd
 simp only[AB,List.length_nil]
 by_cases c:l.length=0
 ·simp only[if_pos (show (l.length:Int)=((0:Nat):Int)by omega),decide_eq_true c]
  refine .succ ?_
  simp only[M9,Bool.false_eq_true,if_false,AB]
  refine .succ ?_
  simp only[Q2,if_neg (show ¬(0:Int)<(l.length:Int)by omega)]
  exact .succ (by simp only[Q3,Bool.false_eq_true,if_false];exact .ret)
 ·simp only[if_neg (show ¬(l.length:Int)=((0:Nat):Int)by omega),decide_eq_false c]
  exact .succ (by simp only[M9,if_true];exact .ret)
theorem rA {l:List D}:Ev (fun n=>Zf n l ([]:List D)) (decide (l.length=0)):=by
 refine .succ ?_
 simp only[Zf,AB,List.length_nil]
 by_cases c:l.length=0
 ·simp only[if_pos (show (l.length:Int)=((0:Nat):Int)by omega),decide_eq_true c]
  refine .succ ?_
  simp only[NA,Bool.false_eq_true,if_false,AB]
  refine .succ ?_
  simp only[Q4,if_neg (show ¬(0:Int)<(l.length:Int)by omega)]
  exact .succ (by simp only[Q5,Bool.false_eq_true,if_false];exact .ret)
 ·simp only[if_neg (show ¬(l.length:Int)=((0:Nat):Int)by omega),decide_eq_false c]
  exact .succ (by simp only[NA,if_true];exact .ret)
theorem yA {z8 z9 z15:Int}{s10 s11 s12:ByteArray}{l13 l14:List D}:Ev (fun n=>fW n z8 z9 s10 s11 s12 l13 l14 z15 (0:Int) (0:Int) ByteArray.empty ByteArray.empty ByteArray.empty ([]:List D) ([]:List D) (0:Int)) (bR z8 z9 s10 s11 s12 l13 l14):=by
 refine .succ ?_
 unfold bR
 have e117:Ev (fun n=>Ze n s12 l13 ByteArray.empty ([]:List D)) (emp s12&&decide (l13.length=0)):=by
  unfold Ze
  by_cases c:s12=ByteArray.empty
  ·simp only[if_pos c,emp,decide_eq_true c,Bool.true_and];exact Ev.bO1 qZ .ret
  ·simp only[if_neg c,emp,decide_eq_false c,Bool.false_and];exact .ret
 by_cases a:z8=0<;>by_cases b:z9=0<;>by_cases c:s10=ByteArray.empty<;>by_cases d:s11=ByteArray.empty<;>simp only[fW,a,b,c,d,emp,decide_true,decide_false,bs]<;>first | exact .ret | skip
 refine Ev.bO1 e117 ?_
 rw[←Bool.and_assoc]
 simp only[emp]
 cases decide (s12=ByteArray.empty)&&decide (l13.length=0)
 ·simp only[bs];exact .ret
 ·simp only[bs];exact Ev.bO1 rA .ret
theorem yB {z8 z9 z15:Int}{s10 s11 s12:ByteArray}{l13 l14:List D}:Ev (fun n=>mZ n z8 z9 s10 s11 s12 l13 l14 z15) (bR z8 z9 s10 s11 s12 l13 l14):=by
 unfold mZ bR
 by_cases a:z8=0
 rotate_left
 ·simp only[a,decide_false,bs];exact .ret
 by_cases b:z9=0
 rotate_left
 ·simp only[a,b,decide_false,bs];exact .ret
 by_cases c:s10=ByteArray.empty<;>by_cases d:s11=ByteArray.empty<;>by_cases e:s12=ByteArray.empty<;>by_cases f:l13.length=0<;>by_cases g:l14.length=0<;>simp only[a,b,c,d,e,emp,AB,qz]<;>simp only[f,g,decide_true,decide_false,bs]<;>exact .ret
theorem YU {l:List D}(h:AK Ap 74 l) {d:Int}(d0:1≤d) (d1:d≤40):∃Fa Fb:Bool,
  Ev (fun n=>mR n l 6 false d) (Fa&&decide (l.length≤6),false,d)∧Ev (fun n=>Vh n l 6 true d) (Fb&&decide (l.length≤6),true,d)∧
  ∀(z1:Int) (s2:ByteArray) (z4:Int) (s5:ByteArray) (l6 l7:List D) (z8 z9:Int) (s10 s11 s12:ByteArray) (l13 l14:List D) (z15:Int) (R:Bool),Ev (fun n=>LO n s2 z4 s5 l6 l7 z8 z9 s10 s11 s12 l13 l14 z15 d (!decide (z1=3))) R→Ev (fun n=>Jl n z1 s2 l z4 s5 l6 l7 z8 z9 s10 s11 s12 l13 l14 z15 d (0:Int)) (cond (decide (z1=2)) Fb Fa&&R):=by
 have wd:IntKind.i64.wrap (d - 1)=d - 1:=iw (by omega) (by omega)
 have el:∀i,i<l.length→∃s k t m qa qb,l[i]?=some (.agg [.str s,.int .u8 k,.str t,.list true 3 m])∧Ev (fun n=>fZ n s k t m false d) (qa,false,d)∧Ev (fun n=>O9 n s k t m true d) (qb,true,d)∧
   ∀(z1:Int) (s2:ByteArray) (z4:Int) (s5:ByteArray) (l6 l7:List D) (z8 z9:Int) (s10 s11 s12:ByteArray) (l13 l14:List D) (z15:Int) (X:Bool),Ev (fun n=>Jl n z1 s2 l z4 s5 l6 l7 z8 z9 s10 s11 s12 l13 l14 z15 d (IntKind.wrap .i64 ((i:Int)+1))) X→Ev (fun n=>Jl n z1 s2 l z4 s5 l6 l7 z8 z9 s10 s11 s12 l13 l14 z15 d (i:Int)) (cond (decide (z1=2)) qb qa&&X):=by
  intro i hi
  obtain⟨x,hx,hm,hr⟩:=h.get hi
  obtain⟨s,k,t,m,rfl,w0,w1,w2,w3⟩:=Wm hr
  obtain⟨tB,t1,t2⟩:=NP m w3 k t (d - 1) w2 (by omega) (by omega)
  refine⟨s,k,t,m,nm 97 122 s&&tB,nm 65 90 s&&(Cw k t m || tB),hx,?_,?_,?_⟩
  ·unfold fZ
   refine Ev.bO1 (Ld w0) ?_
   cases nm 97 122 s
   ·simp only[bs];exact .ret
   ·simp only[bs,AE,wd];exact Ev.bO1 t1 .ret
  ·unfold O9
   refine Ev.bO1 (RB w0) ?_
   cases nm 65 90 s
   ·simp only[bs];exact .ret
   ·simp only[bs,AE,wd]
    refine Ev.bO1 gM ?_
    cases Cw k t m
    ·simp only[bs];exact Ev.bO1 t1 .ret
    ·simp only[bs];exact .ret
  ·intros
   rename_i z1 s2 z4 s5 l6 l7 z8 z9 s10 s11 s12 l13 l14 z15 X hX
   have k7:Ev (fun n=>TN n z1 s2 l z4 s5 l6 l7 z8 z9 s10 s11 s12 l13 l14 z15 d (i:Int)) X:=.succ (by simp only[TN,AE];exact hX)
   have k5:∀b,Ev (fun n=>Na n z1 s2 l z4 s5 l6 l7 z8 z9 s10 s11 s12 l13 l14 z15 d (i:Int) (!b)) (b&&X):=by
    intro b
    refine .succ ?_
    cases b
    ·simp only[Na,bs];exact .ret
    ·simp only[Na,bs];exact k7
   have k6:∀b,Ev (fun n=>Pb n z1 s2 l z4 s5 l6 l7 z8 z9 s10 s11 s12 l13 l14 z15 d (i:Int) (!b)) (b&&X):=by
    intro b
    refine .succ ?_
    cases b
    ·simp only[Pb,bs];exact .ret
    ·simp only[Pb,bs];exact k7
   refine .succ ?_
   simp only[Jl,AB,if_pos (CT hi)]
   refine .succ ?_
   simp only[TL,if_true,AG hx,Bl]
   by_cases c:z1=2
   ·simp only[if_pos c,decide_eq_true c,cond_true]
    refine .succ ?_
    simp only[TM,if_true]
    refine Ev.bO1 (S4 w0) ?_
    cases nm 65 90 s
    ·simp only[bs];exact k5 false
    ·simp only[bs]
     refine Ev.bO1 qR ?_
     cases Cw k t m
     ·simp only[bs,AE,wd];exact Ev.bO1 t2 (k5 _)
     ·simp only[bs];exact k5 true
   ·simp only[if_neg c,decide_eq_false c,cond_false]
    refine .succ ?_
    simp only[TM,Bool.false_eq_true,if_false]
    refine Ev.bO1 (N8 w0) ?_
    cases nm 97 122 s
    ·simp only[bs];exact k6 false
    ·simp only[bs,AE,wd];exact Ev.bO1 t2 (k6 _)
 have loop:∀i:Nat,i≤l.length→∃Fa Fb:Bool,(l.length≤6→Ev (fun n=>JO n l 6 (i:Int) false d) (Fa,false,d))∧(l.length≤6→Ev (fun n=>EV n l 6 (i:Int) true d) (Fb,true,d))∧
   ∀(z1:Int) (s2:ByteArray) (z4:Int) (s5:ByteArray) (l6 l7:List D) (z8 z9:Int) (s10 s11 s12:ByteArray) (l13 l14:List D) (z15:Int) (R:Bool),Ev (fun n=>LO n s2 z4 s5 l6 l7 z8 z9 s10 s11 s12 l13 l14 z15 d (!decide (z1=3))) R→Ev (fun n=>Jl n z1 s2 l z4 s5 l6 l7 z8 z9 s10 s11 s12 l13 l14 z15 d (i:Int)) (cond (decide (z1=2)) Fb Fa&&R):=by
  refine down l.length ⟨true,true,fun hl=>.succ ?_,fun hl=>.succ ?_,?_⟩ ?_
  ·simp only[JO,AB,Int.lt_irrefl,if_false]
   exact .succ (by simp only[K4,Bool.false_eq_true,if_false,AB,if_pos (show (l.length:Int)≤6 by omega)];exact .ret)
  ·simp only[EV,AB,Int.lt_irrefl,if_false]
   exact .succ (by simp only[FB,Bool.false_eq_true,if_false,AB,if_pos (show (l.length:Int)≤6 by omega)];exact .ret)
  ·intros
   rename_i z1 s2 z4 s5 l6 l7 z8 z9 s10 s11 s12 l13 l14 z15 R hR
   rw[show cond (decide (z1=2)) true true=true by cases decide (z1=2)<;>rfl,Bool.true_and]
   refine .succ ?_
   simp only[Jl,AB,Int.lt_irrefl,if_false]
   refine .succ ?_
   simp only[TL,Bool.false_eq_true,if_false]
   by_cases c:z1=3
   ·simp only[if_pos c]
    rw[decide_eq_true c]at hR
    exact hR
   ·simp only[if_neg c]
    rw[decide_eq_false c]at hR
    exact hR
  ·rintro i hi ⟨Fa,Fb,y0,y1,y2⟩
   obtain⟨s,k,t,m,qa,qb,hx,f1,f2,f3⟩:=el i hi
   refine⟨qa&&Fa,qb&&Fb,fun hl=>.succ ?_,fun hl=>.succ ?_,?_⟩
   ·simp only[JO,AB,if_pos (CT hi),if_pos (show (i:Int)<6 by omega)]
    refine .succ ?_
    simp only[K4,if_true,AG hx,Bl]
    refine Ev.bO3 f1 ?_
    cases qa
    ·simp only[bs];exact .ret
    ·simp only[bs,AE,AF hi h.1];exact y0 hl
   ·simp only[EV,AB,if_pos (CT hi),if_pos (show (i:Int)<6 by omega)]
    refine .succ ?_
    simp only[FB,if_true,AG hx,Bl]
    refine Ev.bO3 f2 ?_
    cases qb
    ·simp only[bs];exact .ret
    ·simp only[bs,AE,AF hi h.1];exact y1 hl
   ·intros
    rename_i z1 s2 z4 s5 l6 l7 z8 z9 s10 s11 s12 l13 l14 z15 R hR
    have g:=f3 z1 s2 z4 s5 l6 l7 z8 z9 s10 s11 s12 l13 l14 z15 (cond (decide (z1=2)) Fb Fa&&R) (by rw[AF hi h.1];exact y2 z1 s2 z4 s5 l6 l7 z8 z9 s10 s11 s12 l13 l14 z15 R hR)
    cases hq:decide (z1=2)
    ·rw[hq]at g;simpa only[cond_false,Bool.and_assoc] using g
    ·rw[hq]at g;simpa only[cond_true,Bool.and_assoc] using g
 have far:¬l.length≤6→∀i:Nat,i≤6→Ev (fun n=>JO n l 6 (i:Int) false d) (false,false,d)∧Ev (fun n=>EV n l 6 (i:Int) true d) (false,true,d):=by
  intro hl
  refine down 6 ⟨.succ ?_,.succ ?_⟩ (fun i hi ih=>?_)
  ·simp only[JO,AB,if_pos (show ((6:Nat):Int)<(l.length:Int)by omega),if_neg (show ¬((6:Nat):Int)<6 by omega)]
   exact .succ (by simp only[K4,Bool.false_eq_true,if_false,AB,if_neg (show ¬(l.length:Int)≤6 by omega)];exact .ret)
  ·simp only[EV,AB,if_pos (show ((6:Nat):Int)<(l.length:Int)by omega),if_neg (show ¬((6:Nat):Int)<6 by omega)]
   exact .succ (by simp only[FB,Bool.false_eq_true,if_false,AB,if_neg (show ¬(l.length:Int)≤6 by omega)];exact .ret)
  ·obtain⟨s,k,t,m,qa,qb,hx,f1,f2,_⟩:=el i (by omega)
   refine⟨.succ ?_,.succ ?_⟩
   ·simp only[JO,AB,if_pos (show (i:Int)<(l.length:Int)by omega),if_pos (show (i:Int)<6 by omega)]
    refine .succ ?_
    simp only[K4,if_true,AG hx,Bl]
    refine Ev.bO3 f1 ?_
    cases qa
    ·simp only[bs];exact .ret
    ·simp only[bs,AE,AF (show i<l.length by omega) h.1];exact ih.1
   ·simp only[EV,AB,if_pos (show (i:Int)<(l.length:Int)by omega),if_pos (show (i:Int)<6 by omega)]
    refine .succ ?_
    simp only[FB,if_true,AG hx,Bl]
    refine Ev.bO3 f2 ?_
    cases qb
    ·simp only[bs];exact .ret
    ·simp only[bs,AE,AF (show i<l.length by omega) h.1];exact ih.2
 obtain⟨Fa,Fb,y0,y1,y2⟩:=loop 0 (Nat.zero_le _)
 refine⟨Fa,Fb,?_,?_,y2⟩
 ·unfold mR
  by_cases hl:l.length≤6
  ·rw[decide_eq_true hl,Bool.and_true];exact y0 hl
  ·rw[decide_eq_false hl,Bool.and_false];exact (far hl 0 (Nat.zero_le _)).1
 ·unfold Vh
  by_cases hl:l.length≤6
  ·rw[decide_eq_true hl,Bool.and_true];exact y1 hl
  ·rw[decide_eq_false hl,Bool.and_false];exact (far hl 0 (Nat.zero_le _)).2
theorem YV {z1:Int}{s2:ByteArray}{l3:List D}{z4:Int}{s5:ByteArray}{l6 l7:List D}{z8 z9:Int}{s10 s11 s12:ByteArray}{l13 l14:List D}{z15 z16:Int}(h0:0≤z8) (h1:z8<256) (h2:s2.size≤maxLen) (h3:AK Ap 74 l3) (h5:s5.size≤maxLen) (h6:AK Ap 33 l6) (h7:AK Ap 50 l7) (h10:s10.size≤maxLen) (h11:s11.size≤maxLen) (h12:s12.size≤maxLen) (h13:AK Ap 9 l13) (h14:AK Ap 39 l14):
  LM (fun n=>gF n z1 s2 l3 z4 s5 l6 l7 z8 z9 s10 s11 s12 l13 l14 z15 z16) (fun n=>gL n z1 s2 l3 z4 s5 l6 l7 z8 z9 s10 s11 s12 l13 l14 z15 z16 39):=by
 obtain⟨Fa,Fb,fa,fb,fd⟩:=YU h3 (d:=39) (by omega) (by omega)
 obtain⟨tB,t1,t2⟩:=NP l6 h6 z4 s5 38 h5 (by omega) (by omega)
 obtain⟨q,q1,q2⟩:=S8 l14 h14 z8 z9 s10 s11 s12 l13 z15 38 h0 h1 h10 h11 h12 h13 (by omega) (by omega)
 obtain⟨w,_,w2,w3⟩:=Zo l7 h7 39 (by omega) (by omega)
 have w39:IntKind.i64.wrap ((39:Int) - 1)=38:=iw (by omega) (by omega)
 have e0:((l7.length:Int)=0)=(l7.length=0):=qz l7
 -- the document's end
 have d8:Ev (fun n=>LO n s2 z4 s5 l6 l7 z8 z9 s10 s11 s12 l13 l14 z15 39 (!decide (z1=3))) (cond (decide (z1=3)) (nm 97 122 s2&&(tB&&(!decide (z8=5∨z8=6)&&(q&&w)))) (nm 65 90 s2&&(Cw z4 s5 l6&&(decide (l7.length=0)&&bR z8 z9 s10 s11 s12 l13 l14)))):=by
  refine .succ ?_
  cases decide (z1=3)
  ·simp only[LO,bs]
   refine Ev.bO1 (S4 h2) ?_
   cases nm 65 90 s2
   ·simp only[bs];exact .ret
   simp only[bs]
   refine Ev.bO1 qR ?_
   cases Cw z4 s5 l6
   ·simp only[bs];exact .ret
   simp only[bs,AB,qz]
   by_cases c:l7.length=0
   ·simp only[if_pos c,decide_eq_true c,Bool.true_and];exact Ev.bO1 yB .ret
   ·simp only[if_neg c,decide_eq_false c,Bool.false_and];exact .ret
  ·simp only[LO,bs]
   refine Ev.bO1 (N8 h2) ?_
   cases nm 97 122 s2
   ·simp only[bs];exact .ret
   simp only[bs,AE,w39]
   refine Ev.bO1 t2 ?_
   cases tB
   ·simp only[bs];exact .ret
   simp only[bs,sY]
   refine Ev.bO1 .ret ?_
   cases decide (z8=5∨z8=6)
   rotate_left
   ·simp only[bs];exact .ret
   simp only[bs]
   refine Ev.bO1 q2 ?_
   cases q
   ·simp only[bs];exact .ret
   simp only[bs]
   exact Ev.bO1 w3 .ret
 have doc:∀r,(1≤z1∧z1≤3→l3.length≤6→(cond (decide (z1=2)) Fb Fa&&cond (decide (z1=3)) (nm 97 122 s2&&(tB&&(!decide (z8=5∨z8=6)&&(q&&w)))) (nm 65 90 s2&&(Cw z4 s5 l6&&(decide (l7.length=0)&&bR z8 z9 s10 s11 s12 l13 l14))))=r)→(¬(1≤z1∧z1≤3∧l3.length≤6)→r=false)→Ev (fun n=>gL n z1 s2 l3 z4 s5 l6 l7 z8 z9 s10 s11 s12 l13 l14 z15 z16 39) r:=by
  intro r ok no
  have n1:Ev (fun n=>LP n z1 s2 l3 z4 s5 l6 l7 z8 z9 s10 s11 s12 l13 l14 z15 39 true) false:=.succ (by simp only[LP,if_true];exact .ret)
  unfold gL
  by_cases a:z1<1
  ·simp only[if_pos a];rw[no (by omega)];exact n1
  by_cases b:3<z1
  ·simp only[if_neg a,if_pos b];rw[no (by omega)];exact n1
  by_cases c:l3.length≤6
  ·simp only[if_neg a,if_neg b,AB,if_neg (show ¬(6:Int)<(l3.length:Int)by omega)]
   refine .succ ?_
   simp only[LP,Bool.false_eq_true,if_false]
   rw[←ok (by omega) c]
   exact fd _ _ _ _ _ _ _ _ _ _ _ _ _ _ _ d8
  ·simp only[if_neg a,if_neg b,AB,if_pos (show (6:Int)<(l3.length:Int)by omega)]
   rw[no (by omega)];exact n1
 -- the program's
 have f69:Ev (fun n=>jB n false z1 s2 l3 z4 s5 l6 l7 z8 z9 s10 s11 s12 l13 l14 z15 z16 39) (Fa&&decide (l3.length≤6),z1,s2,l3,z4,s5,l6,l7,z8,z9,s10,s11,s12,l13,l14,z15,z16,39):=Ev.bO3 fa .ret
 have f69x:Ev (fun n=>Vi n true z1 s2 l3 z4 s5 l6 l7 z8 z9 s10 s11 s12 l13 l14 z15 z16 39) (Fb&&decide (l3.length≤6),z1,s2,l3,z4,s5,l6,l7,z8,z9,s10,s11,s12,l13,l14,z15,z16,39):=Ev.bO3 fb .ret
 have p4:Ev (fun n=>H3 n z1 s2 l3 z4 s5 l6 l7 z8 z9 s10 s11 s12 l13 l14 z15 z16 39 true) (nm 97 122 s2&&((Fa&&decide (l3.length≤6))&&(tB&&(!decide (z8=5∨z8=6)&&(q&&w))))):=by
  refine .succ ?_
  simp only[H3,if_true]
  refine Ev.bO1 (Ld h2) ?_
  cases nm 97 122 s2
  ·simp only[bs];exact .ret
  simp only[bs]
  refine Ev.bO18 f69 ?_
  cases Fa&&decide (l3.length≤6)
  ·simp only[bs];exact .ret
  simp only[bs,AE,w39]
  refine Ev.bO1 t1 ?_
  cases tB
  ·simp only[bs];exact .ret
  simp only[bs,sX]
  refine Ev.bO1 .ret ?_
  cases decide (z8=5∨z8=6)
  rotate_left
  ·simp only[bs];exact .ret
  simp only[bs]
  refine Ev.bO1 q1 ?_
  cases q
  ·simp only[bs];exact .ret
  simp only[bs,AB]
  exact Ev.bO2 w2 .ret
 have p1:∀b:Bool,Ev (fun n=>Ge n z1 s2 l3 z4 s5 l6 l7 z8 z9 s10 s11 s12 l13 l14 z15 z16 39 b) (if z1=1 then b&&(Fa&&decide (l3.length≤6))else if z1=2 then b&&(Fb&&decide (l3.length≤6))else if z1=3 then nm 97 122 s2&&((Fa&&decide (l3.length≤6))&&(tB&&(!decide (z8=5∨z8=6)&&(q&&w))))else false):=by
  intro b
  refine .succ ?_
  simp only[Ge]
  by_cases c1:z1=1
  ·simp only[if_pos c1]
   refine .succ ?_
   simp only[JZ,if_true]
   cases b
   ·simp only[bs];exact .ret
   ·simp only[bs];exact Ev.bO18 f69 .ret
  simp only[if_neg c1]
  refine .succ ?_
  simp only[JZ,Bool.false_eq_true,if_false]
  by_cases c2:z1=2
  ·simp only[if_pos c2]
   refine .succ ?_
   simp only[JY,if_true]
   cases b
   ·simp only[bs];exact .ret
   ·simp only[bs];exact Ev.bO18 f69x .ret
  simp only[if_neg c2]
  refine .succ ?_
  simp only[JY,Bool.false_eq_true,if_false]
  by_cases c3:z1=3
  ·simp only[if_pos c3];exact p4
  ·simp only[if_neg c3]
   exact .succ (by simp only[H3,Bool.false_eq_true,if_false];exact .ret)
 have p:∃b,b=(Cw z4 s5 l6&&(decide (l7.length=0)&&(bR z8 z9 s10 s11 s12 l13 l14&&nm 65 90 s2)))∧∀r,Ev (fun n=>Ge n z1 s2 l3 z4 s5 l6 l7 z8 z9 s10 s11 s12 l13 l14 z15 z16 39 b) r→Ev (fun n=>gF n z1 s2 l3 z4 s5 l6 l7 z8 z9 s10 s11 s12 l13 l14 z15 z16) r:=by
  refine⟨_,rfl,fun r hr=>?_⟩
  unfold gF
  refine Ev.bO1 ?_ .ret
  unfold jZ
  refine Ev.bO1 gM ?_
  revert hr
  cases Cw z4 s5 l6
  ·intro hr;simp only[bs]at hr ⊢;exact hr
  intro hr
  simp only[bs,AB,qz]at hr ⊢
  by_cases c:l7.length=0
  rotate_left
  ·simp only[if_neg c];simp only[decide_eq_false c,Bool.false_and]at hr;exact hr
  simp only[if_pos c]
  simp only[decide_eq_true c,Bool.true_and]at hr
  refine Ev.bO1 yA ?_
  revert hr
  cases bR z8 z9 s10 s11 s12 l13 l14
  ·intro hr;simp only[bs]at hr ⊢;exact hr
  intro hr
  simp only[bs]at hr ⊢
  exact Ev.bO1 (RB h2) hr
 obtain⟨b,hb,pk⟩:=p
 refine⟨_,pk _ (p1 b),doc _ (fun hz hl=>?_) (fun hz=>?_)⟩
 ·rw[decide_eq_true hl]
  obtain rfl | rfl | rfl:z1=1∨z1=2∨z1=3:=by omega
  ·rw[if_pos rfl,hb]
   simp only[show decide ((1:Int)=2)=false from rfl,show decide ((1:Int)=3)=false from rfl,bs]
   rw[Bool.eq_iff_iff]
   simp only[Bool.and_eq_true]
   constructor<;>intro h<;>grind
  ·rw[if_neg (by decide),if_pos rfl,hb]
   simp only[show decide ((2:Int)=2)=true from rfl,show decide ((2:Int)=3)=false from rfl,bs]
   rw[Bool.eq_iff_iff]
   simp only[Bool.and_eq_true]
   constructor<;>intro h<;>grind
  ·rw[if_neg (by decide),if_neg (by decide),if_pos rfl]
   simp only[show decide ((3:Int)=2)=false from rfl,show decide ((3:Int)=3)=true from rfl,bs]
   rw[Bool.eq_iff_iff]
   simp only[Bool.and_eq_true]
   constructor<;>intro h<;>grind
 ·by_cases hl:l3.length≤6
  ·rw[if_neg (by omega),if_neg (by omega),if_neg (by omega)]
  ·rw[decide_eq_false hl]
   simp only[Bool.and_false,Bool.false_and]
   split
   ·rfl
   ·split
    ·rfl
    ·split<;>rfl
theorem TP {l:List D}(h:AK Ap 45 l):LM (fun n=>kA n l) (fun n=>lR n l):=by
 have el:∀i,i<l.length→∃z1 s2 l3 z4 s5 l6 l7 z8 z9 s10 s11 s12 l13 l14 z15 z16 q,l[i]?=some (.agg [.int .u8 z1,.str s2,.list true 4 l3,.int .u8 z4,.str s5,.list true 3 l6,.list true 15 l7,.int .u8 z8,.int .i64 z9,.str s10,.str s11,.str s12,.list false 1 l13,.list true 8 l14,.int .i64 z15,.int .i64 z16])∧
   Ev (fun n=>gF n z1 s2 l3 z4 s5 l6 l7 z8 z9 s10 s11 s12 l13 l14 z15 z16) q∧Ev (fun n=>gL n z1 s2 l3 z4 s5 l6 l7 z8 z9 s10 s11 s12 l13 l14 z15 z16 39) q:=by
  intro i hi
  obtain⟨x,hx,hm,hr⟩:=h.get hi
  obtain⟨a0,a1,a2,a3,a4,a5,a6,a7,a8,a9,a10,a11,a12,a13,a14,a15,rfl,w0,w1,w2,w3,w4,w5,w6,w7,w8,w9,w10,w11,w12,w13,w14,w15⟩:=Un hr
  obtain⟨q,q1,q2⟩:=YV (z1:=a0) (s2:=a1) (l3:=a2) (z4:=a3) (s5:=a4) (l6:=a5) (l7:=a6) (z8:=a7) (z9:=a8) (s10:=a9) (s11:=a10) (s12:=a11) (l13:=a12) (l14:=a13) (z15:=a14) (z16:=a15) (EB w7).1 (EB w7).2 w1 w2 w4 w5 w6 w9 w10 w11 w12 w13
  exact⟨a0,a1,a2,a3,a4,a5,a6,a7,a8,a9,a10,a11,a12,a13,a14,a15,q,hx,q1,q2⟩
 have n1:Ev (fun n=>Pd n l true) false:=.succ (by simp only[Pd,if_true];exact .ret)
 by_cases hl:l.length≤30
 ·have loop:∀i:Nat,i≤l.length→∃r,Ev (fun n=>Ja n l 30 (i:Int)) r∧Ev (fun n=>Pc n l (i:Int)) r:=by
   refine down l.length ⟨true,.succ ?_,.succ ?_⟩ ?_
   ·simp only[Ja,AB,Int.lt_irrefl,if_false]
    exact .succ (by simp only[LK,Bool.false_eq_true,if_false,AB,if_pos (show (l.length:Int)≤30 by omega)];exact .ret)
   ·simp only[Pc,AB,Int.lt_irrefl,if_false]
    exact .succ (by simp only[TO,Bool.false_eq_true,if_false];exact .ret)
   ·rintro i hi ⟨r,r1,r2⟩
    obtain⟨a0,a1,a2,a3,a4,a5,a6,a7,a8,a9,a10,a11,a12,a13,a14,a15,q,hx,q1,q2⟩:=el i hi
    refine⟨q&&r,.succ ?_,.succ ?_⟩
    ·simp only[Ja,AB,if_pos (CT hi),if_pos (show (i:Int)<30 by omega)]
     refine .succ ?_
     simp only[LK,if_true,AG hx,Bd]
     refine Ev.bO1 q1 ?_
     cases q
     ·simp only[bs];exact .ret
     ·simp only[bs,AE,AF hi h.1];exact r1
    ·simp only[Pc,AB,if_pos (CT hi)]
     refine .succ ?_
     simp only[TO,if_true,AG hx,Bd]
     refine Ev.bO1 q2 ?_
     cases q
     ·simp only[bs];exact .ret
     ·simp only[bs,AE,AF hi h.1];exact r2
  obtain⟨r,r1,r2⟩:=loop 0 (Nat.zero_le _)
  refine⟨r,?_,?_⟩
  ·unfold kA mW
   exact Ev.bO1 r1 .ret
  ·unfold lR
   simp only[AB,if_neg (show ¬(30:Int)<(l.length:Int)by omega)]
   exact .succ (by simp only[Pd,Bool.false_eq_true,if_false];exact r2)
 ·have far:∀i:Nat,i≤30→Ev (fun n=>Ja n l 30 (i:Int)) false:=by
   refine down 30 (.succ ?_) (fun i hi ih=>?_)
   ·simp only[Ja,AB,if_pos (show ((30:Nat):Int)<(l.length:Int)by omega),if_neg (show ¬((30:Nat):Int)<30 by omega)]
    exact .succ (by simp only[LK,Bool.false_eq_true,if_false,AB,if_neg (show ¬(l.length:Int)≤30 by omega)];exact .ret)
   ·obtain⟨a0,a1,a2,a3,a4,a5,a6,a7,a8,a9,a10,a11,a12,a13,a14,a15,q,hx,q1,q2⟩:=el i (by omega)
    refine .succ ?_
    simp only[Ja,AB,if_pos (show (i:Int)<(l.length:Int)by omega),if_pos (show (i:Int)<30 by omega)]
    refine .succ ?_
    simp only[LK,if_true,AG hx,Bd]
    refine Ev.bO1 q1 ?_
    cases q
    ·simp only[bs];exact .ret
    ·simp only[bs,AE,AF (show i<l.length by omega) h.1];exact ih
  refine⟨false,?_,?_⟩
  ·unfold kA mW
   exact Ev.bO1 (far 0 (Nat.zero_le _)) .ret
  ·unfold lR
   simp only[AB,if_pos (show (30:Int)<(l.length:Int)by omega)]
   exact n1
end Go.Proofs.YtjmofeakajdbiaaGreatDoor
end
set_option maxRecDepth 100000
set_option maxHeartbeats 40000000
set_option linter.unusedVariables false
noncomputable section
namespace Go.Proofs.YtjmofeakajdbiaaGreatDoor
open Go Go.AM
mutual
def HW:Nat->LD->Int->Int->Option (Int)
 | 0,_,_,_=>none
 | n+1,l1,z3,z4=>
  AB l1 fun z5=>(if z3<z5 then (if (0:Int)<=z4 then H9 n l1 z3 z4 true else H9 n l1 z3 z4 false)else H9 n l1 z3 z4 false)
def H9:Nat->LD->Int->Int->Bool->Option (Int)
 | 0,_,_,_,_=>none
 | n+1,l1,z3,z4,b6=>
  (if b6=true then Ae l1 z3 fun x7=>Bl x7 fun s8 z9 s10 l11=>bO1 (Nu n s8 z4) fun z12=>Ae l1 z3 fun x13=>Bl x13 fun s14 z15 s16 l17=>bO1 (Wl n z15 s16 l17 z12) fun z18=>AE (IntKind.wrap .i64 (z3+1)) fun z19=>HW n l1 z19 z18 else some z4)
end
def gN (n:Nat) (l1:LD) (z2:Int):Option (Int):=
 HW n l1 (0:Int) z2
noncomputable def yC:BS:=⟨27,Tryz.f27,[.p (.ext 0) 0,.q 4],[[.z]],⟨.tup [],[[.z]],[]⟩,Int,inferInstance,gN,[⟨6,[0,1,4],[.ext 0],32,[.p (.ext 0) 0,.q 4,.z],[[.z]],fun n l1 z3 z4=>HW n l1 z3 z4⟩,
 ⟨49,[0,1,4,15],[.ext 0],384,[.p (.ext 0) 0,.q 4,.z,.b],[[.z]],fun n l1 z3 b6 z4=>H9 n l1 z3 z4 b6⟩]⟩
noncomputable def yD:Kz:=sg yC [dT,pV] Tryz.func27 (by kernel_rfl) (by kernel_rfl) (by kernel_rfl)
mutual
def Eu:Nat->LD->Int->Int->Option (Int)
 | 0,_,_,_=>none
 | n+1,l1,z3,z4=>
  AB l1 fun z5=>(if z3<z5 then (if (0:Int)<=z4 then IA n l1 z3 z4 true else IA n l1 z3 z4 false)else IA n l1 z3 z4 false)
def IA:Nat->LD->Int->Int->Bool->Option (Int)
 | 0,_,_,_,_=>none
 | n+1,l1,z3,z4,b6=>
  (if b6=true then Ae l1 z3 fun x7=>Af x7 fun z8 s9 s10 l11 z12 s13 l14 z15 s16 l17 l18 l19 l20 l21 z22=>bO1 (Nu n s9 z4) fun z23=>bO1 (Nu n s10 z23) fun z24=>bO1 (dU n l11 z24) fun z25=>bO1 (Wl n z12 s13 l14 z25) fun z26=>bO1 (kH n s16 l17 z26) fun z27=>HX n l1 z3 l18 l19 l20 l21 (0:Int) z27 else some z4)
def HX:Nat->LD->Int->LD->LD->LD->LD->Int->Int->Option (Int)
 | 0,_,_,_,_,_,_,_,_=>none
 | n+1,l1,z3,l18,l19,l20,l21,z28,z29=>
  AB l18 fun z30=>(if z28<z30 then (if (0:Int)<=z29 then IB n l1 z3 l18 l19 l20 l21 z28 z29 true else IB n l1 z3 l18 l19 l20 l21 z28 z29 false)else IB n l1 z3 l18 l19 l20 l21 z28 z29 false)
def IB:Nat->LD->Int->LD->LD->LD->LD->Int->Int->Bool->Option (Int)
 | 0,_,_,_,_,_,_,_,_,_=>none
 | n+1,l1,z3,l18,l19,l20,l21,z28,z29,b31=>
  (if b31=true then Ae l18 z28 fun x32=>Ao x32 fun z33 z34 s35 s36 s37 l38 l39 z40=>bO1 (Wy n z33 z34 s35 s36 s37 l38 l39 z40 z29) fun z41=>AE (IntKind.wrap .i64 (z28+1)) fun z42=>HX n l1 z3 l18 l19 l20 l21 z42 z41 else (if z29<(0:Int)then Ew n l1 z3 l19 l20 l21 z29 true else Ew n l1 z3 l19 l20 l21 z29 false))
def Ew:Nat->LD->Int->LD->LD->LD->Int->Bool->Option (Int)
 | 0,_,_,_,_,_,_,_=>none
 | n+1,l1,z3,l19,l20,l21,z29,b43=>
  (if b43=true then some z29 else bO1 (Zp n l19 z29) fun z44=>bO1 (Zp n l20 z44) fun z45=>HY n l1 z3 l21 (0:Int) z45)
def HY:Nat->LD->Int->LD->Int->Int->Option (Int)
 | 0,_,_,_,_,_=>none
 | n+1,l1,z3,l21,z46,z47=>
  AB l21 fun z48=>(if z46<z48 then (if (0:Int)<=z47 then IC n l1 z3 l21 z46 z47 true else IC n l1 z3 l21 z46 z47 false)else IC n l1 z3 l21 z46 z47 false)
def IC:Nat->LD->Int->LD->Int->Int->Bool->Option (Int)
 | 0,_,_,_,_,_,_=>none
 | n+1,l1,z3,l21,z46,z47,b49=>
  (if b49=true then Ae l21 z46 fun x50=>Be x50 fun s51 s52 l53=>bO1 (Nu n s51 z47) fun z54=>Ae l21 z46 fun x55=>Be x55 fun s56 s57 l58=>bO1 (Nu n s57 z54) fun z59=>Ae l21 z46 fun x60=>Be x60 fun s61 s62 l63=>bO1 (Zp n l63 z59) fun z64=>AE (IntKind.wrap .i64 (z46+1)) fun z65=>HY n l1 z3 l21 z65 z64 else AE (IntKind.wrap .i64 (z3+1)) fun z66=>Eu n l1 z66 z47)
def Zp:Nat->LD->Int->Option (Int)
 | 0,_,_=>none
 | n+1,l1,z2=>
  Eu n l1 (0:Int) z2
end
noncomputable def tN:BS:=⟨29,Tryz.f29,[.p (.ext 0) 0,.q 15],[[.z]],⟨.tup [],[[.z]],[]⟩,Int,inferInstance,Zp,[⟨6,[0,1,4],[.ext 0],32,[.p (.ext 0) 0,.q 15,.z],[[.z]],fun n l1 z3 z4=>Eu n l1 z3 z4⟩,
 ⟨49,[0,1,4,18],[.ext 0],384,[.p (.ext 0) 0,.q 15,.z,.b],[[.z]],fun n l1 z3 b6 z4=>IA n l1 z3 z4 b6⟩,
 ⟨51706,[0,1,4,5,6],[.ext 0,.loc 512],1248,[.p (.ext 0) 0,.q 15,.z,.p (.loc 512) 0,.z],[[.z],[.y,.str,.str,.f 1,.y,.str,.q 3,.z,.str,.f 1,.q 8,.q 15,.q 15,.q 3,.z]],fun n l1 z3 z28 z29 _ _ _ _ _ _ _ _ _ _ l18 l19 l20 l21 _=>HX n l1 z3 l18 l19 l20 l21 z28 z29⟩,
 ⟨413649,[0,1,4,5,6,56],[.ext 0,.loc 512],1632,[.p (.ext 0) 0,.q 15,.z,.p (.loc 512) 0,.z,.b],[[.z],[.y,.str,.str,.f 1,.y,.str,.q 3,.z,.str,.f 1,.q 8,.q 15,.q 15,.q 3,.z]],fun n l1 z3 z28 b31 z29 _ _ _ _ _ _ _ _ _ _ l18 l19 l20 l21 _=>IB n l1 z3 l18 l19 l20 l21 z28 z29 b31⟩,
 ⟨51709,[0,1,4,5,6,70],[.ext 0,.loc 512],1792,[.p (.ext 0) 0,.q 15,.z,.p (.loc 512) 0,.z,.b],[[.z],[.y,.str,.str,.f 1,.y,.str,.q 3,.z,.str,.f 1,.q 8,.q 15,.q 15,.q 3,.z]],fun n l1 z3 _ b43 z29 _ _ _ _ _ _ _ _ _ _ _ l19 l20 l21 _=>Ew n l1 z3 l19 l20 l21 z29 b43⟩,
 ⟨413694,[0,1,4,5,6,7],[.ext 0,.loc 512],2080,[.p (.ext 0) 0,.q 15,.z,.p (.loc 512) 0,.z,.z],[[.z],[.y,.str,.str,.f 1,.y,.str,.q 3,.z,.str,.f 1,.q 8,.q 15,.q 15,.q 3,.z]],fun n l1 z3 _ z46 z47 _ _ _ _ _ _ _ _ _ _ _ _ _ l21 _=>HY n l1 z3 l21 z46 z47⟩,
 ⟨3309553,[0,1,4,5,6,7,90],[.ext 0,.loc 512],2464,[.p (.ext 0) 0,.q 15,.z,.p (.loc 512) 0,.z,.z,.b],[[.z],[.y,.str,.str,.f 1,.y,.str,.q 3,.z,.str,.f 1,.q 8,.q 15,.q 15,.q 3,.z]],fun n l1 z3 _ z46 b49 z47 _ _ _ _ _ _ _ _ _ _ _ _ _ l21 _=>IC n l1 z3 l21 z46 z47 b49⟩]⟩
theorem yE:CF Tryz.prog inv (KU [tN]):=gr [dT,pV,kI,sJ,sK] ⟨⟨Tryz.func29,by kernel_rfl,by kernel_rfl,by kernel_rfl⟩,trivial⟩
noncomputable def yF:Kz:=⟨tN.c,yE.1⟩
mutual
def Nb:Nat->LD->Int->Int->Option (Bool)
 | 0,_,_,_=>none
 | n+1,l1,z2,z3=>
  AB l1 fun z4=>(if z2<z4 then (if (0:Int)<=z3 then OA n l1 z2 z3 true else OA n l1 z2 z3 false)else OA n l1 z2 z3 false)
def OA:Nat->LD->Int->Int->Bool->Option (Bool)
 | 0,_,_,_,_=>none
 | n+1,l1,z2,z3,b5=>
  (if b5=true then Ae l1 z2 fun x6=>Bd x6 fun z7 s8 l9 z10 s11 l12 l13 z14 z15 s16 s17 s18 l19 l20 z21 z22=>bO1 (Nu n s8 z3) fun z23=>bO1 (gN n l9 z23) fun z24=>bO1 (Wl n z10 s11 l12 z24) fun z25=>bO1 (Zp n l13 z25) fun z26=>bO1 (Wy n z14 z15 s16 s17 s18 l19 l20 z21 z26) fun z27=>AE (IntKind.wrap .i64 (z2+1)) fun z28=>Nb n l1 z28 z27 else (if z3<(0:Int)then some true else some false))
end
def F8 (n:Nat) (l1:LD):Option (Bool):=
 Nb n l1 (0:Int) (20000:Int)
noncomputable def X8:BS:=⟨8,Tryz.f8,[.agg [.q 16]],[],⟨.one (.b),[],[]⟩,Bool,inferInstance,F8,[⟨58,[1,2,3,4],[.loc 0,.loc 96],192,[.p (.loc 0) 0,.one (.cb false),.p (.loc 96) 0,.z],[[.q 16],[.z]],fun n z2 l1 z3=>Nb n l1 z2 z3⟩,
 ⟨465,[1,2,3,4,19],[.loc 0,.loc 96],576,[.p (.loc 0) 0,.one (.cb false),.p (.loc 96) 0,.z,.b],[[.q 16],[.z]],fun n z2 b5 l1 z3=>OA n l1 z2 z3 b5⟩]⟩
noncomputable def k8:Kz:=sg X8 [dT,yD,pV,yF,kI] Tryz.func8 (by kernel_rfl) (by kernel_rfl) (by kernel_rfl)
def TQ:Nat->Int->Int->Bool->Option (Int)
 | 0,_,_,_=>none
 | n+1,z1,z2,b3=>
  (if b3=true then some z1 else some z2)
def Vs (n:Nat) (z1:Int) (z2:Int):Option (Int):=
 (if z2<z1 then TQ n z1 z2 true else TQ n z1 z2 false)
noncomputable def yG:BS:=⟨40,Tryz.f40,[.z,.z],[],⟨.one (.z),[],[]⟩,Int,inferInstance,Vs,[⟨13,[0,1,4,7],[],128,[.z,.z,.k 0,.b],[],fun n z1 z2 b3=>TQ n z1 z2 b3⟩]⟩
noncomputable def Yr:Kz:=sg yG [] Tryz.func40 (by kernel_rfl) (by kernel_rfl) (by kernel_rfl)
mutual
def Pe:Nat->LD->Int->Int->Option (Int)
 | 0,_,_,_=>none
 | n+1,l3,z4,z5=>
  AB l3 fun z6=>(if z5<z6 then TR n l3 z4 z5 true else TR n l3 z4 z5 false)
def TR:Nat->LD->Int->Int->Bool->Option (Int)
 | 0,_,_,_,_=>none
 | n+1,l3,z4,z5,b7=>
  (if b7=true then Ae l3 z5 fun x8=>CM x8 fun z9 s10 l11=>bO1 (Wo n z9 s10 l11) fun z12=>bO1 (Vs n z4 z12) fun z13=>AE (IntKind.wrap .i64 (z5+1)) fun z14=>Pe n l3 z13 z14 else AE (IntKind.wrap .i64 (z4+1)) fun z15=>some z15)
def Wo:Nat->Int->BA->LD->Option (Int)
 | 0,_,_,_=>none
 | n+1,z1,s2,l3=>
  Pe n l3 (0:Int) (0:Int)
end
noncomputable def tO:BS:=⟨41,Tryz.f41,[.agg [.y,.str,.q 3]],[],⟨.one (.z),[],[]⟩,Int,inferInstance,Wo,[⟨58,[1,2,3,4],[.loc 0],128,[.p (.loc 0) 0,.k 0,.z,.z],[[.y,.str,.q 3]],fun n z4 z5 _ _ l3=>Pe n l3 z4 z5⟩,
 ⟨465,[1,2,3,4,9],[.loc 0],288,[.p (.loc 0) 0,.k 0,.z,.z,.b],[[.y,.str,.q 3]],fun n z4 z5 b7 _ _ l3=>TR n l3 z4 z5 b7⟩]⟩
theorem yH:CF Tryz.prog inv (KU [tO]):=gr [Yr] ⟨⟨Tryz.func41,by kernel_rfl,by kernel_rfl,by kernel_rfl⟩,trivial⟩
noncomputable def mA:Kz:=⟨tO.c,yH.1⟩
mutual
def Pf:Nat->LD->Int->Int->Option (Int)
 | 0,_,_,_=>none
 | n+1,l7,z9,z10=>
  AB l7 fun z11=>(if z10<z11 then TS n l7 z9 z10 true else TS n l7 z9 z10 false)
def TS:Nat->LD->Int->Int->Bool->Option (Int)
 | 0,_,_,_,_=>none
 | n+1,l7,z9,z10,b12=>
  (if b12=true then Ae l7 z10 fun x13=>Ao x13 fun z14 z15 s16 s17 s18 l19 l20 z21=>bO1 (Ys n z14 z15 s16 s17 s18 l19 l20 z21) fun z22=>bO1 (Vs n z9 z22) fun z23=>AE (IntKind.wrap .i64 (z10+1)) fun z24=>Pf n l7 z23 z24 else AE (IntKind.wrap .i64 (z9+1)) fun z25=>some z25)
def Ys:Nat->Int->Int->BA->BA->BA->LD->LD->Int->Option (Int)
 | 0,_,_,_,_,_,_,_,_=>none
 | n+1,z1,z2,s3,s4,s5,l6,l7,z8=>
  Pf n l7 (0:Int) (0:Int)
end
noncomputable def tP:BS:=⟨42,Tryz.f42,[.agg [.y,.z,.str,.str,.str,.f 1,.q 8,.z]],[],⟨.one (.z),[],[]⟩,Int,inferInstance,Ys,[⟨58,[1,2,3,4],[.loc 0],128,[.p (.loc 0) 0,.k 0,.z,.z],[[.y,.z,.str,.str,.str,.f 1,.q 8,.z]],fun n z9 z10 _ _ _ _ _ _ l7 _=>Pf n l7 z9 z10⟩,
 ⟨465,[1,2,3,4,9],[.loc 0],288,[.p (.loc 0) 0,.k 0,.z,.z,.b],[[.y,.z,.str,.str,.str,.f 1,.q 8,.z]],fun n z9 z10 b12 _ _ _ _ _ _ l7 _=>TS n l7 z9 z10 b12⟩]⟩
theorem yI:CF Tryz.prog inv (KU [tP]):=gr [Yr] ⟨⟨Tryz.func42,by kernel_rfl,by kernel_rfl,by kernel_rfl⟩,trivial⟩
noncomputable def tQ:Kz:=⟨tP.c,yI.1⟩
mutual
def FF:Nat->LD->Int->Int->Option (Int)
 | 0,_,_,_=>none
 | n+1,l1,z2,z3=>
  AB l1 fun z4=>(if z3<z4 then TT n l1 z2 z3 true else TT n l1 z2 z3 false)
def TT:Nat->LD->Int->Int->Bool->Option (Int)
 | 0,_,_,_,_=>none
 | n+1,l1,z2,z3,b5=>
  (if b5=true then Ae l1 z3 fun x6=>Af x6 fun z7 s8 s9 l10 z11 s12 l13 z14 s15 l16 l17 l18 l19 l20 z21=>bO1 (Wp n l18) fun z22=>bO1 (Wp n l19) fun z23=>bO1 (Vs n z22 z23) fun z24=>Nc n l1 z2 z3 z7 z11 s12 l13 l17 l20 z24 (0:Int)else some z2)
def Nc:Nat->LD->Int->Int->Int->Int->BA->LD->LD->LD->Int->Int->Option (Int)
 | 0,_,_,_,_,_,_,_,_,_,_,_=>none
 | n+1,l1,z2,z3,z7,z11,s12,l13,l17,l20,z25,z26=>
  AB l20 fun z27=>(if z26<z27 then TU n l1 z2 z3 z7 z11 s12 l13 l17 l20 z25 z26 true else TU n l1 z2 z3 z7 z11 s12 l13 l17 l20 z25 z26 false)
def TU:Nat->LD->Int->Int->Int->Int->BA->LD->LD->LD->Int->Int->Bool->Option (Int)
 | 0,_,_,_,_,_,_,_,_,_,_,_,_=>none
 | n+1,l1,z2,z3,z7,z11,s12,l13,l17,l20,z25,z26,b28=>
  (if b28=true then Ae l20 z26 fun x29=>Be x29 fun s30 s31 l32=>bO1 (Wp n l32) fun z33=>bO1 (Vs n z25 z33) fun z34=>AE (IntKind.wrap .i64 (z26+1)) fun z35=>Nc n l1 z2 z3 z7 z11 s12 l13 l17 l20 z34 z35 else Nd n l1 z2 z3 z7 z11 s12 l13 l17 z25 (0:Int))
def Nd:Nat->LD->Int->Int->Int->Int->BA->LD->LD->Int->Int->Option (Int)
 | 0,_,_,_,_,_,_,_,_,_,_=>none
 | n+1,l1,z2,z3,z7,z11,s12,l13,l17,z36,z37=>
  AB l17 fun z38=>(if z37<z38 then TV n l1 z2 z3 z7 z11 s12 l13 l17 z36 z37 true else TV n l1 z2 z3 z7 z11 s12 l13 l17 z36 z37 false)
def TV:Nat->LD->Int->Int->Int->Int->BA->LD->LD->Int->Int->Bool->Option (Int)
 | 0,_,_,_,_,_,_,_,_,_,_,_=>none
 | n+1,l1,z2,z3,z7,z11,s12,l13,l17,z36,z37,b39=>
  (if b39=true then Ae l17 z37 fun x40=>Ao x40 fun z41 z42 s43 s44 s45 l46 l47 z48=>bO1 (Ys n z41 z42 s43 s44 s45 l46 l47 z48) fun z49=>bO1 (Vs n z36 z49) fun z50=>AE (IntKind.wrap .i64 (z37+1)) fun z51=>Nd n l1 z2 z3 z7 z11 s12 l13 l17 z50 z51 else (if z7=(12:Int)then TW n l1 z2 z3 z11 s12 l13 z36 true else TW n l1 z2 z3 z11 s12 l13 z36 false))
def TW:Nat->LD->Int->Int->Int->BA->LD->Int->Bool->Option (Int)
 | 0,_,_,_,_,_,_,_,_=>none
 | n+1,l1,z2,z3,z11,s12,l13,z36,b52=>
  (if b52=true then bO1 (Wo n z11 s12 l13) fun z53=>bO1 (Vs n z36 z53) fun z54=>TX n l1 z2 z3 z54 else TX n l1 z2 z3 z36)
def TX:Nat->LD->Int->Int->Int->Option (Int)
 | 0,_,_,_,_=>none
 | n+1,l1,z2,z3,z55=>
  AE (IntKind.wrap .i64 (z55+1)) fun z56=>bO1 (Vs n z2 z56) fun z57=>AE (IntKind.wrap .i64 (z3+1)) fun z58=>FF n l1 z57 z58
def Wp:Nat->LD->Option (Int)
 | 0,_=>none
 | n+1,l1=>
  FF n l1 (0:Int) (0:Int)
end
noncomputable def tR:BS:=⟨43,Tryz.f43,[.q 15],[],⟨.one (.z),[],[]⟩,Int,inferInstance,Wp,[⟨58,[0,2,3,4],[],96,[.q 15,.k 0,.z,.z],[],fun n l1 z2 z3=>FF n l1 z2 z3⟩,
 ⟨465,[0,2,3,4,12],[],224,[.q 15,.k 0,.z,.z,.b],[],fun n l1 z2 z3 b5=>TT n l1 z2 z3 b5⟩,
 ⟨29850,[0,2,3,4,5,6,7],[.loc 352],704,[.q 15,.k 0,.z,.z,.p (.loc 352) 0,.z,.z],[[.y,.str,.str,.f 1,.y,.str,.q 3,.z,.str,.f 1,.q 8,.q 15,.q 15,.q 3,.z]],fun n l1 z2 z3 z25 z26 z7 _ _ _ z11 s12 l13 _ _ _ l17 _ _ l20 _=>Nc n l1 z2 z3 z7 z11 s12 l13 l17 l20 z25 z26⟩,
 ⟨238801,[0,2,3,4,5,6,7,30],[.loc 352],864,[.q 15,.k 0,.z,.z,.p (.loc 352) 0,.z,.z,.b],[[.y,.str,.str,.f 1,.y,.str,.q 3,.z,.str,.f 1,.q 8,.q 15,.q 15,.q 3,.z]],fun n l1 z2 z3 z25 z26 b28 z7 _ _ _ z11 s12 l13 _ _ _ l17 _ _ l20 _=>TU n l1 z2 z3 z7 z11 s12 l13 l17 l20 z25 z26 b28⟩,
 ⟨59706,[0,2,3,4,5,6,7,8],[.loc 352],896,[.q 15,.k 0,.z,.z,.p (.loc 352) 0,.z,.z,.z],[[.y,.str,.str,.f 1,.y,.str,.q 3,.z,.str,.f 1,.q 8,.q 15,.q 15,.q 3,.z]],fun n l1 z2 z3 z36 _ z37 z7 _ _ _ z11 s12 l13 _ _ _ l17 _ _ _ _=>Nd n l1 z2 z3 z7 z11 s12 l13 l17 z36 z37⟩,
 ⟨477649,[0,2,3,4,5,6,7,8,46],[.loc 352],1056,[.q 15,.k 0,.z,.z,.p (.loc 352) 0,.z,.z,.z,.b],[[.y,.str,.str,.f 1,.y,.str,.q 3,.z,.str,.f 1,.q 8,.q 15,.q 15,.q 3,.z]],fun n l1 z2 z3 z36 _ z37 b39 z7 _ _ _ z11 s12 l13 _ _ _ l17 _ _ _ _=>TV n l1 z2 z3 z7 z11 s12 l13 l17 z36 z37 b39⟩,
 ⟨59709,[0,2,3,4,5,6,7,8,59],[.loc 352],1152,[.q 15,.k 0,.z,.z,.p (.loc 352) 0,.z,.z,.z,.b],[[.y,.str,.str,.f 1,.y,.str,.q 3,.z,.str,.f 1,.q 8,.q 15,.q 15,.q 3,.z]],fun n l1 z2 z3 z36 _ _ b52 _ _ _ _ z11 s12 l13 _ _ _ _ _ _ _ _=>TW n l1 z2 z3 z11 s12 l13 z36 b52⟩,
 ⟨29855,[0,2,3,4,6,7,8],[],1344,[.q 15,.k 0,.z,.z,.z,.z,.z],[],fun n l1 z2 z3 z55 _ _=>TX n l1 z2 z3 z55⟩]⟩
theorem yJ:CF Tryz.prog inv (KU [tR]):=gr [Yr,mA,tQ] ⟨⟨Tryz.func43,by kernel_rfl,by kernel_rfl,by kernel_rfl⟩,trivial⟩
noncomputable def yK:Kz:=⟨tR.c,yJ.1⟩
mutual
def LQ:Nat->LD->Int->Int->Option (Int)
 | 0,_,_,_=>none
 | n+1,l1,z2,z3=>
  AB l1 fun z4=>(if z3<z4 then TZ n l1 z2 z3 true else TZ n l1 z2 z3 false)
def TZ:Nat->LD->Int->Int->Bool->Option (Int)
 | 0,_,_,_,_=>none
 | n+1,l1,z2,z3,b5=>
  (if b5=true then Ae l1 z3 fun x6=>Bd x6 fun z7 s8 l9 z10 s11 l12 l13 z14 z15 s16 s17 s18 l19 l20 z21 z22=>bO1 (Wo n z10 s11 l12) fun z23=>bO1 (Ys n z14 z15 s16 s17 s18 l19 l20 z21) fun z24=>bO1 (Wp n l13) fun z25=>bO1 (Vs n z24 z25) fun z26=>bO1 (Vs n z23 z26) fun z27=>Nf n l1 z2 z3 l9 z27 (0:Int)else AE (IntKind.wrap .i64 (z2+1)) fun z43=>some z43)
def Nf:Nat->LD->Int->Int->LD->Int->Int->Option (Int)
 | 0,_,_,_,_,_,_=>none
 | n+1,l1,z2,z3,l9,z28,z29=>
  AB l9 fun z30=>(if z29<z30 then Ta n l1 z2 z3 l9 z28 z29 true else Ta n l1 z2 z3 l9 z28 z29 false)
def Ta:Nat->LD->Int->Int->LD->Int->Int->Bool->Option (Int)
 | 0,_,_,_,_,_,_,_=>none
 | n+1,l1,z2,z3,l9,z28,z29,b31=>
  (if b31=true then Ae l9 z29 fun x32=>Bl x32 fun s33 z34 s35 l36=>bO1 (Wo n z34 s35 l36) fun z37=>bO1 (Vs n z28 z37) fun z38=>AE (IntKind.wrap .i64 (z29+1)) fun z39=>Nf n l1 z2 z3 l9 z38 z39 else AE (IntKind.wrap .i64 (z28+1)) fun z40=>bO1 (Vs n z2 z40) fun z41=>AE (IntKind.wrap .i64 (z3+1)) fun z42=>LQ n l1 z41 z42)
end
def nA (n:Nat) (l1:LD):Option (Int):=
 LQ n l1 (0:Int) (0:Int)
noncomputable def yL:BS:=⟨13,Tryz.f13,[.agg [.q 16]],[],⟨.one (.z),[],[]⟩,Int,inferInstance,nA,[⟨58,[1,2,3,4],[.loc 0],128,[.p (.loc 0) 0,.k 0,.z,.z],[[.q 16]],fun n z2 z3 l1=>LQ n l1 z2 z3⟩,
 ⟨465,[1,2,3,4,12],[.loc 0],288,[.p (.loc 0) 0,.k 0,.z,.z,.b],[[.q 16]],fun n z2 z3 b5 l1=>TZ n l1 z2 z3 b5⟩,
 ⟨29850,[1,2,3,4,5,6,7],[.loc 0,.loc 448],928,[.p (.loc 0) 0,.k 0,.z,.z,.p (.loc 448) 0,.z,.z],[[.q 16],[.y,.str,.q 4,.y,.str,.q 3,.q 15,.y,.z,.str,.str,.str,.f 1,.q 8,.z,.z]],fun n z2 z3 z28 z29 l1 _ _ l9 _ _ _ _ _ _ _ _ _ _ _ _ _=>Nf n l1 z2 z3 l9 z28 z29⟩,
 ⟨238801,[1,2,3,4,5,6,7,35],[.loc 0,.loc 448],1088,[.p (.loc 0) 0,.k 0,.z,.z,.p (.loc 448) 0,.z,.z,.b],[[.q 16],[.y,.str,.q 4,.y,.str,.q 3,.q 15,.y,.z,.str,.str,.str,.f 1,.q 8,.z,.z]],fun n z2 z3 z28 z29 b31 l1 _ _ l9 _ _ _ _ _ _ _ _ _ _ _ _ _=>Ta n l1 z2 z3 l9 z28 z29 b31⟩]⟩
noncomputable def yM:Kz:=sg yL [Yr,mA,tQ,yK] Tryz.func13 (by kernel_rfl) (by kernel_rfl) (by kernel_rfl)
end Go.Proofs.YtjmofeakajdbiaaGreatDoor
end
set_option linter.unusedVariables false
noncomputable section
namespace Go.Proofs.YtjmofeakajdbiaaGreatDoor
open Go Go.AM
def dR (c:Int) (l:List D):Prop:=∀x∈l,∃d:Nat,5*(d:Int)≤c∧Ev (fun n=>Af x (Ww n)) (d:Int)∧∀(L:List D) (i a:Nat) (R:Int),L[i]?=some x→L.length≤maxLen→Ev (fun n=>FF n L ((max a d:Nat):Int) ((i+1:Nat):Int)) R→Ev (fun n=>FF n L (a:Int) (i:Int)) R
def eR (c:Int) (l:List D):Prop:=∀x∈l,∃d:Nat,5*(d:Int)≤c∧Ev (fun n=>Ao x (YH n)) (d:Int)∧Ev (fun n=>Ao x (Ys n)) (d:Int)
theorem dR.mono {c c':Int}{l:List D}(h:dR c l) (hc:c≤c'):dR c' l:=fun x hx=>by
 obtain⟨d,h1,h2⟩:=h x hx
 exact⟨d,by omega,h2⟩
theorem eR.mono {c c':Int}{l:List D}(h:eR c l) (hc:c≤c'):eR c' l:=fun x hx=>by
 obtain⟨d,h1,h2⟩:=h x hx
 exact⟨d,by omega,h2⟩
theorem mx (a b:Nat):(if (b:Int)>(a:Int)then (b:Int)else (a:Int))=((max a b:Nat):Int):=by
 split<;>omega
theorem Ng (a b:Nat):Ev (fun n=>Vs n (a:Int) (b:Int)) ((max a b:Nat):Int):=by
 unfold Vs
 by_cases h:(b:Int)<(a:Int)
 ·simp only[if_pos h]
  rw[show max a b=a by omega]
  exact .succ (by simp only[TQ,if_true];exact .ret)
 ·simp only[if_neg h]
  rw[show max a b=b by omega]
  exact .succ (by simp only[TQ,Bool.false_eq_true,if_false];exact .ret)
theorem YW (l:List D):AK Ap 33 l→∃m:Nat,(m<100000→∀z1 s2,Ev (fun n=>Vn n z1 s2 l) ((m+1:Nat):Int)∧Ev (fun n=>Wo n z1 s2 l) ((m+1:Nat):Int))∧
  (∀z1 s2 z,-6≤z→z≤20000→∃r,Ev (fun n=>Wl n z1 s2 l z) r∧ -6≤r∧r≤20000∧(0≤r→r+5*((m:Int)+1)≤z)):=by
 refine Bt (P:=fun l=>AK Ap 33 l→∃m:Nat,(m<100000→∀z1 s2,Ev (fun n=>Vn n z1 s2 l) ((m+1:Nat):Int)∧Ev (fun n=>Wo n z1 s2 l) ((m+1:Nat):Int))∧
  (∀z1 s2 z,-6≤z→z≤20000→∃r,Ev (fun n=>Wl n z1 s2 l z) r∧ -6≤r∧r≤20000∧(0≤r→r+5*((m:Int)+1)≤z))) (fun l ih h=>?_) l
 have loop:∀i:Nat,i≤l.length→∃m:Nat,(m<100000→∀acc:Nat,acc<100000→Ev (fun n=>PG n l (l.length:Int) (acc:Int) (i:Int)) ((max acc m+1:Nat):Int)∧Ev (fun n=>Pe n l (acc:Int) (i:Int)) ((max acc m+1:Nat):Int))∧
   (∀z,-6≤z→z≤20000→∃r,Ev (fun n=>Fz n l (i:Int) z) r∧ -6≤r∧r≤20000∧(0≤r→r+5*(m:Int)≤z)):=by
  refine down l.length ⟨0,fun _ acc ha=>?_,fun z h1 h2=>⟨z,?_,h1,h2,by omega⟩⟩ (fun i hi hP=>?_)
  ·rw[show max acc 0=acc by omega]
   refine⟨.succ ?_,.succ ?_⟩
   ·simp only[PG,Int.lt_irrefl,if_false]
    refine .succ ?_
    simp only[Su,Bool.false_eq_true,if_false,AE,iw (show -9223372036854775808≤(acc:Int)+1 by omega) (by omega)]
    exact .ret
   ·simp only[Pe,AB,Int.lt_irrefl,if_false]
    refine .succ ?_
    simp only[TR,Bool.false_eq_true,if_false,AE,iw (show -9223372036854775808≤(acc:Int)+1 by omega) (by omega)]
    exact .ret
  ·refine .succ (.succ (.of fun n=>?_))
   rw[Fz];simp only[AB];rw[if_neg (by omega),H5,if_neg Bool.false_ne_true]
  ·obtain⟨m,p1,p2⟩:=hP
   obtain⟨x,hx,hm,hr⟩:=h.get hi
   obtain⟨a,s,l',rfl,_,hs,hl'⟩:=YK hr
   obtain⟨k,q1,q2⟩:=ih l' (Au (ag:=true) (sz:=3) hm (by simp)) hl'
   refine⟨max (k+1) m,fun hk acc ha=>?_,fun z h1 h2=>?_⟩
   ·obtain⟨q1,q3⟩:=q1 (by omega) a s
    obtain⟨p1,p3⟩:=p1 (by omega) (max acc (k+1)) (by omega)
    rw[show max acc (max (k+1) m)=max (max acc (k+1)) m by omega]
    refine⟨.succ ?_,.succ ?_⟩
    ·simp only[PG,if_pos (CT hi)]
     refine .succ ?_
     simp only[Su,if_true,AG hx,CM]
     refine Ev.bO1 q1 ?_
     simp only[AE,AF hi h.1,mx]
     exact p1
    ·simp only[Pe,AB,if_pos (CT hi)]
     refine .succ ?_
     simp only[TR,if_true,AG hx,CM]
     refine Ev.bO1 q3 (Ev.bO1 (Ng _ _) ?_)
     simp only[AE,AF hi h.1]
     exact p3
   ·by_cases hz:(0:Int)≤z
    ·obtain⟨y,g1,g2,g3,g4⟩:=q2 a s z h1 h2
     obtain⟨r,k1,k2,k3,k4⟩:=p2 y g2 g3
     refine⟨r,.succ (.succ (Ev.congr (A:=fun n=>bO1 (Wl n a s l' z) fun z10=>Fz n l ((i+1:Nat):Int) z10) (Ev.bO1 g1 k1) fun n=>?_)),k2,k3,by omega⟩
     rw[Fz];simp only[AB];rw[if_pos (by omega),if_pos hz,H5,if_pos rfl,AG hx]
     simp only[CM,AE,AF hi h.1]
    ·refine⟨z,.succ (.succ (.of fun n=>?_)),h1,h2,by omega⟩
     rw[Fz];simp only[AB];rw[if_pos (by omega),if_neg hz,H5,if_neg Bool.false_ne_true]
 obtain⟨m,p1,p2⟩:=loop 0 (Nat.zero_le _)
 refine⟨m,fun hm z1 s2=>?_,fun z1 s2 z h1 h2=>?_⟩
 ·obtain⟨p1,p3⟩:=p1 hm 0 (by omega)
  rw[show max 0 m=m by omega]at p1 p3
  exact⟨.succ (by simp only[Vn,AB];exact p1),.succ (by simp only[Wo];exact p3)⟩
 ·obtain⟨y,g1,g2,g3,g4⟩:=Es s2 z h1 h2
  obtain⟨r,k1,k2,k3,k4⟩:=p2 y (by omega) g3
  exact⟨r,.succ ((Ev.bO1 g1 k1).congr fun n=>by rw[Wl];rfl),k2,k3,by omega⟩
theorem bT (l:List D):AK Ap 39 l→∃m:Nat,(m<100000→∀z1 z2 s3 s4 s5 l6 z8,Ev (fun n=>YH n z1 z2 s3 s4 s5 l6 l z8) ((m+1:Nat):Int)∧Ev (fun n=>Ys n z1 z2 s3 s4 s5 l6 l z8) ((m+1:Nat):Int))∧
  (∀z1 z2 s3 s4 s5 l6 z8 z,AK Ap 9 l6→ -6≤z→z≤20000→∃r,Ev (fun n=>Wy n z1 z2 s3 s4 s5 l6 l z8 z) r∧ -6≤r∧r≤20000∧(0≤r→r+5*((m:Int)+1)≤z)):=by
 refine Bt (P:=fun l=>AK Ap 39 l→∃m:Nat,(m<100000→∀z1 z2 s3 s4 s5 l6 z8,Ev (fun n=>YH n z1 z2 s3 s4 s5 l6 l z8) ((m+1:Nat):Int)∧Ev (fun n=>Ys n z1 z2 s3 s4 s5 l6 l z8) ((m+1:Nat):Int))∧
  (∀z1 z2 s3 s4 s5 l6 z8 z,AK Ap 9 l6→ -6≤z→z≤20000→∃r,Ev (fun n=>Wy n z1 z2 s3 s4 s5 l6 l z8 z) r∧ -6≤r∧r≤20000∧(0≤r→r+5*((m:Int)+1)≤z))) (fun l ih h=>?_) l
 have loop:∀i:Nat,i≤l.length→∃m:Nat,(m<100000→∀acc:Nat,acc<100000→Ev (fun n=>PH n l (l.length:Int) (acc:Int) (i:Int)) ((max acc m+1:Nat):Int)∧Ev (fun n=>Pf n l (acc:Int) (i:Int)) ((max acc m+1:Nat):Int))∧
   (∀z,-6≤z→z≤20000→∃r,Ev (fun n=>F1 n l (i:Int) z) r∧ -6≤r∧r≤20000∧(0≤r→r+5*(m:Int)≤z)):=by
  refine down l.length ⟨0,fun _ acc ha=>?_,fun z h1 h2=>⟨z,?_,h1,h2,by omega⟩⟩ (fun i hi hP=>?_)
  ·rw[show max acc 0=acc by omega]
   refine⟨.succ ?_,.succ ?_⟩
   ·simp only[PH,Int.lt_irrefl,if_false]
    refine .succ ?_
    simp only[Sv,Bool.false_eq_true,if_false,AE,iw (show -9223372036854775808≤(acc:Int)+1 by omega) (by omega)]
    exact .ret
   ·simp only[Pf,AB,Int.lt_irrefl,if_false]
    refine .succ ?_
    simp only[TS,Bool.false_eq_true,if_false,AE,iw (show -9223372036854775808≤(acc:Int)+1 by omega) (by omega)]
    exact .ret
  ·refine .succ (.succ (.of fun n=>?_))
   rw[F1];simp only[AB];rw[if_neg (by omega),H7,if_neg Bool.false_ne_true]
  ·obtain⟨m,p1,p2⟩:=hP
   obtain⟨x,hx,hm,hr⟩:=h.get hi
   obtain⟨a0,a1,a2,a3,a4,a5,a6,a7,rfl,w0,_,w2,w3,w4,w5,w6,_⟩:=NM hr
   obtain⟨k,q1,q2⟩:=ih a6 (Au (ag:=true) (sz:=8) hm (by simp)) w6
   refine⟨max (k+1) m,fun hk acc ha=>?_,fun z h1 h2=>?_⟩
   ·obtain⟨q1,q3⟩:=q1 (by omega) a0 a1 a2 a3 a4 a5 a7
    obtain⟨p1,p3⟩:=p1 (by omega) (max acc (k+1)) (by omega)
    rw[show max acc (max (k+1) m)=max (max acc (k+1)) m by omega]
    refine⟨.succ ?_,.succ ?_⟩
    ·simp only[PH,if_pos (CT hi)]
     refine .succ ?_
     simp only[Sv,if_true,AG hx,Ao]
     refine Ev.bO1 q1 ?_
     simp only[AE,AF hi h.1,mx]
     exact p1
    ·simp only[Pf,AB,if_pos (CT hi)]
     refine .succ ?_
     simp only[TS,if_true,AG hx,Ao]
     refine Ev.bO1 q3 (Ev.bO1 (Ng _ _) ?_)
     simp only[AE,AF hi h.1]
     exact p3
   ·by_cases hz:(0:Int)≤z
    ·obtain⟨y,g1,g2,g3,g4⟩:=q2 a0 a1 a2 a3 a4 a5 a7 z w5 h1 h2
     obtain⟨r,k1,k2,k3,k4⟩:=p2 y g2 g3
     refine⟨r,.succ (.succ (Ev.congr (A:=fun n=>bO1 (Wy n a0 a1 a2 a3 a4 a5 a6 a7 z) fun z10=>F1 n l ((i+1:Nat):Int) z10) (Ev.bO1 g1 k1) fun n=>?_)),k2,k3,by omega⟩
     rw[F1];simp only[AB];rw[if_pos (by omega),if_pos hz,H7,if_pos rfl,AG hx]
     simp only[Ao,AE,AF hi h.1]
    ·refine⟨z,.succ (.succ (.of fun n=>?_)),h1,h2,by omega⟩
     rw[F1];simp only[AB];rw[if_pos (by omega),if_neg hz,H7,if_neg Bool.false_ne_true]
 obtain⟨m,p1,p2⟩:=loop 0 (Nat.zero_le _)
 refine⟨m,fun hm z1 z2 s3 s4 s5 l6 z8=>?_,fun z1 z2 s3 s4 s5 l6 z8 z h6 h1 h2=>?_⟩
 ·obtain⟨p1,p3⟩:=p1 hm 0 (by omega)
  rw[show max 0 m=m by omega]at p1 p3
  exact⟨.succ (by simp only[YH,AB];exact p1),.succ (by simp only[Ys];exact p3)⟩
 ·obtain⟨y1,g1,g2,g3,g4⟩:=Es s3 z h1 h2
  obtain⟨y2,j1,j2,j3,j4⟩:=Es s4 y1 (by omega) g3
  obtain⟨y3,i1,i2,i3,i4⟩:=YQ h6 s5 y2 (by omega) j3
  obtain⟨r,k1,k2,k3,k4⟩:=p2 y3 i2 i3
  exact⟨r,.succ ((Ev.bO1 g1 (Ev.bO1 j1 (Ev.bO1 i1 k1))).congr fun n=>by rw[Wy]),k2,k3,by omega⟩
theorem Nh (a:Nat):max a 0=a:=by omega
theorem Ni (a d m:Nat):max a (max d m)=max (max a d) m:=by omega
section
variable {c:Int}
theorem mB {x:D}{d a:Nat}(hx:FZ Ap 50 x) (h:Ev (fun n=>Af x (Ww n)) (d:Int)):Ev (fun n=>Af x fun z1 s2 s3 l4 z5 s6 l7 z8 s9 l10 l11 l12 l13 l14 z15=>NH n z1 s2 s3 l4 z5 s6 l7 z8 s9 l10 l11 l12 l13 l14 z15 (a:Int)) ((max a d:Nat):Int):=by
 obtain⟨a0,a1,a2,a3,a4,a5,a6,a7,a8,a9,a10,a11,a12,a13,a14,rfl,_⟩:=N9 hx
 refine Ev.congr (A:=fun n=>NH n a0 a1 a2 a3 a4 a5 a6 a7 a8 a9 a10 a11 a12 a13 a14 (a:Int)) (.succ ?_) (fun n=>rfl)
 simp only[NH]
 refine Ev.bO1 h ?_
 simp only[AE,mx]
 exact .ret
theorem L8 {l:List D}(hc:0≤c) (hl:AK Ap 50 l) (hd:dR c l):∀i:Nat,i≤l.length→∃m:Nat,5*(m:Int)≤c∧
  (∀(z1:Int) (s2 s3:ByteArray) (l4:List D) (z5:Int) (s6:ByteArray) (l7:List D) (z8:Int) (s9:ByteArray) (l10 l11 l12 l13 l14:List D) (z15:Int) (z17:Int) (a:Nat) R,Ev (fun n=>Em n z1 s2 s3 l4 z5 s6 l7 z8 s9 l10 l11 l12 l13 l14 z15 (IntKind.wrap .i64 (z17+1)) ((max a m:Nat):Int)) R→Ev (fun n=>FX n z1 s2 s3 l4 z5 s6 l7 z8 s9 l10 l11 l12 l13 l14 z15 z17 l (l.length:Int) (i:Int) (a:Int)) R)∧
  (∀(z1:Int) (s2 s3:ByteArray) (l4:List D) (z5:Int) (s6:ByteArray) (l7:List D) (z8:Int) (s9:ByteArray) (l10 l11 l12 l13 l14:List D) (z15:Int) (z45 z46:Int) (a:Nat) R,Ev (fun n=>En n z1 s2 s3 l4 z5 s6 l7 z8 s9 l10 l11 l12 l13 l14 z15 z45 (IntKind.wrap .i64 (z46+1)) ((max a m:Nat):Int)) R→Ev (fun n=>FY n z1 s2 s3 l4 z5 s6 l7 z8 s9 l10 l11 l12 l13 l14 z15 z45 z46 l (l.length:Int) (i:Int) (a:Int)) R)∧
  (∀(a:Nat) R,Ev (fun n=>NI n l (l.length:Int) ((max a m:Nat):Int) (l.length:Int)) R→Ev (fun n=>NI n l (l.length:Int) (a:Int) (i:Int)) R)∧
  ∀a:Nat,Ev (fun n=>FF n l (a:Int) (i:Int)) ((max a m:Nat):Int):=by
 refine down l.length ?_ ?_
 ·refine⟨0,by omega,?_,?_,?_,?_⟩
  ·intros
   rename_i h
   rw[Nh]at h
   refine .succ ?_
   simp only[FX,Int.lt_irrefl,if_false]
   exact .succ (by simp only[GK,Bool.false_eq_true,if_false,AE];exact h)
  ·intros
   rename_i h
   rw[Nh]at h
   refine .succ ?_
   simp only[FY,Int.lt_irrefl,if_false]
   exact .succ (by simp only[GM,Bool.false_eq_true,if_false,AE];exact h)
  ·intro a R h
   rw[Nh]at h
   exact h
  ·intro a
   rw[Nh]
   refine .succ ?_
   simp only[FF,AB,Int.lt_irrefl,if_false]
   exact .succ (by simp only[TT,Bool.false_eq_true,if_false];exact .ret)
 ·rintro i hi ⟨m,m0,m1,m2,m3,m4⟩
  obtain⟨x,hx,hm,hr⟩:=hl.get hi
  obtain⟨d,d0,d1,d2⟩:=hd x hm
  have h3:=fun a:Nat=>mB (a:=a) hr d1
  have d2':=fun a R=>d2 l i a R hx hl.1
  obtain⟨b0,b1,b2,b3,b4,b5,b6,b7,b8,b9,b10,b11,b12,b13,b14,rfl,_⟩:=N9 hr
  refine⟨max d m,by omega,?_,?_,?_,?_⟩
  ·intros
   rename_i a R h
   rw[Ni]at h
   refine .succ ?_
   simp only[FX,if_pos (CT hi)]
   refine .succ ?_
   simp only[GK,if_true,AG hx,Af]
   refine Ev.bO1 (h3 a) ?_
   simp only[AE,AF hi hl.1]
   exact m1 _ _ _ _ _ _ _ _ _ _ _ _ _ _ _ _ _ _ h
  ·intros
   rename_i a R h
   rw[Ni]at h
   refine .succ ?_
   simp only[FY,if_pos (CT hi)]
   refine .succ ?_
   simp only[GM,if_true,AG hx,Af]
   refine Ev.bO1 (h3 a) ?_
   simp only[AE,AF hi hl.1]
   exact m2 _ _ _ _ _ _ _ _ _ _ _ _ _ _ _ _ _ _ _ h
  ·intro a R h
   rw[Ni]at h
   refine .succ ?_
   simp only[NI,if_pos (CT hi)]
   refine .succ ?_
   simp only[Sw,if_true,AG hx,Af]
   refine Ev.bO1 d1 ?_
   simp only[AE,mx,AF hi hl.1]
   exact m3 _ _ h
  ·intro a
   rw[Ni]
   exact d2' a _ (m4 _)
theorem Zq {z1:Int}{s2 s3:ByteArray}{l4:List D}{z5:Int}{s6:ByteArray}{l7:List D}{z8:Int}{s9:ByteArray}{l10 l11 l12 l13 l14:List D}{z15:Int}(hc:0≤c) (h11:AK Ap 39 l11) (he:eR c l11):∀i:Nat,i≤l11.length→∃m:Nat,5*(m:Int)≤c∧
  (∀(a:Nat) R,Ev (fun n=>Gf n z1 s2 s3 l4 z5 s6 l7 z8 s9 l10 l11 l12 l13 l14 z15 (l11.length:Int) (l11.length:Int) ((max a m:Nat):Int)) R→Ev (fun n=>Gf n z1 s2 s3 l4 z5 s6 l7 z8 s9 l10 l11 l12 l13 l14 z15 (l11.length:Int) (i:Int) (a:Int)) R)∧
  ∀(L:List D) (z2 z3 z7 z11:Int) (s12:ByteArray) (l13:List D) (a:Nat) R,Ev (fun n=>Nd n L z2 z3 z7 z11 s12 l13 l11 ((max a m:Nat):Int) (l11.length:Int)) R→Ev (fun n=>Nd n L z2 z3 z7 z11 s12 l13 l11 (a:Int) (i:Int)) R:=by
 refine down l11.length ⟨0,by omega,fun a R h=>?_,fun L z2 z3 z7 z11 s12 l13 a R h=>?_⟩ ?_
 ·rw[Nh]at h;exact h
 ·rw[Nh]at h;exact h
 ·rintro i hi ⟨m,m0,m1,m2⟩
  obtain⟨x,hx,hm,hr⟩:=h11.get hi
  obtain⟨d,d0,d1,d2⟩:=he x hm
  obtain⟨b0,b1,b2,b3,b4,b5,b6,b7,rfl,_⟩:=NM hr
  refine⟨max d m,by omega,fun a R h=>?_,fun L z2 z3 z7 z11 s12 l13 a R h=>?_⟩
  ·rw[Ni]at h
   refine .succ ?_
   simp only[Gf,if_pos (CT hi)]
   refine .succ ?_
   simp only[Jd,if_true,AG hx,Ao]
   refine Ev.bO1 d1 ?_
   simp only[AE,mx,AF hi h11.1]
   exact m1 _ _ h
  ·rw[Ni]at h
   refine .succ ?_
   simp only[Nd,AB,if_pos (CT hi)]
   refine .succ ?_
   simp only[TV,if_true,AG hx,Ao]
   refine Ev.bO1 d2 (Ev.bO1 (Ng _ _) ?_)
   simp only[AE,AF hi h11.1]
   exact m2 _ _ _ _ _ _ _ _ _ h
theorem Zr {z1:Int}{s2 s3:ByteArray}{l4:List D}{z5:Int}{s6:ByteArray}{l7:List D}{z8:Int}{s9:ByteArray}{l10 l11 l12 l13 l14:List D}{z15:Int}(hc:0≤c) (h14:AK Ap 95 l14) (hd:∀(s1 s2:ByteArray) (m:List D),.agg [.str s1,.str s2,.list true 15 m]∈l14→dR c m):∀i:Nat,i≤l14.length→∃m:Nat,5*(m:Int)≤c∧
  (∀a:Nat,Ev (fun n=>En n z1 s2 s3 l4 z5 s6 l7 z8 s9 l10 l11 l12 l13 l14 z15 (l14.length:Int) (i:Int) (a:Int)) (((max a m:Nat):Int),z1,s2,s3,l4,z5,s6,l7,z8,s9,l10,l11,l12,l13,l14,z15))∧
  ∀(L:List D) (z2 z3 z7 z11:Int) (s12:ByteArray) (l13 l17:List D) (a:Nat) R,Ev (fun n=>Nc n L z2 z3 z7 z11 s12 l13 l17 l14 ((max a m:Nat):Int) (l14.length:Int)) R→Ev (fun n=>Nc n L z2 z3 z7 z11 s12 l13 l17 l14 (a:Int) (i:Int)) R:=by
 refine down l14.length ⟨0,by omega,fun a=>?_,fun L z2 z3 z7 z11 s12 l13 l17 a R h=>?_⟩ ?_
 ·rw[Nh]
  refine .succ ?_
  simp only[En,Int.lt_irrefl,if_false]
  exact .succ (by simp only[GL,Bool.false_eq_true,if_false];exact .ret)
 ·rw[Nh]at h;exact h
 ·rintro i hi ⟨m,m0,m1,m2⟩
  obtain⟨x,hx,hm,hr⟩:=h14.get hi
  obtain⟨t1,t2,q,rfl,_,_,w2⟩:=NN hr
  obtain⟨k,k0,_,k2,_,k4⟩:=L8 hc w2 (hd _ _ _ hm) 0 (Nat.zero_le _)
  have k5:Ev (fun n=>Wp n q) (k:Int):=.succ (by simp only[Wp];have:=k4 0;rwa [show max 0 k=k by omega]at this)
  refine⟨max k m,by omega,fun a=>?_,fun L z2 z3 z7 z11 s12 l13 l17 a R h=>?_⟩
  ·rw[Ni]
   refine .succ ?_
   simp only[En,if_pos (CT hi)]
   refine .succ ?_
   simp only[GL,if_true,AG hx,Be,AB]
   refine k2 _ _ _ _ _ _ _ _ _ _ _ _ _ _ _ _ _ _ _ ?_
   rw[AF hi h14.1]
   exact m1 _
  ·rw[Ni]at h
   refine .succ ?_
   simp only[Nc,AB,if_pos (CT hi)]
   refine .succ ?_
   simp only[TU,if_true,AG hx,Be]
   refine Ev.bO1 k5 (Ev.bO1 (Ng _ _) ?_)
   simp only[AE,AF hi h14.1]
   exact m2 _ _ _ _ _ _ _ _ _ _ h
theorem fG {z1:Int}{s2 s3:ByteArray}{l4:List D}{z5:Int}{s6:ByteArray}{l7:List D}{z8:Int}{s9:ByteArray}{l10 l11 l12 l13 l14:List D}{z15:Int}(hc0:0≤c) (hc:c≤100000) (ht:∃t:Nat,5*(t:Int)≤c∧Ev (fun n=>Vn n z5 s6 l7) (t:Int)∧Ev (fun n=>Wo n z5 s6 l7) (t:Int)) (h11:AK Ap 39 l11) (he:eR c l11) (h12:AK Ap 50 l12) (hd12:dR c l12) (h13:AK Ap 50 l13) (hd13:dR c l13)
  (h14:AK Ap 95 l14) (hd:∀(s1 s2:ByteArray) (m:List D),.agg [.str s1,.str s2,.list true 15 m]∈l14→dR c m):∃d:Nat,5*(d:Int)≤c+5∧Ev (fun n=>Ww n z1 s2 s3 l4 z5 s6 l7 z8 s9 l10 l11 l12 l13 l14 z15) (d:Int)∧
   ∀(L:List D) (i a:Nat) (R:Int),L[i]?=some (.agg [.int .u8 z1,.str s2,.str s3,.list false 1 l4,.int .u8 z5,.str s6,.list true 3 l7,.int .i64 z8,.str s9,.list false 1 l10,.list true 8 l11,.list true 15 l12,.list true 15 l13,.list true 3 l14,.int .i64 z15])→L.length≤maxLen→Ev (fun n=>FF n L ((max a d:Nat):Int) ((i+1:Nat):Int)) R→Ev (fun n=>FF n L (a:Int) (i:Int)) R:=by
 obtain⟨t,t0,t1,t2⟩:=ht
 obtain⟨X,x0,x1,x2⟩:=Zq (z1:=z1) (s2:=s2) (s3:=s3) (l4:=l4) (z5:=z5) (s6:=s6) (l7:=l7) (z8:=z8) (s9:=s9) (l10:=l10) (l11:=l11) (l12:=l12) (l13:=l13) (l14:=l14) (z15:=z15) hc0 h11 he 0 (Nat.zero_le _)
 obtain⟨B,b0,b1,_,_,b4⟩:=L8 hc0 h12 hd12 0 (Nat.zero_le _)
 obtain⟨E,e0,e1,_,_,e4⟩:=L8 hc0 h13 hd13 0 (Nat.zero_le _)
 obtain⟨A,a0,a1,a2⟩:=Zr (z1:=z1) (s2:=s2) (s3:=s3) (l4:=l4) (z5:=z5) (s6:=s6) (l7:=l7) (z8:=z8) (s9:=s9) (l10:=l10) (l11:=l11) (l12:=l12) (l13:=l13) (l14:=l14) (z15:=z15) hc0 h14 hd 0 (Nat.zero_le _)
 have b5:Ev (fun n=>Wp n l12) (B:Int):=.succ (by simp only[Wp];have:=b4 0;rwa [show max 0 B=B by omega]at this)
 have e5:Ev (fun n=>Wp n l13) (E:Int):=.succ (by simp only[Wp];have:=e4 0;rwa [show max 0 E=E by omega]at this)
 have h138:∀a:Nat,Ev (fun n=>YI n (a:Int) z1 s2 s3 l4 z5 s6 l7 z8 s9 l10 l11 l12 l13 l14 z15) (((max (max (max a B) E) A:Nat):Int),z1,s2,s3,l4,z5,s6,l7,z8,s9,l10,l11,l12,l13,l14,z15):=by
  intro a
  refine .succ ?_
  simp only[YI]
  refine .succ ?_
  simp only[Em,show (0:Int)<2 by decide,if_true]
  refine .succ ?_
  simp only[FW,if_true,Kc,Bo,AB]
  refine b1 _ _ _ _ _ _ _ _ _ _ _ _ _ _ _ _ _ _ ?_
  rw[show IntKind.wrap .i64 ((0:Int)+1)=1 from rfl]
  refine .succ ?_
  simp only[Em,show (1:Int)<2 by decide,if_true]
  refine .succ ?_
  have g1:∀{γ:Type} (k:D→Option γ),Ae [.list true 15 l12,.list true 15 l13] (1:Int) k=k (.list true 15 l13):=fun k=>AG (i:=1) rfl
  simp only[FW,if_true,g1,Bo,AB]
  refine e1 _ _ _ _ _ _ _ _ _ _ _ _ _ _ _ _ _ _ ?_
  rw[show IntKind.wrap .i64 ((1:Int)+1)=2 from rfl]
  refine .succ ?_
  simp only[Em,Int.lt_irrefl,if_false]
  refine .succ ?_
  simp only[FW,Bool.false_eq_true,if_false,AB]
  exact a1 _
 have hex:∀a:Nat,5*(a:Int)≤c→Ev (fun n=>Gf n z1 s2 s3 l4 z5 s6 l7 z8 s9 l10 l11 l12 l13 l14 z15 (l11.length:Int) ((0:Nat):Int) (a:Int)) ((max (max (max (max a X) B) E) A+1:Nat):Int):=by
  intro a ha
  refine x1 a _ (.succ ?_)
  simp only[Gf,Int.lt_irrefl,if_false]
  refine .succ ?_
  simp only[Jd,Bool.false_eq_true,if_false]
  refine Ev.bO15 (A:=fun n=>gG n z1 s2 s3 l4 z5 s6 l7 z8 s9 l10 l11 l12 l13 l14 z15) (.of fun n=>rfl) ?_
  refine Ev.bO16 (h138 _) ?_
  simp only[AE]
  rw[iw (by omega) (by omega),show (((max (max (max (max a X) B) E) A:Nat):Int))+1=((max (max (max (max a X) B) E) A+1:Nat):Int)by omega]
  exact .ret
 have doc:∀(T:Nat),(if z1=12 then max (max (max (max B E) A) X) t else max (max (max B E) A) X)=T→5*(T:Int)≤c→∀(L:List D) (i a:Nat) (R:Int),L[i]?=some (.agg [.int .u8 z1,.str s2,.str s3,.list false 1 l4,.int .u8 z5,.str s6,.list true 3 l7,.int .i64 z8,.str s9,.list false 1 l10,.list true 8 l11,.list true 15 l12,.list true 15 l13,.list true 3 l14,.int .i64 z15])→L.length≤maxLen→Ev (fun n=>FF n L ((max a (T+1):Nat):Int) ((i+1:Nat):Int)) R→Ev (fun n=>FF n L (a:Int) (i:Int)) R:=by
  intro T hT hTc L i a R hx hL h
  have hi:i<L.length:=(List.getElem?_eq_some_iff.1 hx).1
  refine .succ ?_
  simp only[FF,AB,if_pos (CT hi)]
  refine .succ ?_
  simp only[TT,if_true,AG hx,Af]
  refine Ev.bO1 b5 (Ev.bO1 e5 (Ev.bO1 (Ng _ _) ?_))
  refine a2 L _ _ _ _ _ _ _ _ _ (.succ ?_)
  simp only[Nc,AB,Int.lt_irrefl,if_false]
  refine .succ ?_
  simp only[TU,Bool.false_eq_true,if_false]
  refine x2 L _ _ _ _ _ _ _ _ (.succ ?_)
  simp only[Nd,AB,Int.lt_irrefl,if_false]
  refine .succ ?_
  simp only[TV,Bool.false_eq_true,if_false]
  have fin:∀S:Nat,S=T→Ev (fun n=>TX n L (a:Int) (i:Int) (S:Int)) R:=by
   rintro S rfl
   refine .succ ?_
   simp only[TX,AE]
   rw[iw (by omega) (by omega),show (S:Int)+1=((S+1:Nat):Int)by omega]
   refine Ev.bO1 (Ng _ _) ?_
   rw[AF hi hL]
   exact h
  by_cases e:z1=12
  ·rw[if_pos e]at hT
   simp only[if_pos e]
   refine .succ ?_
   simp only[TW,if_true]
   exact Ev.bO1 t2 (Ev.bO1 (Ng _ _) (fin _ hT))
  ·rw[if_neg e]at hT
   simp only[if_neg e]
   refine .succ ?_
   simp only[TW,Bool.false_eq_true,if_false]
   exact fin _ hT
 by_cases e:z1=12
 ·refine⟨max (max (max (max t X) B) E) A+1,by omega,.succ ?_,doc _ (by rw[if_pos e];omega) (by omega)⟩
  simp only[Ww,if_pos e]
  refine .succ ?_
  simp only[Jb,if_true]
  refine Ev.bO1 t1 ?_
  exact .succ (by simp only[Jc,AB];exact hex t t0)
 ·refine⟨max (max (max (max 0 X) B) E) A+1,by omega,.succ ?_,doc _ (by rw[if_neg e];omega) (by omega)⟩
  simp only[Ww,if_neg e]
  refine .succ ?_
  simp only[Jb,Bool.false_eq_true,if_false]
  exact .succ (by simp only[Jc,AB];exact hex 0 (by omega))
end
def nB (m:List D):Prop:=∀z:Int,-6≤z→z≤20000→∃r,Ev (fun n=>Zp n m z) r∧ -6≤r∧r≤20000∧(0≤r→r≤z∧dR (z - r) m)
theorem Zs {l18:List D}(h:AK Ap 39 l18) (l1:List D) (z3:Int) (l19 l20 l21:List D):∀i:Nat,i≤l18.length→∀z:Int,-6≤z→z≤20000→∃r,-6≤r∧r≤20000∧(0≤r→r≤z∧∀j x,i≤j→l18[j]?=some x→∃d:Nat,5*(d:Int)≤z - r∧Ev (fun n=>Ao x (YH n)) (d:Int)∧Ev (fun n=>Ao x (Ys n)) (d:Int))∧
  ∀R,Ev (fun n=>if r<(0:Int)then Ew n l1 z3 l19 l20 l21 r true else Ew n l1 z3 l19 l20 l21 r false) R→Ev (fun n=>HX n l1 z3 l18 l19 l20 l21 (i:Int) z) R:=by
 refine down l18.length ?_ ?_
 ·intro z h1 h2
  refine⟨z,h1,h2,fun _=>⟨by omega,fun j x hj hx=>absurd (List.getElem?_eq_some_iff.1 hx).1 (by omega)⟩,fun R hR=>.succ ?_⟩
  simp only[HX,AB,Int.lt_irrefl,if_false]
  exact .succ (by simp only[IB,Bool.false_eq_true,if_false];exact hR)
 ·intro i hi ih z h1 h2
  by_cases c:(0:Int)≤z
  ·obtain⟨x,hx,hm,hr⟩:=h.get hi
   obtain⟨a0,a1,a2,a3,a4,a5,a6,a7,rfl,w0,w1,w2,w3,w4,w5,w6,w7⟩:=NM hr
   obtain⟨m,m1,m2⟩:=bT a6 w6
   obtain⟨y,y1,y2,y3,y4⟩:=m2 a0 a1 a2 a3 a4 a5 a7 z w5 h1 h2
   obtain⟨r,r1,r2,r3,r4⟩:=ih y y2 y3
   refine⟨r,r1,r2,fun hr0=>⟨by have:=(r3 hr0).1;have:=y4 (by omega);omega,fun j x hj hx'=>?_⟩,fun R hR=>.succ ?_⟩
   ·have hy:=y4 (by have:=(r3 hr0).1;omega)
    by_cases e:j=i
    ·subst e
     rw[hx]at hx'
     cases hx'
     exact⟨m+1,by have:=(r3 hr0).1;omega,m1 (by omega) _ _ _ _ _ _ _⟩
    ·obtain⟨d,d1,d2⟩:=(r3 hr0).2 j x (by omega) hx'
     exact⟨d,by omega,d2⟩
   ·simp only[HX,AB,if_pos (CT hi),if_pos c]
    refine .succ ?_
    simp only[IB,if_true,AG hx,Ao]
    refine Ev.bO1 y1 ?_
    simp only[AE,AF hi h.1]
    exact r4 R hR
  ·refine⟨z,h1,h2,fun h=>absurd h c,fun R hR=>.succ ?_⟩
   simp only[HX,AB,if_pos (CT hi),if_neg c]
   exact .succ (by simp only[IB,Bool.false_eq_true,if_false];exact hR)
theorem YX {l21:List D}(h:AK Ap 95 l21) (hin:∀(s1 s2:ByteArray) (m:List D),.agg [.str s1,.str s2,.list true 15 m]∈l21→nB m) (l1:List D) (z3:Int):∀i:Nat,i≤l21.length→∀z:Int,-6≤z→z≤20000→∃r,-6≤r∧r≤20000∧
  (0≤r→r≤z∧∀j s1 s2 m,i≤j→l21[j]?=some (.agg [.str s1,.str s2,.list true 15 m])→dR (z - r) m)∧∀R,Ev (fun n=>Eu n l1 (IntKind.wrap .i64 (z3+1)) r) R→Ev (fun n=>HY n l1 z3 l21 (i:Int) z) R:=by
 refine down l21.length ?_ ?_
 ·intro z h1 h2
  refine⟨z,h1,h2,fun _=>⟨by omega,fun j s1 s2 m hj hx=>absurd (List.getElem?_eq_some_iff.1 hx).1 (by omega)⟩,fun R hR=>.succ ?_⟩
  simp only[HY,AB,Int.lt_irrefl,if_false]
  exact .succ (by simp only[IC,Bool.false_eq_true,if_false,AE];exact hR)
 ·intro i hi ih z h1 h2
  by_cases c:(0:Int)≤z
  ·obtain⟨x,hx,hm,hr⟩:=h.get hi
   obtain⟨t1,t2,m,rfl,w0,w1,w2⟩:=NN hr
   obtain⟨a,a1,a2,a3,a4⟩:=Es t1 z h1 h2
   obtain⟨b,b1,b2,b3,b4⟩:=Es t2 a (by omega) a3
   obtain⟨y,y1,y2,y3,y4⟩:=hin t1 t2 m hm b (by omega) b3
   obtain⟨r,r1,r2,r3,r4⟩:=ih y y2 y3
   refine⟨r,r1,r2,fun hr0=>?_,fun R hR=>.succ ?_⟩
   ·obtain⟨r5,r6⟩:=r3 hr0
    obtain⟨y5,y6⟩:=y4 (by omega)
    have:=b4 (by omega)
    have:=a4 (by omega)
    refine⟨by omega,fun j s1 s2 m' hj hx'=>?_⟩
    by_cases e:j=i
    ·subst e
     rw[hx]at hx'
     cases hx'
     exact y6.mono (by omega)
    ·exact (r6 j s1 s2 m' (by omega) hx').mono (by omega)
   ·simp only[HY,AB,if_pos (CT hi),if_pos c]
    refine .succ ?_
    simp only[IC,if_true,AG hx,Be]
    refine Ev.bO1 a1 (Ev.bO1 b1 (Ev.bO1 y1 ?_))
    simp only[AE,AF hi h.1]
    exact r4 R hR
  ·refine⟨z,h1,h2,fun h=>absurd h c,fun R hR=>.succ ?_⟩
   simp only[HY,AB,if_pos (CT hi),if_neg c]
   exact .succ (by simp only[IC,Bool.false_eq_true,if_false,AE];exact hR)
theorem Zt (l:List D):AK Ap 50 l→nB l:=by
 refine Bt (P:=fun l=>AK Ap 50 l→nB l) (fun l ih h=>?_) l
 have loop:∀i:Nat,i≤l.length→∀z:Int,-6≤z→z≤20000→∃r,Ev (fun n=>Eu n l (i:Int) z) r∧ -6≤r∧r≤20000∧(0≤r→r≤z∧∀j x,i≤j→l[j]?=some x→∃d:Nat,5*(d:Int)≤z - r∧Ev (fun n=>Af x (Ww n)) (d:Int)∧∀(L:List D) (i a:Nat) (R:Int),L[i]?=some x→L.length≤maxLen→Ev (fun n=>FF n L ((max a d:Nat):Int) ((i+1:Nat):Int)) R→Ev (fun n=>FF n L (a:Int) (i:Int)) R):=by
  refine down l.length ?_ ?_
  ·intro z h1 h2
   refine⟨z,.succ ?_,h1,h2,fun _=>⟨by omega,fun j x hj hx=>absurd (List.getElem?_eq_some_iff.1 hx).1 (by omega)⟩⟩
   simp only[Eu,AB,Int.lt_irrefl,if_false]
   exact .succ (by simp only[IA,Bool.false_eq_true,if_false];exact .ret)
  ·intro i hi ihl z h1 h2
   by_cases c:(0:Int)≤z
   ·obtain⟨x,hx,hm,hr⟩:=h.get hi
    obtain⟨a0,a1,a2,a3,a4,a5,a6,a7,a8,a9,a10,a11,a12,a13,a14,rfl,w0,w1,w2,w3,w4,w5,w6,w7,w8,w9,w10,w11,w12,w13,w14⟩:=N9 hr
    obtain⟨p1,p2,p3,p4,p5⟩:=Es a1 z h1 h2
    obtain⟨q1,q2,q3,q4,q5⟩:=Es a2 p1 (by omega) p4
    obtain⟨t1,t2,t3,t4,t5⟩:=YP w3 q1 (by omega) q4
    obtain⟨m,m1,m2⟩:=YW a6 w6
    obtain⟨u1,u2,u3,u4,u5⟩:=m2 a4 a5 t1 t3 t4
    obtain⟨v1,v2,v3,v4,v5⟩:=YQ w9 a8 u1 u3 u4
    obtain⟨e1,e2,e3,e4,e5⟩:=Zs w10 l (i:Int) a11 a12 a13 0 (Nat.zero_le _) v1 v3 v4
    have pre:∀R,Ev (fun n=>if e1<(0:Int)then Ew n l (i:Int) a11 a12 a13 e1 true else Ew n l (i:Int) a11 a12 a13 e1 false) R→Ev (fun n=>Eu n l (i:Int) z) R:=by
     intro R hR
     refine .succ ?_
     simp only[Eu,AB,if_pos (CT hi),if_pos c]
     refine .succ ?_
     simp only[IA,if_true,AG hx,Af]
     exact Ev.bO1 p2 (Ev.bO1 q2 (Ev.bO1 t2 (Ev.bO1 u2 (Ev.bO1 v2 (e5 R hR)))))
    by_cases ce:e1<0
    ·refine⟨e1,pre _ ?_,e2,e3,fun h=>absurd h (by omega)⟩
     simp only[if_pos ce]
     exact .succ (by simp only[Ew,if_true];exact .ret)
    ·have s11:=ih a11 (Au (ag:=true) (sz:=15) hm (by simp)) w11
     have s12:=ih a12 (Au (ag:=true) (sz:=15) hm (by simp)) w12
     have s13:∀(s1 s2:ByteArray) (m:List D),.agg [.str s1,.str s2,.list true 15 m]∈a13→nB m:=fun s1 s2 m hm2=>ih m (Nat.lt_trans (Au (ag:=true) (sz:=15) hm2 (by simp)) (Au (ag:=true) (sz:=3) hm (by simp))) (by obtain⟨b0,b1,b2,e,_,_,w⟩:=NN (w13.2 _ hm2);cases e;exact w)
     obtain⟨f1,f2,f3,f4,f5⟩:=s11 e1 e2 e3
     obtain⟨g1,g2,g3,g4,g5⟩:=s12 f1 f3 f4
     obtain⟨k1,k2,k3,k4,k5⟩:=YX w13 s13 l (i:Int) 0 (Nat.zero_le _) g1 g3 g4
     obtain⟨r,r1,r2,r3,r4⟩:=ihl k1 k2 k3
     refine⟨r,pre _ ?_,r2,r3,fun hr0=>?_⟩
     ·simp only[if_neg ce]
      refine .succ ?_
      simp only[Ew,Bool.false_eq_true,if_false]
      refine Ev.bO1 f2 (Ev.bO1 g2 (k5 _ ?_))
      rw[AF hi h.1]
      exact r1
     ·obtain⟨x1,x2⟩:=r4 hr0
      obtain⟨x3,x4⟩:=k4 (by omega)
      obtain⟨x5,x6⟩:=g5 (by omega)
      obtain⟨x7,x8⟩:=f5 (by omega)
      obtain⟨x9,x10⟩:=e4 (by omega)
      have y1:=v5 (by omega)
      have y2:=u5 (by omega)
      have y3:=t5 (by omega)
      have y4:=q5 (by omega)
      have y5:=p5 (by omega)
      refine⟨by omega,fun j x hj hx'=>?_⟩
      by_cases e:j=i
      ·subst e
       rw[hx]at hx'
       cases hx'
       have eX:eR (z - r - 5) a10:=fun x hx=>by
        obtain⟨j,hj⟩:=List.getElem?_of_mem hx
        obtain⟨d,d1,d2⟩:=x10 j x (Nat.zero_le _) hj
        exact⟨d,by omega,d2⟩
       obtain⟨d,d1,d2⟩:=fG (z1:=a0) (s2:=a1) (s3:=a2) (l4:=a3) (z5:=a4) (s6:=a5) (l7:=a6) (z8:=a7) (s9:=a8) (l10:=a9) (l11:=a10) (l12:=a11) (l13:=a12) (l14:=a13) (z15:=a14) (c:=z - r - 5) (by omega) (by omega) ⟨m+1,by omega,m1 (by omega) _ _⟩ w10 eX w11 (x8.mono (by omega)) w12 (x6.mono (by omega)) w13
        (fun s1 s2 m hm2=>by
         obtain⟨j,hj⟩:=List.getElem?_of_mem hm2
         exact (x4 j s1 s2 m (Nat.zero_le _) hj).mono (by omega))
       exact⟨d,by omega,d2⟩
      ·obtain⟨d,d1,d2⟩:=x2 j x (by omega) hx'
       exact⟨d,by omega,d2⟩
   ·refine⟨z,.succ ?_,h1,h2,fun h=>absurd h c⟩
    simp only[Eu,AB,if_pos (CT hi),if_neg c]
    exact .succ (by simp only[IA,Bool.false_eq_true,if_false];exact .ret)
 intro z h1 h2
 obtain⟨r,r1,r2,r3,r4⟩:=loop 0 (Nat.zero_le _) z h1 h2
 refine⟨r,.succ (by simp only[Zp];exact r1),r2,r3,fun hr=>⟨(r4 hr).1,fun x hx=>?_⟩⟩
 obtain⟨j,hj⟩:=List.getElem?_of_mem hx
 exact (r4 hr).2 j x (Nat.zero_le _) hj
theorem YY {l:List D}(h:AK Ap 74 l):∀z:Int,-6≤z→z≤20000→∃r,Ev (fun n=>gN n l z) r∧ -6≤r∧r≤20000∧(0≤r→r≤z∧∀(s:ByteArray) (k:Int) (t:ByteArray) (m:List D),.agg [.str s,.int .u8 k,.str t,.list true 3 m]∈l→∃d:Nat,5*(d:Int)≤z - r∧Ev (fun n=>Vn n k t m) (d:Int)∧Ev (fun n=>Wo n k t m) (d:Int)):=by
 have loop:∀i:Nat,i≤l.length→∀z:Int,-6≤z→z≤20000→∃r,Ev (fun n=>HW n l (i:Int) z) r∧ -6≤r∧r≤20000∧(0≤r→r≤z∧∀(j:Nat) (s:ByteArray) (k:Int) (t:ByteArray) (m:List D),i≤j→l[j]?=some (.agg [.str s,.int .u8 k,.str t,.list true 3 m])→∃d:Nat,5*(d:Int)≤z - r∧Ev (fun n=>Vn n k t m) (d:Int)∧Ev (fun n=>Wo n k t m) (d:Int)):=by
  refine down l.length ?_ ?_
  ·intro z h1 h2
   refine⟨z,.succ ?_,h1,h2,fun _=>⟨by omega,fun j s k t m hj hx=>absurd (List.getElem?_eq_some_iff.1 hx).1 (by omega)⟩⟩
   simp only[HW,AB,Int.lt_irrefl,if_false]
   exact .succ (by simp only[H9,Bool.false_eq_true,if_false];exact .ret)
  ·intro i hi ih z h1 h2
   by_cases c:(0:Int)≤z
   ·obtain⟨x,hx,hm,hr⟩:=h.get hi
    obtain⟨a0,a1,a2,a3,rfl,w0,w1,w2,w3⟩:=Wm hr
    obtain⟨p1,p2,p3,p4,p5⟩:=Es a0 z h1 h2
    obtain⟨m,m1,m2⟩:=YW a3 w3
    obtain⟨u1,u2,u3,u4,u5⟩:=m2 a1 a2 p1 (by omega) p4
    obtain⟨r,r1,r2,r3,r4⟩:=ih u1 u3 u4
    refine⟨r,.succ ?_,r2,r3,fun hr0=>?_⟩
    ·simp only[HW,AB,if_pos (CT hi),if_pos c]
     refine .succ ?_
     simp only[H9,if_true,AG hx,Bl]
     refine Ev.bO1 p2 (Ev.bO1 u2 ?_)
     simp only[AE,AF hi h.1]
     exact r1
    ·obtain⟨x1,x2⟩:=r4 hr0
     have:=u5 (by omega)
     have:=p5 (by omega)
     refine⟨by omega,fun j s k t m' hj hx'=>?_⟩
     by_cases e:j=i
     ·subst e
      rw[hx]at hx'
      cases hx'
      exact⟨m+1,by omega,m1 (by omega) _ _⟩
     ·obtain⟨d,d1,d2⟩:=x2 j s k t m' (by omega) hx'
      exact⟨d,by omega,d2⟩
   ·refine⟨z,.succ ?_,h1,h2,fun h=>absurd h c⟩
    simp only[HW,AB,if_pos (CT hi),if_neg c]
    exact .succ (by simp only[H9,Bool.false_eq_true,if_false];exact .ret)
 intro z h1 h2
 obtain⟨r,r1,r2,r3,r4⟩:=loop 0 (Nat.zero_le _) z h1 h2
 refine⟨r,(by unfold gN;exact r1),r2,r3,fun hr=>⟨(r4 hr).1,fun s k t m hm=>?_⟩⟩
 obtain⟨j,hj⟩:=List.getElem?_of_mem hm
 exact (r4 hr).2 j s k t m (Nat.zero_le _) hj
def Zu (x:D):Prop:=∃d:Nat,d≤100000∧Ev (fun n=>Bd x (kC n)) (d:Int)∧∀(L:List D) (i a:Nat) (R:Int),L[i]?=some x→L.length≤maxLen→Ev (fun n=>LQ n L ((max a d:Nat):Int) ((i+1:Nat):Int)) R→Ev (fun n=>LQ n L (a:Int) (i:Int)) R
theorem fH {c:Int}(hc0:0≤c) (hc:c≤100000) {z1:Int}{s2:ByteArray}{l3:List D}{z4:Int}{s5:ByteArray}{l6 l7:List D}{z8 z9:Int}{s10 s11 s12:ByteArray}{l13 l14:List D}{z15 z16:Int}
  (h3:AK Ap 74 l3) (h7:AK Ap 50 l7) (ht:∃t:Nat,5*(t:Int)≤c∧Ev (fun n=>Vn n z4 s5 l6) (t:Int)∧Ev (fun n=>Wo n z4 s5 l6) (t:Int)) (he:∃t:Nat,5*(t:Int)≤c∧Ev (fun n=>YH n z8 z9 s10 s11 s12 l13 l14 z15) (t:Int)∧Ev (fun n=>Ys n z8 z9 s10 s11 s12 l13 l14 z15) (t:Int))
  (hf:∀(s:ByteArray) (k:Int) (t:ByteArray) (m:List D),.agg [.str s,.int .u8 k,.str t,.list true 3 m]∈l3→∃d:Nat,5*(d:Int)≤c∧Ev (fun n=>Vn n k t m) (d:Int)∧Ev (fun n=>Wo n k t m) (d:Int)) (hd:dR c l7):Zu (.agg [.int .u8 z1,.str s2,.list true 4 l3,.int .u8 z4,.str s5,.list true 3 l6,.list true 15 l7,.int .u8 z8,.int .i64 z9,.str s10,.str s11,.str s12,.list false 1 l13,.list true 8 l14,.int .i64 z15,.int .i64 z16]):=by
 obtain⟨t,t0,t1,t2⟩:=ht
 obtain⟨e,e0,e1,e2⟩:=he
 obtain⟨B,b0,_,_,b3,b4⟩:=L8 hc0 h7 hd 0 (Nat.zero_le _)
 have b5:Ev (fun n=>Wp n l7) (B:Int):=.succ (by simp only[Wp];have:=b4 0;rwa [show max 0 B=B by omega]at this)
 have fl:∀i:Nat,i≤l3.length→∃m:Nat,5*(m:Int)≤c∧(∀(a:Nat) R,Ev (fun n=>NJ n l3 l7 (l3.length:Int) ((max a m:Nat):Int) (l3.length:Int)) R→Ev (fun n=>NJ n l3 l7 (l3.length:Int) (a:Int) (i:Int)) R)∧
   ∀(L:List D) (z2 z3:Int) (a:Nat) R,Ev (fun n=>Nf n L z2 z3 l3 ((max a m:Nat):Int) (l3.length:Int)) R→Ev (fun n=>Nf n L z2 z3 l3 (a:Int) (i:Int)) R:=by
  refine down l3.length ⟨0,by omega,fun a R h=>?_,fun L z2 z3 a R h=>?_⟩ ?_
  ·rw[Nh]at h;exact h
  ·rw[Nh]at h;exact h
  ·rintro i hi ⟨m,m0,m1,m2⟩
   obtain⟨x,hx,hm,hr⟩:=h3.get hi
   obtain⟨a0,a1,a2,a3,rfl,_⟩:=Wm hr
   obtain⟨d,d0,d1,d2⟩:=hf _ _ _ _ hm
   refine⟨max d m,by omega,fun a R h=>?_,fun L z2 z3 a R h=>?_⟩
   ·rw[Ni]at h
    refine .succ ?_
    simp only[NJ,if_pos (CT hi)]
    refine .succ ?_
    simp only[Sx,if_true,AG hx,Bl]
    refine Ev.bO1 d1 ?_
    simp only[AE,mx,AF hi h3.1]
    exact m1 _ _ h
   ·rw[Ni]at h
    refine .succ ?_
    simp only[Nf,AB,if_pos (CT hi)]
    refine .succ ?_
    simp only[Ta,if_true,AG hx,Bl]
    refine Ev.bO1 d2 (Ev.bO1 (Ng _ _) ?_)
    simp only[AE,AF hi h3.1]
    exact m2 _ _ _ _ _ h
 obtain⟨M,m0,m1,m2⟩:=fl 0 (Nat.zero_le _)
 refine⟨max (max (max t e) M) B+1,by omega,?_,fun L i a R hx hL h=>?_⟩
 ·show Ev (fun n=>kC n z1 s2 l3 z4 s5 l6 l7 z8 z9 s10 s11 s12 l13 l14 z15 z16) _
  unfold kC
  refine Ev.bO1 t1 (Ev.bO1 e1 ?_)
  simp only[AE,mx,AB]
  refine m1 _ _ (.succ ?_)
  simp only[NJ,Int.lt_irrefl,if_false]
  refine .succ ?_
  simp only[Sx,Bool.false_eq_true,if_false,AB]
  refine b3 _ _ (.succ ?_)
  simp only[NI,Int.lt_irrefl,if_false]
  refine .succ ?_
  simp only[Sw,Bool.false_eq_true,if_false,AE]
  rw[iw (by omega) (by omega),show ((max (max (max t e) M) B:Nat):Int)+1=((max (max (max t e) M) B+1:Nat):Int)by omega]
  exact .ret
 ·have hi:i<L.length:=(List.getElem?_eq_some_iff.1 hx).1
  refine .succ ?_
  simp only[LQ,AB,if_pos (CT hi)]
  refine .succ ?_
  simp only[TZ,if_true,AG hx,Bd]
  refine Ev.bO1 t2 (Ev.bO1 e2 (Ev.bO1 b5 (Ev.bO1 (Ng _ _) (Ev.bO1 (Ng _ _) ?_))))
  refine m2 L _ _ _ _ (.succ ?_)
  simp only[Nf,AB,Int.lt_irrefl,if_false]
  refine .succ ?_
  simp only[Ta,Bool.false_eq_true,if_false,AE]
  rw[iw (by omega) (by omega),show ((max (max t (max e B)) M:Nat):Int)+1=((max (max (max t e) M) B+1:Nat):Int)by omega]
  refine Ev.bO1 (Ng _ _) ?_
  rw[AF hi hL]
  exact h
theorem YZ {l:List D}(h:AK Ap 45 l):∃b,Ev (fun n=>F8 n l) b∧(b=false→l.length≤4000∧∀x∈l,Zu x):=by
 have loop:∀i:Nat,i≤l.length→∀z:Int,-6≤z→z≤20000→∃b,Ev (fun n=>Nb n l (i:Int) z) b∧(b=false→5*((l.length:Int) - (i:Int))≤z∧∀j x,i≤j→l[j]?=some x→Zu x):=by
  have t_end:∀(z2 z:Int),Ev (fun n=>OA n l z2 z false) (decide (z<0)):=by
   intro z2 z
   refine .succ ?_
   simp only[OA,Bool.false_eq_true,if_false]
   by_cases c:z<0
   ·simp only[if_pos c,decide_eq_true c];exact .ret
   ·simp only[if_neg c,decide_eq_false c];exact .ret
  refine down l.length ?_ ?_
  ·intro z h1 h2
   refine⟨decide (z<0),.succ ?_,fun hb=>⟨by have:=of_decide_eq_false hb;omega,fun j x hj hx=>absurd (List.getElem?_eq_some_iff.1 hx).1 (by omega)⟩⟩
   simp only[Nb,AB,Int.lt_irrefl,if_false]
   exact t_end _ _
  ·intro i hi ih z h1 h2
   by_cases c:(0:Int)≤z
   ·obtain⟨x,hx,hm,hr⟩:=h.get hi
    obtain⟨a0,a1,a2,a3,a4,a5,a6,a7,a8,a9,a10,a11,a12,a13,a14,a15,rfl,w0,w1,w2,w3,w4,w5,w6,w7,w8,w9,w10,w11,w12,w13,w14,w15⟩:=Un hr
    obtain⟨p1,p2,p3,p4,p5⟩:=Es a1 z h1 h2
    obtain⟨q1,q2,q3,q4,q5⟩:=YY w2 p1 (by omega) p4
    obtain⟨m,m1,m2⟩:=YW a5 w5
    obtain⟨u1,u2,u3,u4,u5⟩:=m2 a3 a4 q1 q3 q4
    obtain⟨v1,v2,v3,v4,v5⟩:=Zt a6 w6 u1 u3 u4
    obtain⟨k,k1,k2⟩:=bT a13 w13
    obtain⟨y1,y2,y3,y4,y5⟩:=k2 a7 a8 a9 a10 a11 a12 a14 v1 w12 v3 v4
    obtain⟨b,b1,b2⟩:=ih y1 y3 y4
    refine⟨b,.succ ?_,fun hb=>?_⟩
    ·simp only[Nb,AB,if_pos (CT hi),if_pos c]
     refine .succ ?_
     simp only[OA,if_true,AG hx,Bd]
     refine Ev.bO1 p2 (Ev.bO1 q2 (Ev.bO1 u2 (Ev.bO1 v2 (Ev.bO1 y2 ?_))))
     simp only[AE,AF hi h.1]
     exact b1
    ·obtain⟨x1,x2⟩:=b2 hb
     have g1:=y5 (by omega)
     obtain⟨g2,g3⟩:=v5 (by omega)
     have g4:=u5 (by omega)
     obtain⟨g5,g6⟩:=q5 (by omega)
     have g7:=p5 (by omega)
     refine⟨by omega,fun j x hj hx'=>?_⟩
     by_cases e:j=i
     ·subst e
      rw[hx]at hx'
      cases hx'
      refine fH (c:=20000) (by omega) (by omega) (z1:=a0) (s2:=a1) (z16:=a15) w2 w6 ⟨m+1,by omega,m1 (by omega) a3 a4⟩ ⟨k+1,by omega,k1 (by omega) a7 a8 a9 a10 a11 a12 a14⟩ (fun s k t m hm=>?_) (g3.mono (by omega))
      obtain⟨d,d1,d2⟩:=g6 s k t m hm
      exact⟨d,by omega,d2⟩
     ·exact x2 j x (by omega) hx'
   ·refine⟨decide (z<0),.succ ?_,fun hb=>absurd (of_decide_eq_false hb) (by omega)⟩
    simp only[Nb,AB,if_pos (CT hi),if_neg c]
    exact t_end _ _
 obtain⟨b,b1,b2⟩:=loop 0 (Nat.zero_le _) 20000 (by omega) (by omega)
 refine⟨b,(by unfold F8;exact b1),fun hb=>⟨by have:=(b2 hb).1;omega,fun x hx=>?_⟩⟩
 obtain⟨j,hj⟩:=List.getElem?_of_mem hx
 exact (b2 hb).2 j x (Nat.zero_le _) hj
theorem Ya {l:List D}(h:AK Ap 45 l) (hf:∀x∈l,Zu x):∃v,Ev (fun n=>mX n l) v∧Ev (fun n=>nA n l) v:=by
 have loop:∀i:Nat,i≤l.length→∃m:Nat,∀a:Nat,Ev (fun n=>PI n l (l.length:Int) (a:Int) (i:Int)) (IntKind.wrap .i64 (((max a m:Nat):Int)+1))∧Ev (fun n=>LQ n l (a:Int) (i:Int)) (IntKind.wrap .i64 (((max a m:Nat):Int)+1)):=by
  refine down l.length ⟨0,fun a=>?_⟩ ?_
  ·rw[Nh]
   refine⟨.succ ?_,.succ ?_⟩
   ·simp only[PI,Int.lt_irrefl,if_false]
    exact .succ (by simp only[Sy,Bool.false_eq_true,if_false,AE];exact .ret)
   ·simp only[LQ,AB,Int.lt_irrefl,if_false]
    exact .succ (by simp only[TZ,Bool.false_eq_true,if_false,AE];exact .ret)
  ·rintro i hi ⟨m,hm⟩
   obtain⟨x,hx,hxm,hr⟩:=h.get hi
   obtain⟨d,d0,d1,d2⟩:=hf x hxm
   refine⟨max d m,fun a=>?_⟩
   rw[Ni]
   refine⟨.succ ?_,d2 l i a _ hx h.1 (hm _).2⟩
   obtain⟨a0,a1,a2,a3,a4,a5,a6,a7,a8,a9,a10,a11,a12,a13,a14,a15,rfl,_⟩:=Un hr
   simp only[PI,if_pos (CT hi)]
   refine .succ ?_
   simp only[Sy,if_true,AG hx,Bd]
   refine Ev.bO1 d1 ?_
   simp only[AE,mx,AF hi h.1]
   exact (hm _).1
 obtain⟨m,hm⟩:=loop 0 (Nat.zero_le _)
 obtain⟨h1,h2⟩:=hm 0
 exact⟨_,by unfold mX;exact h1,by unfold nA;exact h2⟩
end Go.Proofs.YtjmofeakajdbiaaGreatDoor
end
set_option linter.unusedVariables false
noncomputable section
namespace Go.Proofs.YtjmofeakajdbiaaGreatDoor
open Go Go.AM
mutual
def LR:Nat->LD->Int->Int->Option (Int)
 | 0,_,_,_=>none
 | n+1,l1,z2,z3=>
  AB l1 fun z4=>(if z3<z4 then Nj n l1 z2 z3 true else Nj n l1 z2 z3 false)
def Nj:Nat->LD->Int->Int->Bool->Option (Int)
 | 0,_,_,_,_=>none
 | n+1,l1,z2,z3,b5=>
  (if b5=true then AE (IntKind.wrap .i64 (z2+1)) fun z6=>Ae l1 z3 fun x7=>Ao x7 fun z8 z9 s10 s11 s12 l13 l14 z15=>bO1 (Zv n l14) fun z16=>AE (IntKind.wrap .i64 (z6+z16)) fun z17=>AE (IntKind.wrap .i64 (z3+1)) fun z18=>LR n l1 z17 z18 else some z2)
def Zv:Nat->LD->Option (Int)
 | 0,_=>none
 | n+1,l1=>
  LR n l1 (0:Int) (0:Int)
end
noncomputable def tS:BS:=⟨47,Tryz.f47,[.q 8],[],⟨.one (.z),[],[]⟩,Int,inferInstance,Zv,[⟨58,[0,2,3,4],[],96,[.q 8,.k 0,.z,.z],[],fun n l1 z2 z3=>LR n l1 z2 z3⟩,
 ⟨465,[0,2,3,4,8],[],224,[.q 8,.k 0,.z,.z,.b],[],fun n l1 z2 z3 b5=>Nj n l1 z2 z3 b5⟩]⟩
theorem yN:CF Tryz.prog inv (KU [tS]):=gr [] ⟨⟨Tryz.func47,by kernel_rfl,by kernel_rfl,by kernel_rfl⟩,trivial⟩
noncomputable def tT:Kz:=⟨tS.c,yN.1⟩
mutual
def LS:Nat->LD->Int->Int->Option (Int)
 | 0,_,_,_=>none
 | n+1,l1,z2,z3=>
  AB l1 fun z4=>(if z3<z4 then Tb n l1 z2 z3 true else Tb n l1 z2 z3 false)
def Tb:Nat->LD->Int->Int->Bool->Option (Int)
 | 0,_,_,_,_=>none
 | n+1,l1,z2,z3,b5=>
  (if b5=true then AE (IntKind.wrap .i64 (z2+1)) fun z6=>Ae l1 z3 fun x7=>Af x7 fun z8 s9 s10 l11 z12 s13 l14 z15 s16 l17 l18 l19 l20 l21 z22=>bO1 (Zv n l18) fun z23=>AE (IntKind.wrap .i64 (z6+z23)) fun z24=>Ae l1 z3 fun x25=>Af x25 fun z26 s27 s28 l29 z30 s31 l32 z33 s34 l35 l36 l37 l38 l39 z40=>bO1 (Wq n l37) fun z41=>AE (IntKind.wrap .i64 (z24+z41)) fun z42=>Ae l1 z3 fun x43=>Af x43 fun z44 s45 s46 l47 z48 s49 l50 z51 s52 l53 l54 l55 l56 l57 z58=>bO1 (Wq n l56) fun z59=>AE (IntKind.wrap .i64 (z42+z59)) fun z60=>Nk n l1 z3 z60 (0:Int)else some z2)
def Nk:Nat->LD->Int->Int->Int->Option (Int)
 | 0,_,_,_,_=>none
 | n+1,l1,z3,z61,z62=>
  Ae l1 z3 fun x63=>Af x63 fun z64 s65 s66 l67 z68 s69 l70 z71 s72 l73 l74 l75 l76 l77 z78=>AB l77 fun z79=>(if z62<z79 then Tc n l1 z3 z61 z62 true else Tc n l1 z3 z61 z62 false)
def Tc:Nat->LD->Int->Int->Int->Bool->Option (Int)
 | 0,_,_,_,_,_=>none
 | n+1,l1,z3,z61,z62,b80=>
  (if b80=true then Ae l1 z3 fun x81=>Af x81 fun z82 s83 s84 l85 z86 s87 l88 z89 s90 l91 l92 l93 l94 l95 z96=>Ae l95 z62 fun x97=>Be x97 fun s98 s99 l100=>bO1 (Wq n l100) fun z101=>AE (IntKind.wrap .i64 (z61+z101)) fun z102=>AE (IntKind.wrap .i64 (z62+1)) fun z103=>Nk n l1 z3 z102 z103 else AE (IntKind.wrap .i64 (z3+1)) fun z104=>LS n l1 z61 z104)
def Wq:Nat->LD->Option (Int)
 | 0,_=>none
 | n+1,l1=>
  LS n l1 (0:Int) (0:Int)
end
noncomputable def tU:BS:=⟨46,Tryz.f46,[.q 15],[],⟨.one (.z),[],[]⟩,Int,inferInstance,Wq,[⟨58,[0,2,3,4],[],96,[.q 15,.k 0,.z,.z],[],fun n l1 z2 z3=>LS n l1 z2 z3⟩,
 ⟨465,[0,2,3,4,9],[],224,[.q 15,.k 0,.z,.z,.b],[],fun n l1 z2 z3 b5=>Tb n l1 z2 z3 b5⟩,
 ⟨7462,[0,2,3,4,5],[],1024,[.q 15,.k 0,.z,.z,.z],[],fun n l1 z61 z3 z62=>Nk n l1 z3 z61 z62⟩,
 ⟨59697,[0,2,3,4,5,42],[],1280,[.q 15,.k 0,.z,.z,.z,.b],[],fun n l1 z61 z3 z62 b80=>Tc n l1 z3 z61 z62 b80⟩]⟩
theorem yO:CF Tryz.prog inv (KU [tU]):=gr [tT] ⟨⟨Tryz.func46,by kernel_rfl,by kernel_rfl,by kernel_rfl⟩,trivial⟩
noncomputable def yP:Kz:=⟨tU.c,yO.1⟩
mutual
def Nl:Nat->LD->Int->Int->Option (Int)
 | 0,_,_,_=>none
 | n+1,l1,z2,z3=>
  AB l1 fun z4=>(if z3<z4 then Ph n l1 z2 z3 true else Ph n l1 z2 z3 false)
def Ph:Nat->LD->Int->Int->Bool->Option (Int)
 | 0,_,_,_,_=>none
 | n+1,l1,z2,z3,b5=>
  (if b5=true then AE (IntKind.wrap .i64 (z2+1)) fun z6=>Ae l1 z3 fun x7=>Bd x7 fun z8 s9 l10 z11 s12 l13 l14 z15 z16 s17 s18 s19 l20 l21 z22 z23=>bO1 (Wq n l14) fun z24=>AE (IntKind.wrap .i64 (z6+z24)) fun z25=>Ae l1 z3 fun x26=>Bd x26 fun z27 s28 l29 z30 s31 l32 l33 z34 z35 s36 s37 s38 l39 l40 z41 z42=>(if z27=(3:Int)then Td n l1 z3 z25 true else Td n l1 z3 z25 false)else some z2)
def Td:Nat->LD->Int->Int->Bool->Option (Int)
 | 0,_,_,_,_=>none
 | n+1,l1,z3,z25,b43=>
  (if b43=true then Ae l1 z3 fun x44=>Bd x44 fun z45 s46 l47 z48 s49 l50 l51 z52 z53 s54 s55 s56 l57 l58 z59 z60=>bO1 (Zv n ([.agg [.int .u8 z52,.int .i64 z53,.str s54,.str s55,.str s56,.list false 1 l57,.list true 8 l58,.int .i64 z59]])) fun z61=>AE (IntKind.wrap .i64 (z25+z61)) fun z62=>Te n l1 z3 z62 else Te n l1 z3 z25)
def Te:Nat->LD->Int->Int->Option (Int)
 | 0,_,_,_=>none
 | n+1,l1,z3,z63=>
  AE (IntKind.wrap .i64 (z3+1)) fun z64=>Nl n l1 z63 z64
end
def nC (n:Nat) (l1:LD):Option (Int):=
 Nl n l1 (0:Int) (0:Int)
noncomputable def yQ:BS:=⟨15,Tryz.f15,[.agg [.q 16]],[],⟨.one (.z),[],[]⟩,Int,inferInstance,nC,[⟨58,[1,2,3,4],[.loc 0],128,[.p (.loc 0) 0,.k 0,.z,.z],[[.q 16]],fun n z2 z3 l1=>Nl n l1 z2 z3⟩,
 ⟨465,[1,2,3,4,9],[.loc 0],288,[.p (.loc 0) 0,.k 0,.z,.z,.b],[[.q 16]],fun n z2 z3 b5 l1=>Ph n l1 z2 z3 b5⟩,
 ⟨3731,[1,2,3,4,28],[.loc 0],864,[.p (.loc 0) 0,.k 0,.z,.z,.b],[[.q 16]],fun n z25 z3 b43 l1=>Td n l1 z3 z25 b43⟩,
 ⟨467,[1,2,3,4],[.loc 0],1216,[.p (.loc 0) 0,.k 0,.z,.z],[[.q 16]],fun n z63 z3 l1=>Te n l1 z3 z63⟩]⟩
noncomputable def yR:Kz:=sg yQ [yP,tT] Tryz.func15 (by kernel_rfl) (by kernel_rfl) (by kernel_rfl)
end Go.Proofs.YtjmofeakajdbiaaGreatDoor
end
set_option linter.unusedVariables false
noncomputable section
namespace Go.Proofs.YtjmofeakajdbiaaGreatDoor
open Go Go.AM
abbrev W (x:Int):Int:=IntKind.i64.wrap x
theorem HZ (a b:Int):W (W a+b)=W (a+b):=by simp only[W,IntKind.wrap_i64];omega
theorem Ex (a b:Int):W (a+W b)=W (a+b):=by simp only[W,IntKind.wrap_i64];omega
theorem rB (a k S:Int):W (a+(1+k+S))=W (a+(1+k)+S):=by rw[Int.add_assoc a]
theorem Yb (a:Int):W (a+0)=W a:=by rw[Int.add_zero]
theorem bU (l:List D):AK Ap 39 l→∃S:Int,(∀(z1 z2:Int) (s3 s4 s5:ByteArray) (l6:List D) (z8:Int),Ev (fun n=>bM n z1 z2 s3 s4 s5 l6 l z8) (W (1+S)))∧Ev (fun n=>Zv n l) (W S)∧
  ∀(z1:Int) (s2 s3:ByteArray) (l4:List D) (z5:Int) (s6:ByteArray) (l7:List D) (z8:Int) (s9:ByteArray) (l10 l12 l13 l14:List D) (z15:Int) (a R:Int),Ev (fun n=>Eo n z1 s2 s3 l4 z5 s6 l7 z8 s9 l10 l l12 l13 l14 z15 (l.length:Int) (l.length:Int) (W (a+S))) R→Ev (fun n=>Eo n z1 s2 s3 l4 z5 s6 l7 z8 s9 l10 l l12 l13 l14 z15 (l.length:Int) ((0:Nat):Int) (W a)) R:=by
 refine Bt (P:=fun l=>AK Ap 39 l→∃S:Int,(∀(z1 z2:Int) (s3 s4 s5:ByteArray) (l6:List D) (z8:Int),Ev (fun n=>bM n z1 z2 s3 s4 s5 l6 l z8) (W (1+S)))∧Ev (fun n=>Zv n l) (W S)∧
  ∀(z1:Int) (s2 s3:ByteArray) (l4:List D) (z5:Int) (s6:ByteArray) (l7:List D) (z8:Int) (s9:ByteArray) (l10 l12 l13 l14:List D) (z15:Int) (a R:Int),Ev (fun n=>Eo n z1 s2 s3 l4 z5 s6 l7 z8 s9 l10 l l12 l13 l14 z15 (l.length:Int) (l.length:Int) (W (a+S))) R→Ev (fun n=>Eo n z1 s2 s3 l4 z5 s6 l7 z8 s9 l10 l l12 l13 l14 z15 (l.length:Int) ((0:Nat):Int) (W a)) R) (fun l ih h=>?_) l
 have loop:∀i:Nat,i≤l.length→∃S:Int,(∀a:Int,Ev (fun n=>PJ n l (l.length:Int) (W a) (i:Int)) (W (a+S)))∧(∀a:Int,Ev (fun n=>LR n l (W a) (i:Int)) (W (a+S)))∧
   ∀(z1:Int) (s2 s3:ByteArray) (l4:List D) (z5:Int) (s6:ByteArray) (l7:List D) (z8:Int) (s9:ByteArray) (l10 l12 l13 l14:List D) (z15:Int) (a R:Int),Ev (fun n=>Eo n z1 s2 s3 l4 z5 s6 l7 z8 s9 l10 l l12 l13 l14 z15 (l.length:Int) (l.length:Int) (W (a+S))) R→Ev (fun n=>Eo n z1 s2 s3 l4 z5 s6 l7 z8 s9 l10 l l12 l13 l14 z15 (l.length:Int) (i:Int) (W a)) R:=by
  refine down l.length ⟨0,fun a=>?_,fun a=>?_,?_⟩ ?_
  ·rw[Yb]
   refine .succ ?_
   simp only[PJ,Int.lt_irrefl,if_false]
   exact .succ (by simp only[Sz,Bool.false_eq_true,if_false];exact .ret)
  ·rw[Yb]
   refine .succ ?_
   simp only[LR,AB,Int.lt_irrefl,if_false]
   exact .succ (by simp only[Nj,Bool.false_eq_true,if_false];exact .ret)
  ·intros
   rename_i h
   rw[Yb]at h
   exact h
  ·rintro i hi ⟨S,h1,h2,h3⟩
   obtain⟨x,hx,hm,hr⟩:=h.get hi
   obtain⟨a0,a1,a2,a3,a4,a5,a6,a7,rfl,w0,_,w2,w3,w4,w5,w6,_⟩:=NM hr
   obtain⟨k,q1,q2,_⟩:=ih a6 (Au (ag:=true) (sz:=8) hm (by simp)) w6
   refine⟨1+k+S,fun a=>?_,fun a=>?_,?_⟩
   ·refine .succ ?_
    simp only[PJ,if_pos (CT hi)]
    refine .succ ?_
    simp only[Sz,if_true,AG hx,Ao]
    refine Ev.bO1 (q1 _ _ _ _ _ _ _) ?_
    simp only[AE,AF hi h.1,HZ,Ex]
    rw[rB]
    exact h1 _
   ·refine .succ ?_
    simp only[LR,AB,if_pos (CT hi)]
    refine .succ ?_
    simp only[Nj,if_true,AG hx,Ao,AE]
    refine Ev.bO1 q2 ?_
    simp only[AF hi h.1,HZ,Ex]
    rw[rB,←Int.add_assoc]
    exact h2 _
   ·intros
    rename_i a R hR
    rw[rB]at hR
    refine .succ ?_
    simp only[Eo,if_pos (CT hi)]
    refine .succ ?_
    simp only[Je,if_true,AG hx,Ao]
    refine Ev.bO1 (q1 _ _ _ _ _ _ _) ?_
    simp only[AE,AF hi h.1,HZ,Ex]
    exact h3 _ _ _ _ _ _ _ _ _ _ _ _ _ _ _ _ hR
 obtain⟨S,h1,h2,h3⟩:=loop 0 (Nat.zero_le _)
 refine⟨S,fun z1 z2 s3 s4 s5 l6 z8=>.succ ?_,.succ ?_,h3⟩
 ·simp only[bM,AB]
  exact h1 1
 ·simp only[Zv]
  have:=h2 0
  rwa [Int.zero_add]at this
def tV (v:Int) (x:D):Prop:=∀(L:List D) (i:Nat) (a R:Int),L[i]?=some x→L.length≤maxLen→Ev (fun n=>LS n L (W (a+v)) ((i+1:Nat):Int)) R→Ev (fun n=>LS n L (W a) (i:Int)) R
def sR (l:List D):Prop:=∀x∈l,∃v:Int,Ev (fun n=>Af x (Yp n)) (W v)∧tV v x
theorem mC {x:D}{v:Int}(hx:FZ Ap 50 x) (h:Ev (fun n=>Af x (Yp n)) (W v)) (a:Int):Ev (fun n=>Af x fun z1 s2 s3 l4 z5 s6 l7 z8 s9 l10 l11 l12 l13 l14 z15=>NK n z1 s2 s3 l4 z5 s6 l7 z8 s9 l10 l11 l12 l13 l14 z15 (W a)) (W (a+v)):=by
 obtain⟨a0,a1,a2,a3,a4,a5,a6,a7,a8,a9,a10,a11,a12,a13,a14,rfl,_⟩:=N9 hx
 refine Ev.congr (A:=fun n=>NK n a0 a1 a2 a3 a4 a5 a6 a7 a8 a9 a10 a11 a12 a13 a14 (W a)) (.succ ?_) (fun n=>rfl)
 simp only[NK]
 refine Ev.bO1 h ?_
 simp only[AE,HZ,Ex]
 exact .ret
theorem L9 {l:List D}(hl:AK Ap 50 l) (hd:sR l):∀i:Nat,i≤l.length→∃S:Int,
  (∀(z1:Int) (s2 s3:ByteArray) (l4:List D) (z5:Int) (s6:ByteArray) (l7:List D) (z8:Int) (s9:ByteArray) (l10 l11 l12 l13 l14:List D) (z15:Int) (z17 a:Int) R,Ev (fun n=>Ck n z1 s2 s3 l4 z5 s6 l7 z8 s9 l10 l11 l12 l13 l14 z15 (IntKind.wrap .i64 (z17+1)) (W (a+S))) R→Ev (fun n=>C8 n z1 s2 s3 l4 z5 s6 l7 z8 s9 l10 l11 l12 l13 l14 z15 z17 l (l.length:Int) (i:Int) (W a)) R)∧
  (∀(z1:Int) (s2 s3:ByteArray) (l4:List D) (z5:Int) (s6:ByteArray) (l7:List D) (z8:Int) (s9:ByteArray) (l10 l11 l12 l13 l14:List D) (z15:Int) (z45 z46 a:Int) R,Ev (fun n=>Cm n z1 s2 s3 l4 z5 s6 l7 z8 s9 l10 l11 l12 l13 l14 z15 z45 (IntKind.wrap .i64 (z46+1)) (W (a+S))) R→Ev (fun n=>C9 n z1 s2 s3 l4 z5 s6 l7 z8 s9 l10 l11 l12 l13 l14 z15 z45 z46 l (l.length:Int) (i:Int) (W a)) R)∧
  (∀(l1:List D) (z2 z4 a R:Int),Ev (fun n=>LL n l1 z2 (W (a+S)) (IntKind.wrap .i64 (z4+1))) R→Ev (fun n=>PL n l1 z2 z4 l (l.length:Int) (W a) (i:Int)) R)∧
  ∀a:Int,Ev (fun n=>LS n l (W a) (i:Int)) (W (a+S)):=by
 refine down l.length ⟨0,?_,?_,fun l1 z2 z4 a R h=>?_,fun a=>?_⟩ ?_
 ·intros
  rename_i h
  rw[Yb]at h
  refine .succ ?_
  simp only[C8,Int.lt_irrefl,if_false]
  exact .succ (by simp only[Dc,Bool.false_eq_true,if_false,AE];exact h)
 ·intros
  rename_i h
  rw[Yb]at h
  refine .succ ?_
  simp only[C9,Int.lt_irrefl,if_false]
  exact .succ (by simp only[De,Bool.false_eq_true,if_false,AE];exact h)
 ·rw[Yb]at h
  refine .succ ?_
  simp only[PL,Int.lt_irrefl,if_false]
  exact .succ (by simp only[S2,Bool.false_eq_true,if_false,AE];exact h)
 ·rw[Yb]
  refine .succ ?_
  simp only[LS,AB,Int.lt_irrefl,if_false]
  exact .succ (by simp only[Tb,Bool.false_eq_true,if_false];exact .ret)
 ·rintro i hi ⟨S,m1,m2,m3,m4⟩
  obtain⟨x,hx,hm,hr⟩:=hl.get hi
  obtain⟨v,d1,d2⟩:=hd x hm
  have h3:=fun a:Int=>mC hr d1 a
  have d2':=fun a R=>d2 l i a R hx hl.1
  obtain⟨b0,b1,b2,b3,b4,b5,b6,b7,b8,b9,b10,b11,b12,b13,b14,rfl,_⟩:=N9 hr
  refine⟨v+S,?_,?_,fun l1 z2 z4 a R h=>?_,fun a=>?_⟩
  ·intros
   rename_i a R h
   rw[←Int.add_assoc]at h
   refine .succ ?_
   simp only[C8,if_pos (CT hi)]
   refine .succ ?_
   simp only[Dc,if_true,AG hx,Af]
   refine Ev.bO1 (h3 a) ?_
   simp only[AE,AF hi hl.1]
   exact m1 _ _ _ _ _ _ _ _ _ _ _ _ _ _ _ _ _ _ h
  ·intros
   rename_i a R h
   rw[←Int.add_assoc]at h
   refine .succ ?_
   simp only[C9,if_pos (CT hi)]
   refine .succ ?_
   simp only[De,if_true,AG hx,Af]
   refine Ev.bO1 (h3 a) ?_
   simp only[AE,AF hi hl.1]
   exact m2 _ _ _ _ _ _ _ _ _ _ _ _ _ _ _ _ _ _ _ h
  ·rw[←Int.add_assoc]at h
   refine .succ ?_
   simp only[PL,if_pos (CT hi)]
   refine .succ ?_
   simp only[S2,if_true,AG hx,Af]
   refine Ev.bO1 d1 ?_
   simp only[AE,AF hi hl.1,HZ,Ex]
   exact m3 _ _ _ _ _ h
  ·rw[←Int.add_assoc]
   exact d2' a _ (m4 _)
theorem Zw {z1:Int}{s2 s3:ByteArray}{l4:List D}{z5:Int}{s6:ByteArray}{l7:List D}{z8:Int}{s9:ByteArray}{l10 l11 l12 l13 l14:List D}{z15:Int}(h14:AK Ap 95 l14) (hd:∀(s1 s2:ByteArray) (m:List D),.agg [.str s1,.str s2,.list true 15 m]∈l14→sR m):∀i:Nat,i≤l14.length→∃S:Int,
  (∀a:Int,Ev (fun n=>Cm n z1 s2 s3 l4 z5 s6 l7 z8 s9 l10 l11 l12 l13 l14 z15 (l14.length:Int) (i:Int) (W a)) (W (a+S),z1,s2,s3,l4,z5,s6,l7,z8,s9,l10,l11,l12,l13,l14,z15))∧
  ∀(L:List D) (j:Nat) (a R:Int),L[j]?=some (.agg [.int .u8 z1,.str s2,.str s3,.list false 1 l4,.int .u8 z5,.str s6,.list true 3 l7,.int .i64 z8,.str s9,.list false 1 l10,.list true 8 l11,.list true 15 l12,.list true 15 l13,.list true 3 l14,.int .i64 z15])→Ev (fun n=>Nk n L (j:Int) (W (a+S)) (l14.length:Int)) R→Ev (fun n=>Nk n L (j:Int) (W a) (i:Int)) R:=by
 refine down l14.length ⟨0,fun a=>?_,fun L j a R hj h=>?_⟩ ?_
 ·rw[Yb]
  refine .succ ?_
  simp only[Cm,Int.lt_irrefl,if_false]
  exact .succ (by simp only[Dd,Bool.false_eq_true,if_false];exact .ret)
 ·rw[Yb]at h;exact h
 ·rintro i hi ⟨S,m1,m2⟩
  obtain⟨x,hx,hm,hr⟩:=h14.get hi
  obtain⟨t1,t2,q,rfl,_,_,w2⟩:=NN hr
  obtain⟨k,_,k2,_,k4⟩:=L9 w2 (hd _ _ _ hm) 0 (Nat.zero_le _)
  have k5:Ev (fun n=>Wq n q) (W k):=.succ (by simp only[Wq];have:=k4 0;rwa [Int.zero_add]at this)
  refine⟨k+S,fun a=>?_,fun L j a R hj h=>?_⟩
  ·rw[←Int.add_assoc]
   refine .succ ?_
   simp only[Cm,if_pos (CT hi)]
   refine .succ ?_
   simp only[Dd,if_true,AG hx,Be,AB]
   refine k2 _ _ _ _ _ _ _ _ _ _ _ _ _ _ _ _ _ _ _ ?_
   rw[AF hi h14.1]
   exact m1 _
  ·rw[←Int.add_assoc]at h
   refine .succ ?_
   simp only[Nk,AG hj,Af,AB,if_pos (CT hi)]
   refine .succ ?_
   simp only[Tc,if_true,AG hj,Af,AG hx,Be]
   refine Ev.bO1 k5 ?_
   simp only[AE,AF hi h14.1,HZ,Ex]
   exact m2 _ _ _ _ hj h
theorem fI {z1:Int}{s2 s3:ByteArray}{l4:List D}{z5:Int}{s6:ByteArray}{l7:List D}{z8:Int}{s9:ByteArray}{l10 l11 l12 l13 l14:List D}{z15:Int}(h11:AK Ap 39 l11) (h12:AK Ap 50 l12) (hd12:sR l12) (h13:AK Ap 50 l13) (hd13:sR l13)
  (h14:AK Ap 95 l14) (hd:∀(s1 s2:ByteArray) (m:List D),.agg [.str s1,.str s2,.list true 15 m]∈l14→sR m):∃v:Int,Ev (fun n=>Yp n z1 s2 s3 l4 z5 s6 l7 z8 s9 l10 l11 l12 l13 l14 z15) (W v)∧tV v (.agg [.int .u8 z1,.str s2,.str s3,.list false 1 l4,.int .u8 z5,.str s6,.list true 3 l7,.int .i64 z8,.str s9,.list false 1 l10,.list true 8 l11,.list true 15 l12,.list true 15 l13,.list true 3 l14,.int .i64 z15]):=by
 obtain⟨X,_,x2,x3⟩:=bU l11 h11
 obtain⟨B,b1,_,_,b4⟩:=L9 h12 hd12 0 (Nat.zero_le _)
 obtain⟨E,e1,_,_,e4⟩:=L9 h13 hd13 0 (Nat.zero_le _)
 obtain⟨A,a1,a2⟩:=Zw (z1:=z1) (s2:=s2) (s3:=s3) (l4:=l4) (z5:=z5) (s6:=s6) (l7:=l7) (z8:=z8) (s9:=s9) (l10:=l10) (l11:=l11) (l12:=l12) (l13:=l13) (l14:=l14) (z15:=z15) h14 hd 0 (Nat.zero_le _)
 have b5:Ev (fun n=>Wq n l12) (W B):=.succ (by simp only[Wq];have:=b4 0;rwa [Int.zero_add]at this)
 have e5:Ev (fun n=>Wq n l13) (W E):=.succ (by simp only[Wq];have:=e4 0;rwa [Int.zero_add]at this)
 have h138:∀a:Int,Ev (fun n=>NL n (W a) z1 s2 s3 l4 z5 s6 l7 z8 s9 l10 l11 l12 l13 l14 z15) (W (a+B+E+A),z1,s2,s3,l4,z5,s6,l7,z8,s9,l10,l11,l12,l13,l14,z15):=by
  intro a
  refine .succ ?_
  simp only[NL]
  refine .succ ?_
  simp only[Ck,show (0:Int)<2 by decide,if_true]
  refine .succ ?_
  simp only[C7,if_true,Kc,Bo,AB]
  refine b1 _ _ _ _ _ _ _ _ _ _ _ _ _ _ _ _ _ _ ?_
  rw[show IntKind.wrap .i64 ((0:Int)+1)=1 from rfl]
  refine .succ ?_
  simp only[Ck,show (1:Int)<2 by decide,if_true]
  refine .succ ?_
  have g1:∀{γ:Type} (k:D→Option γ),Ae [.list true 15 l12,.list true 15 l13] (1:Int) k=k (.list true 15 l13):=fun k=>AG (i:=1) rfl
  simp only[C7,if_true,g1,Bo,AB]
  refine e1 _ _ _ _ _ _ _ _ _ _ _ _ _ _ _ _ _ _ ?_
  rw[show IntKind.wrap .i64 ((1:Int)+1)=2 from rfl]
  refine .succ ?_
  simp only[Ck,Int.lt_irrefl,if_false]
  refine .succ ?_
  simp only[C7,Bool.false_eq_true,if_false,AB]
  exact a1 _
 refine⟨1+X+B+E+A,.succ ?_,fun L i a R hx hL h=>?_⟩
 ·simp only[Yp,AB]
  refine x3 _ _ _ _ _ _ _ _ _ _ _ _ _ _ (1:Int) _ (.succ ?_)
  simp only[Eo,Int.lt_irrefl,if_false]
  refine .succ ?_
  simp only[Je,Bool.false_eq_true,if_false]
  refine Ev.bO15 (A:=fun n=>gG n z1 s2 s3 l4 z5 s6 l7 z8 s9 l10 l11 l12 l13 l14 z15) (.of fun n=>rfl) ?_
  exact Ev.bO16 (h138 _) .ret
 ·have hi:i<L.length:=(List.getElem?_eq_some_iff.1 hx).1
  refine .succ ?_
  simp only[LS,AB,if_pos (CT hi)]
  refine .succ ?_
  simp only[Tb,if_true,AE,AG hx,Af]
  refine Ev.bO1 x2 (Ev.bO1 b5 (Ev.bO1 e5 ?_))
  simp only[HZ,Ex]
  refine a2 L i _ _ hx (.succ ?_)
  simp only[Nk,AG hx,Af,AB,Int.lt_irrefl,if_false]
  refine .succ ?_
  simp only[Tc,Bool.false_eq_true,if_false,AE,AF hi hL]
  rwa [show a+1+X+B+E+A=a+(1+X+B+E+A)by omega]
theorem mD (l:List D):AK Ap 50 l→sR l:=by
 refine Bt (P:=fun l=>AK Ap 50 l→sR l) (fun l ih h=>?_) l
 intro x hm
 obtain⟨a0,a1,a2,a3,a4,a5,a6,a7,a8,a9,a10,a11,a12,a13,a14,rfl,w0,w1,w2,w3,w4,w5,w6,w7,w8,w9,w10,w11,w12,w13,w14⟩:=N9 (h.2 x hm)
 exact fI (z1:=a0) (s2:=a1) (s3:=a2) (l4:=a3) (z5:=a4) (s6:=a5) (l7:=a6) (z8:=a7) (s9:=a8) (l10:=a9) (l11:=a10) (l12:=a11) (l13:=a12) (l14:=a13) (z15:=a14) w10 w11 (ih a11 (Au (ag:=true) (sz:=15) hm (by simp)) w11) w12 (ih a12 (Au (ag:=true) (sz:=15) hm (by simp)) w12) w13
  (fun s1 s2 m hm2=>ih m (Nat.lt_trans (Au (ag:=true) (sz:=15) hm2 (by simp)) (Au (ag:=true) (sz:=3) hm (by simp))) (by obtain⟨b0,b1,b2,e,_,_,w⟩:=NN (w13.2 _ hm2);cases e;exact w))
theorem Zx {l:List D}(h:AK Ap 45 l):∃v,Ev (fun n=>mY n l) v∧Ev (fun n=>nC n l) v:=by
 have loop:∀i:Nat,i≤l.length→∃S:Int,(∀a:Int,Ev (fun n=>LL n l (l.length:Int) (W a) (i:Int)) (W (a+S)))∧∀a:Int,Ev (fun n=>Nl n l (W a) (i:Int)) (W (a+S)):=by
  refine down l.length ⟨0,fun a=>?_,fun a=>?_⟩ ?_
  ·rw[Yb]
   refine .succ ?_
   simp only[LL,Int.lt_irrefl,if_false]
   exact .succ (by simp only[PK,Bool.false_eq_true,if_false];exact .ret)
  ·rw[Yb]
   refine .succ ?_
   simp only[Nl,AB,Int.lt_irrefl,if_false]
   exact .succ (by simp only[Ph,Bool.false_eq_true,if_false];exact .ret)
  ·rintro i hi ⟨S,h1,h2⟩
   obtain⟨x,hx,hm,hr⟩:=h.get hi
   obtain⟨a0,a1,a2,a3,a4,a5,a6,a7,a8,a9,a10,a11,a12,a13,a14,a15,rfl,w0,w1,w2,w3,w4,w5,w6,w7,w8,w9,w10,w11,w12,w13,w14,w15⟩:=Un hr
   obtain⟨B,_,_,b3,b4⟩:=L9 w6 (mD a6 w6) 0 (Nat.zero_le _)
   have b5:Ev (fun n=>Wq n a6) (W B):=.succ (by simp only[Wq];have:=b4 0;rwa [Int.zero_add]at this)
   obtain⟨k,k1,k2,_⟩:=bU a13 w13
   have k3:Ev (fun n=>Zv n [.agg [.int .u8 a7,.int .i64 a8,.str a9,.str a10,.str a11,.list false 1 a12,.list true 8 a13,.int .i64 a14]]) (W (1+k)):=by
    refine .succ ?_
    simp only[Zv]
    refine .succ ?_
    simp only[LR,AB,List.length_singleton,show (0:Int)<((1:Nat):Int)by decide,if_true]
    refine .succ ?_
    simp only[Nj,if_true,AE,Kc,Ao]
    refine Ev.bO1 k2 ?_
    refine .succ ?_
    simp only[show IntKind.wrap .i64 ((0:Int)+1)=1 from rfl,LR,AB,List.length_singleton,show ¬(1:Int)<((1:Nat):Int)by decide,if_false]
    refine .succ ?_
    simp only[Nj,Bool.false_eq_true,if_false]
    simp only[Ex]
    exact .ret
   by_cases c:a0=3
   ·refine⟨1+(1+k)+B+S,fun a=>?_,fun a=>?_⟩
    ·refine .succ ?_
     simp only[LL,if_pos (CT hi)]
     refine .succ ?_
     simp only[PK,if_true,AG hx,Bd,AE,if_pos c]
     refine .succ ?_
     simp only[S0,if_true]
     refine Ev.bO1 (k1 _ _ _ _ _ _ _) ?_
     simp only[AE,HZ,Ex]
     refine .succ ?_
     simp only[S1,AB]
     refine b3 _ _ _ _ _ ?_
     rw[AF hi h.1,show a+(1+(1+k)+B+S)=a+1+(1+k)+B+S by omega]
     exact h1 _
    ·refine .succ ?_
     simp only[Nl,AB,if_pos (CT hi)]
     refine .succ ?_
     simp only[Ph,if_true,AG hx,Bd,AE]
     refine Ev.bO1 b5 ?_
     simp only[if_pos c]
     refine .succ ?_
     simp only[Td,if_true,AG hx,Bd]
     refine Ev.bO1 k3 ?_
     simp only[AE,HZ,Ex]
     refine .succ ?_
     simp only[Te,AE,AF hi h.1]
     rw[show a+(1+(1+k)+B+S)=a+1+B+(1+k)+S by omega]
     exact h2 _
   ·refine⟨1+B+S,fun a=>?_,fun a=>?_⟩
    ·refine .succ ?_
     simp only[LL,if_pos (CT hi)]
     refine .succ ?_
     simp only[PK,if_true,AG hx,Bd,AE,if_neg c]
     refine .succ ?_
     simp only[S0,Bool.false_eq_true,if_false,HZ]
     refine .succ ?_
     simp only[S1,AB]
     refine b3 _ _ _ _ _ ?_
     rw[AF hi h.1,show a+(1+B+S)=a+1+B+S by omega]
     exact h1 _
    ·refine .succ ?_
     simp only[Nl,AB,if_pos (CT hi)]
     refine .succ ?_
     simp only[Ph,if_true,AG hx,Bd,AE]
     refine Ev.bO1 b5 ?_
     simp only[if_neg c,HZ,Ex]
     refine .succ ?_
     simp only[Td,Bool.false_eq_true,if_false]
     refine .succ ?_
     simp only[Te,AE,AF hi h.1]
     rw[show a+(1+B+S)=a+1+B+S by omega]
     exact h2 _
 obtain⟨S,h1,h2⟩:=loop 0 (Nat.zero_le _)
 exact⟨_,by unfold mY;exact h1 0,by unfold nC;exact h2 0⟩
end Go.Proofs.YtjmofeakajdbiaaGreatDoor
end
set_option linter.unusedVariables false
noncomputable section
namespace Go.Proofs.YtjmofeakajdbiaaGreatDoor
open Go Go.AM
mutual
def Pj:Nat->LD->LD->Bool->Option (Bool)
 | 0,_,_,_=>none
 | n+1,l3,l6,b9=>
  (if b9=true then some false else Pk n l3 l6 (0:Int))
def Pk:Nat->LD->LD->Int->Option (Bool)
 | 0,_,_,_=>none
 | n+1,l3,l6,z10=>
  AB l3 fun z11=>(if z10<z11 then Tf n l3 l6 z10 true else Tf n l3 l6 z10 false)
def Tf:Nat->LD->LD->Int->Bool->Option (Bool)
 | 0,_,_,_,_=>none
 | n+1,l3,l6,z10,b12=>
  (if b12=true then Ae l3 z10 fun x13=>CM x13 fun z14 s15 l16=>Ae l6 z10 fun x17=>CM x17 fun z18 s19 l20=>bO1 (Zy n z14 s15 l16 z18 s19 l20) fun b21=>AI (!b21) fun b22=>(if b22=true then some false else AE (IntKind.wrap .i64 (z10+1)) fun z23=>Pk n l3 l6 z23)else some true)
def Zy:Nat->Int->BA->LD->Int->BA->LD->Option (Bool)
 | 0,_,_,_,_,_,_=>none
 | n+1,z1,s2,l3,z4,s5,l6=>
  (if z1=z4 then (if s2=s5 then AB l3 fun z7=>AB l6 fun z8=>(if z7=z8 then Pj n l3 l6 false else Pj n l3 l6 true)else Pj n l3 l6 true)else Pj n l3 l6 true)
end
noncomputable def tW:BS:=⟨49,Tryz.f49,[.agg [.y,.str,.q 3],.agg [.y,.str,.q 3]],[],⟨.one (.b),[],[]⟩,Bool,inferInstance,Zy,[⟨13,[2,3,4,26],[.loc 0,.loc 32],768,[.p (.loc 0) 0,.p (.loc 32) 0,.one (.cb false),.b],[[.y,.str,.q 3],[.y,.str,.q 3]],fun n b9 _ _ l3 _ _ l6=>Pj n l3 l6 b9⟩,
 ⟨58,[2,3,4,5],[.loc 0,.loc 32],800,[.p (.loc 0) 0,.p (.loc 32) 0,.one (.cb false),.z],[[.y,.str,.q 3],[.y,.str,.q 3]],fun n z10 _ _ l3 _ _ l6=>Pk n l3 l6 z10⟩,
 ⟨465,[2,3,4,5,31],[.loc 0,.loc 32],960,[.p (.loc 0) 0,.p (.loc 32) 0,.one (.cb false),.z,.b],[[.y,.str,.q 3],[.y,.str,.q 3]],fun n z10 b12 _ _ l3 _ _ l6=>Tf n l3 l6 z10 b12⟩]⟩
theorem yS:CF Tryz.prog inv (KU [tW]):=gr [] ⟨⟨Tryz.func49,by kernel_rfl,by kernel_rfl,by kernel_rfl⟩,trivial⟩
noncomputable def rC:Kz:=⟨tW.c,yS.1⟩
mutual
def Pl:Nat->LD->LD->Int->Option (Bool)
 | 0,_,_,_=>none
 | n+1,l1,l2,z6=>
  AB l1 fun z7=>(if z6<z7 then Tg n l1 l2 z6 true else Tg n l1 l2 z6 false)
def Tg:Nat->LD->LD->Int->Bool->Option (Bool)
 | 0,_,_,_,_=>none
 | n+1,l1,l2,z6,b8=>
  (if b8=true then Ae l1 z6 fun x9=>Bl x9 fun s10 z11 s12 l13=>Ae l2 z6 fun x14=>Bl x14 fun s15 z16 s17 l18=>(if s10=s15 then Ae l1 z6 fun x19=>Bl x19 fun s20 z21 s22 l23=>Ae l2 z6 fun x24=>Bl x24 fun s25 z26 s27 l28=>bO1 (Zy n z21 s22 l23 z26 s27 l28) fun b29=>AI (!b29) fun b30=>Vt n l1 l2 z6 b30 else Vt n l1 l2 z6 true)else some true)
def Vt:Nat->LD->LD->Int->Bool->Option (Bool)
 | 0,_,_,_,_=>none
 | n+1,l1,l2,z6,b31=>
  (if b31=true then some false else AE (IntKind.wrap .i64 (z6+1)) fun z32=>Pl n l1 l2 z32)
end
def Vu:Nat->LD->LD->Bool->Option (Bool)
 | 0,_,_,_=>none
 | n+1,l1,l2,b5=>
  (if b5=true then some false else Pl n l1 l2 (0:Int))
def mE (n:Nat) (l1:LD) (l2:LD):Option (Bool):=
 AB l1 fun z3=>AB l2 fun z4=>(if z3=z4 then Vu n l1 l2 false else Vu n l1 l2 true)
noncomputable def yT:BS:=⟨48,Tryz.f48,[.q 4,.q 4],[],⟨.one (.b),[],[]⟩,Bool,inferInstance,mE,[⟨13,[0,1,4,10],[],192,[.q 4,.q 4,.one (.cb false),.b],[],fun n l1 l2 b5=>Vu n l1 l2 b5⟩,
 ⟨58,[0,1,4,5],[],224,[.q 4,.q 4,.one (.cb false),.z],[],fun n l1 l2 z6=>Pl n l1 l2 z6⟩,
 ⟨465,[0,1,4,5,14],[],352,[.q 4,.q 4,.one (.cb false),.z,.b],[],fun n l1 l2 z6 b8=>Tg n l1 l2 z6 b8⟩,
 ⟨1865,[0,1,4,5,41],[],1152,[.q 4,.q 4,.one (.cb false),.z,.b],[],fun n l1 l2 z6 b31=>Vt n l1 l2 z6 b31⟩]⟩
noncomputable def yU:Kz:=sg yT [rC] Tryz.func48 (by kernel_rfl) (by kernel_rfl) (by kernel_rfl)
mutual
def Pm:Nat->LD->LD->Int->Option (Bool)
 | 0,_,_,_=>none
 | n+1,l1,l2,z6=>
  AB l1 fun z7=>(if z6<z7 then Th n l1 l2 z6 true else Th n l1 l2 z6 false)
def Th:Nat->LD->LD->Int->Bool->Option (Bool)
 | 0,_,_,_,_=>none
 | n+1,l1,l2,z6,b8=>
  (if b8=true then Ae l1 z6 fun x9=>Bc x9 fun s10=>Ae l2 z6 fun x11=>Bc x11 fun s12=>(if s10=s12 then Vv n l1 l2 z6 false else Vv n l1 l2 z6 true)else some true)
def Vv:Nat->LD->LD->Int->Bool->Option (Bool)
 | 0,_,_,_,_=>none
 | n+1,l1,l2,z6,b13=>
  (if b13=true then some false else AE (IntKind.wrap .i64 (z6+1)) fun z14=>Pm n l1 l2 z14)
end
def Vw:Nat->LD->LD->Bool->Option (Bool)
 | 0,_,_,_=>none
 | n+1,l1,l2,b5=>
  (if b5=true then some false else Pm n l1 l2 (0:Int))
def mF (n:Nat) (l1:LD) (l2:LD):Option (Bool):=
 AB l1 fun z3=>AB l2 fun z4=>(if z3=z4 then Vw n l1 l2 false else Vw n l1 l2 true)
noncomputable def yV:BS:=⟨90,Tryz.f90,[.f 1,.f 1],[],⟨.one (.b),[],[]⟩,Bool,inferInstance,mF,[⟨13,[0,1,4,10],[],192,[.f 1,.f 1,.one (.cb false),.b],[],fun n l1 l2 b5=>Vw n l1 l2 b5⟩,
 ⟨58,[0,1,4,5],[],224,[.f 1,.f 1,.one (.cb false),.z],[],fun n l1 l2 z6=>Pm n l1 l2 z6⟩,
 ⟨465,[0,1,4,5,14],[],352,[.f 1,.f 1,.one (.cb false),.z,.b],[],fun n l1 l2 z6 b8=>Th n l1 l2 z6 b8⟩,
 ⟨1865,[0,1,4,5,25],[],640,[.f 1,.f 1,.one (.cb false),.z,.b],[],fun n l1 l2 z6 b13=>Vv n l1 l2 z6 b13⟩]⟩
noncomputable def tX:Kz:=sg yV [] Tryz.func90 (by kernel_rfl) (by kernel_rfl) (by kernel_rfl)
def gP (n:Nat) (s1:BA) (l2:LD) (s3:BA) (l4:LD):Option (Bool):=
 (if s1=s3 then bO1 (mF n l2 l4) fun b5=>some b5 else some false)
noncomputable def yW:BS:=⟨91,Tryz.f91,[.agg [.str,.f 1],.agg [.str,.f 1]],[],⟨.one (.b),[],[]⟩,Bool,inferInstance,gP,[]⟩
noncomputable def tZ:Kz:=sg yW [tX] Tryz.func91 (by kernel_rfl) (by kernel_rfl) (by kernel_rfl)
mutual
def gQ:Nat->Int->Int->BA->BA->BA->LD->LD->Int->Int->Int->BA->BA->BA->LD->LD->Int->Bool->Option (Bool)
 | 0,_,_,_,_,_,_,_,_,_,_,_,_,_,_,_,_,_=>none
 | n+1,z1,z2,s3,s4,s5,l6,l7,z8,z9,z10,s11,s12,s13,l14,l15,z16,b17=>
  (if z1=z9 then (if z2=z10 then (if s3=s11 then (if s4=s12 then AI (!b17) fun b18=>(if b18=true then bO1 (gP n s5 l6 s13 l14) fun b19=>(if b19=true then bO1 (bV n l7 l15 b17) fun b20=>some b20 else some false)else (if z8=z16 then bO1 (gP n s5 l6 s13 l14) fun b21=>(if b21=true then bO1 (bV n l7 l15 b17) fun b22=>some b22 else some false)else some false))else some false)else some false)else some false)else some false)
def Vx:Nat->LD->LD->Bool->Bool->Option (Bool)
 | 0,_,_,_,_=>none
 | n+1,l1,l2,b3,b6=>
  (if b6=true then some false else Pn n l1 l2 b3 (0:Int))
def Pn:Nat->LD->LD->Bool->Int->Option (Bool)
 | 0,_,_,_,_=>none
 | n+1,l1,l2,b3,z7=>
  AB l1 fun z8=>(if z7<z8 then Ti n l1 l2 b3 z7 true else Ti n l1 l2 b3 z7 false)
def Ti:Nat->LD->LD->Bool->Int->Bool->Option (Bool)
 | 0,_,_,_,_,_=>none
 | n+1,l1,l2,b3,z7,b9=>
  (if b9=true then Ae l1 z7 fun x10=>Ao x10 fun z11 z12 s13 s14 s15 l16 l17 z18=>Ae l2 z7 fun x19=>Ao x19 fun z20 z21 s22 s23 s24 l25 l26 z27=>bO1 (gQ n z11 z12 s13 s14 s15 l16 l17 z18 z20 z21 s22 s23 s24 l25 l26 z27 b3) fun b28=>AI (!b28) fun b29=>(if b29=true then some false else AE (IntKind.wrap .i64 (z7+1)) fun z30=>Pn n l1 l2 b3 z30)else some true)
def bV:Nat->LD->LD->Bool->Option (Bool)
 | 0,_,_,_=>none
 | n+1,l1,l2,b3=>
  AB l1 fun z4=>AB l2 fun z5=>(if z4=z5 then Vx n l1 l2 b3 false else Vx n l1 l2 b3 true)
end
noncomputable def uA:BS:=⟨51,Tryz.f51,[.agg [.y,.z,.str,.str,.str,.f 1,.q 8,.z],.agg [.y,.z,.str,.str,.str,.f 1,.q 8,.z],.b],[],⟨.one (.b),[],[]⟩,Bool,inferInstance,gQ,[]⟩
noncomputable def uB:BS:=⟨92,Tryz.f92,[.q 8,.q 8,.b],[],⟨.one (.b),[],[]⟩,Bool,inferInstance,bV,[⟨13,[0,1,2,6,12],[],192,[.q 8,.q 8,.b,.one (.cb false),.b],[],fun n l1 l2 b3 b6=>Vx n l1 l2 b3 b6⟩,
 ⟨58,[0,1,2,6,7],[],224,[.q 8,.q 8,.b,.one (.cb false),.z],[],fun n l1 l2 b3 z7=>Pn n l1 l2 b3 z7⟩,
 ⟨465,[0,1,2,6,7,16],[],352,[.q 8,.q 8,.b,.one (.cb false),.z,.b],[],fun n l1 l2 b3 z7 b9=>Ti n l1 l2 b3 z7 b9⟩]⟩
theorem uC:CF Tryz.prog inv (KU [uA,uB]):=gr [tZ] ⟨⟨Tryz.func51,by kernel_rfl,by kernel_rfl,by kernel_rfl⟩,⟨Tryz.func92,by kernel_rfl,by kernel_rfl,by kernel_rfl⟩,trivial⟩
noncomputable def yX:Kz:=⟨uA.c,uC.1⟩
noncomputable def yZ:Kz:=⟨uB.c,uC.2.1⟩
mutual
def Vy:Nat->LD->LD->Bool->Bool->Option (Bool)
 | 0,_,_,_,_=>none
 | n+1,l1,l2,b3,b6=>
  (if b6=true then some false else Po n l1 l2 b3 (0:Int))
def Po:Nat->LD->LD->Bool->Int->Option (Bool)
 | 0,_,_,_,_=>none
 | n+1,l1,l2,b3,z7=>
  AB l1 fun z8=>(if z7<z8 then Tj n l1 l2 b3 z7 true else Tj n l1 l2 b3 z7 false)
def Tj:Nat->LD->LD->Bool->Int->Bool->Option (Bool)
 | 0,_,_,_,_,_=>none
 | n+1,l1,l2,b3,z7,b9=>
  (if b9=true then Ae l1 z7 fun x10=>Af x10 fun z11 s12 s13 l14 z15 s16 l17 z18 s19 l20 l21 l22 l23 l24 z25=>Ae l2 z7 fun x26=>Af x26 fun z27 s28 s29 l30 z31 s32 l33 z34 s35 l36 l37 l38 l39 l40 z41=>(if z11=z27 then (if s12=s28 then (if s13=s29 then (if z18=z34 then (if b3=true then (if z25=z41 then AB l24 fun z42=>AB l40 fun z43=>(if z42=z43 then Ha n l1 l2 b3 z7 l14 z15 s16 l17 s19 l20 l21 l22 l23 l24 l30 z31 s32 l33 s35 l36 l37 l38 l39 l40 false else Ha n l1 l2 b3 z7 l14 z15 s16 l17 s19 l20 l21 l22 l23 l24 l30 z31 s32 l33 s35 l36 l37 l38 l39 l40 true)else Ha n l1 l2 b3 z7 l14 z15 s16 l17 s19 l20 l21 l22 l23 l24 l30 z31 s32 l33 s35 l36 l37 l38 l39 l40 true)else AB l24 fun z44=>AB l40 fun z45=>(if z44=z45 then Ha n l1 l2 b3 z7 l14 z15 s16 l17 s19 l20 l21 l22 l23 l24 l30 z31 s32 l33 s35 l36 l37 l38 l39 l40 false else Ha n l1 l2 b3 z7 l14 z15 s16 l17 s19 l20 l21 l22 l23 l24 l30 z31 s32 l33 s35 l36 l37 l38 l39 l40 true))else Ha n l1 l2 b3 z7 l14 z15 s16 l17 s19 l20 l21 l22 l23 l24 l30 z31 s32 l33 s35 l36 l37 l38 l39 l40 true)else Ha n l1 l2 b3 z7 l14 z15 s16 l17 s19 l20 l21 l22 l23 l24 l30 z31 s32 l33 s35 l36 l37 l38 l39 l40 true)else Ha n l1 l2 b3 z7 l14 z15 s16 l17 s19 l20 l21 l22 l23 l24 l30 z31 s32 l33 s35 l36 l37 l38 l39 l40 true)else Ha n l1 l2 b3 z7 l14 z15 s16 l17 s19 l20 l21 l22 l23 l24 l30 z31 s32 l33 s35 l36 l37 l38 l39 l40 true)else some true)
def Ha:Nat->LD->LD->Bool->Int->LD->Int->BA->LD->BA->LD->LD->LD->LD->LD->LD->Int->BA->LD->BA->LD->LD->LD->LD->LD->Bool->Option (Bool)
 | 0,_,_,_,_,_,_,_,_,_,_,_,_,_,_,_,_,_,_,_,_,_,_,_,_,_=>none
 | n+1,l1,l2,b3,z7,l14,z15,s16,l17,s19,l20,l21,l22,l23,l24,l30,z31,s32,l33,s35,l36,l37,l38,l39,l40,b46=>
  (if b46=true then some false else bO1 (mF n l14 l30) fun b47=>AI (!b47) fun b48=>(if b48=true then LU n l1 l2 b3 z7 l24 l40 true else bO1 (Zy n z15 s16 l17 z31 s32 l33) fun b49=>AI (!b49) fun b50=>(if b50=true then LU n l1 l2 b3 z7 l24 l40 true else bO1 (gP n s19 l20 s35 l36) fun b51=>AI (!b51) fun b52=>(if b52=true then LU n l1 l2 b3 z7 l24 l40 true else bO1 (bV n l21 l37 b3) fun b53=>AI (!b53) fun b54=>(if b54=true then LU n l1 l2 b3 z7 l24 l40 true else bO1 (Zz n l22 l38 b3) fun b55=>AI (!b55) fun b56=>(if b56=true then LU n l1 l2 b3 z7 l24 l40 true else bO1 (Zz n l23 l39 b3) fun b57=>AI (!b57) fun b58=>LU n l1 l2 b3 z7 l24 l40 b58))))))
def LU:Nat->LD->LD->Bool->Int->LD->LD->Bool->Option (Bool)
 | 0,_,_,_,_,_,_,_=>none
 | n+1,l1,l2,b3,z7,l24,l40,b59=>
  (if b59=true then some false else Pp n l1 l2 b3 z7 l24 l40 (0:Int))
def Pp:Nat->LD->LD->Bool->Int->LD->LD->Int->Option (Bool)
 | 0,_,_,_,_,_,_,_=>none
 | n+1,l1,l2,b3,z7,l24,l40,z60=>
  AB l24 fun z61=>(if z60<z61 then Tk n l1 l2 b3 z7 l24 l40 z60 true else Tk n l1 l2 b3 z7 l24 l40 z60 false)
def Tk:Nat->LD->LD->Bool->Int->LD->LD->Int->Bool->Option (Bool)
 | 0,_,_,_,_,_,_,_,_=>none
 | n+1,l1,l2,b3,z7,l24,l40,z60,b62=>
  (if b62=true then Ae l24 z60 fun x63=>Be x63 fun s64 s65 l66=>Ae l40 z60 fun x67=>Be x67 fun s68 s69 l70=>(if s64=s68 then Ae l24 z60 fun x71=>Be x71 fun s72 s73 l74=>Ae l40 z60 fun x75=>Be x75 fun s76 s77 l78=>(if s73=s77 then Ae l24 z60 fun x79=>Be x79 fun s80 s81 l82=>Ae l40 z60 fun x83=>Be x83 fun s84 s85 l86=>bO1 (Zz n l82 l86 b3) fun b87=>AI (!b87) fun b88=>Tl n l1 l2 b3 z7 l24 l40 z60 b88 else Tl n l1 l2 b3 z7 l24 l40 z60 true)else Tl n l1 l2 b3 z7 l24 l40 z60 true)else AE (IntKind.wrap .i64 (z7+1)) fun z91=>Po n l1 l2 b3 z91)
def Tl:Nat->LD->LD->Bool->Int->LD->LD->Int->Bool->Option (Bool)
 | 0,_,_,_,_,_,_,_,_=>none
 | n+1,l1,l2,b3,z7,l24,l40,z60,b89=>
  (if b89=true then some false else AE (IntKind.wrap .i64 (z60+1)) fun z90=>Pp n l1 l2 b3 z7 l24 l40 z90)
def Zz:Nat->LD->LD->Bool->Option (Bool)
 | 0,_,_,_=>none
 | n+1,l1,l2,b3=>
  AB l1 fun z4=>AB l2 fun z5=>(if z4=z5 then Vy n l1 l2 b3 false else Vy n l1 l2 b3 true)
end
noncomputable def uD:BS:=⟨50,Tryz.f50,[.q 15,.q 15,.b],[],⟨.one (.b),[],[]⟩,Bool,inferInstance,Zz,[⟨13,[0,1,2,6,15],[],192,[.q 15,.q 15,.b,.one (.cb false),.b],[],fun n l1 l2 b3 b6=>Vy n l1 l2 b3 b6⟩,
 ⟨58,[0,1,2,6,7],[],224,[.q 15,.q 15,.b,.one (.cb false),.z],[],fun n l1 l2 b3 z7=>Po n l1 l2 b3 z7⟩,
 ⟨465,[0,1,2,6,7,19],[],352,[.q 15,.q 15,.b,.one (.cb false),.z,.b],[],fun n l1 l2 b3 z7 b9=>Tj n l1 l2 b3 z7 b9⟩,
 ⟨7461,[0,1,2,6,7,8,9,74],[.loc 608,.loc 640],2176,[.q 15,.q 15,.b,.one (.cb false),.z,.p (.loc 608) 0,.p (.loc 640) 0,.b],[[.y,.str,.str,.f 1,.y,.str,.q 3,.z,.str,.f 1,.q 8,.q 15,.q 15,.q 3,.z],[.y,.str,.str,.f 1,.y,.str,.q 3,.z,.str,.f 1,.q 8,.q 15,.q 15,.q 3,.z]],fun n l1 l2 b3 z7 b46 _ _ _ l14 z15 s16 l17 _ s19 l20 l21 l22 l23 l24 _ _ _ _ l30 z31 s32 l33 _ s35 l36 l37 l38 l39 l40 _=>Ha n l1 l2 b3 z7 l14 z15 s16 l17 s19 l20 l21 l22 l23 l24 l30 z31 s32 l33 s35 l36 l37 l38 l39 l40 b46⟩,
 ⟨14925,[0,1,2,6,7,8,9,123],[.loc 608,.loc 640],3744,[.q 15,.q 15,.b,.one (.cb false),.z,.p (.loc 608) 0,.p (.loc 640) 0,.b],[[.y,.str,.str,.f 1,.y,.str,.q 3,.z,.str,.f 1,.q 8,.q 15,.q 15,.q 3,.z],[.y,.str,.str,.f 1,.y,.str,.q 3,.z,.str,.f 1,.q 8,.q 15,.q 15,.q 3,.z]],fun n l1 l2 b3 z7 b59 _ _ _ _ _ _ _ _ _ _ _ _ _ l24 _ _ _ _ _ _ _ _ _ _ _ _ _ _ l40 _=>LU n l1 l2 b3 z7 l24 l40 b59⟩,
 ⟨29854,[0,1,2,6,7,8,9,10],[.loc 608,.loc 640],3776,[.q 15,.q 15,.b,.one (.cb false),.z,.p (.loc 608) 0,.p (.loc 640) 0,.z],[[.y,.str,.str,.f 1,.y,.str,.q 3,.z,.str,.f 1,.q 8,.q 15,.q 15,.q 3,.z],[.y,.str,.str,.f 1,.y,.str,.q 3,.z,.str,.f 1,.q 8,.q 15,.q 15,.q 3,.z]],fun n l1 l2 b3 z7 z60 _ _ _ _ _ _ _ _ _ _ _ _ _ l24 _ _ _ _ _ _ _ _ _ _ _ _ _ _ l40 _=>Pp n l1 l2 b3 z7 l24 l40 z60⟩,
 ⟨238833,[0,1,2,6,7,8,9,10,128],[.loc 608,.loc 640],3936,[.q 15,.q 15,.b,.one (.cb false),.z,.p (.loc 608) 0,.p (.loc 640) 0,.z,.b],[[.y,.str,.str,.f 1,.y,.str,.q 3,.z,.str,.f 1,.q 8,.q 15,.q 15,.q 3,.z],[.y,.str,.str,.f 1,.y,.str,.q 3,.z,.str,.f 1,.q 8,.q 15,.q 15,.q 3,.z]],fun n l1 l2 b3 z7 z60 b62 _ _ _ _ _ _ _ _ _ _ _ _ _ l24 _ _ _ _ _ _ _ _ _ _ _ _ _ _ l40 _=>Tk n l1 l2 b3 z7 l24 l40 z60 b62⟩,
 ⟨955337,[0,1,2,6,7,8,9,10,175],[.loc 608,.loc 640],5376,[.q 15,.q 15,.b,.one (.cb false),.z,.p (.loc 608) 0,.p (.loc 640) 0,.z,.b],[[.y,.str,.str,.f 1,.y,.str,.q 3,.z,.str,.f 1,.q 8,.q 15,.q 15,.q 3,.z],[.y,.str,.str,.f 1,.y,.str,.q 3,.z,.str,.f 1,.q 8,.q 15,.q 15,.q 3,.z]],fun n l1 l2 b3 z7 z60 b89 _ _ _ _ _ _ _ _ _ _ _ _ _ l24 _ _ _ _ _ _ _ _ _ _ _ _ _ _ l40 _=>Tl n l1 l2 b3 z7 l24 l40 z60 b89⟩]⟩
theorem zA:CF Tryz.prog inv (KU [uD]):=gr [rC,tX,tZ,yZ] ⟨⟨Tryz.func50,by kernel_rfl,by kernel_rfl,by kernel_rfl⟩,trivial⟩
noncomputable def zB:Kz:=⟨uD.c,zA.1⟩
mutual
def Pq:Nat->LD->LD->Bool->Int->Option (Bool)
 | 0,_,_,_,_=>none
 | n+1,l1,l2,b3,z7=>
  AB l1 fun z8=>(if z7<z8 then Tm n l1 l2 b3 z7 true else Tm n l1 l2 b3 z7 false)
def Tm:Nat->LD->LD->Bool->Int->Bool->Option (Bool)
 | 0,_,_,_,_,_=>none
 | n+1,l1,l2,b3,z7,b9=>
  (if b9=true then Ae l1 z7 fun x10=>Bd x10 fun z11 s12 l13 z14 s15 l16 l17 z18 z19 s20 s21 s22 l23 l24 z25 z26=>Ae l2 z7 fun x27=>Bd x27 fun z28 s29 l30 z31 s32 l33 l34 z35 z36 s37 s38 s39 l40 l41 z42 z43=>(if z11=z28 then (if s12=s29 then (if b3=true then (if z26=z43 then bO1 (mE n l13 l30) fun b44=>AI (!b44) fun b45=>(if b45=true then F4 n l1 l2 b3 z7 true else bO1 (Zy n z14 s15 l16 z31 s32 l33) fun b46=>AI (!b46) fun b47=>(if b47=true then F4 n l1 l2 b3 z7 true else bO1 (Zz n l17 l34 b3) fun b48=>AI (!b48) fun b49=>(if b49=true then F4 n l1 l2 b3 z7 true else bO1 (gQ n z18 z19 s20 s21 s22 l23 l24 z25 z35 z36 s37 s38 s39 l40 l41 z42 b3) fun b50=>AI (!b50) fun b51=>F4 n l1 l2 b3 z7 b51)))else F4 n l1 l2 b3 z7 true)else bO1 (mE n l13 l30) fun b52=>AI (!b52) fun b53=>(if b53=true then F4 n l1 l2 b3 z7 true else bO1 (Zy n z14 s15 l16 z31 s32 l33) fun b54=>AI (!b54) fun b55=>(if b55=true then F4 n l1 l2 b3 z7 true else bO1 (Zz n l17 l34 b3) fun b56=>AI (!b56) fun b57=>(if b57=true then F4 n l1 l2 b3 z7 true else bO1 (gQ n z18 z19 s20 s21 s22 l23 l24 z25 z35 z36 s37 s38 s39 l40 l41 z42 b3) fun b58=>AI (!b58) fun b59=>F4 n l1 l2 b3 z7 b59))))else F4 n l1 l2 b3 z7 true)else F4 n l1 l2 b3 z7 true)else some true)
def F4:Nat->LD->LD->Bool->Int->Bool->Option (Bool)
 | 0,_,_,_,_,_=>none
 | n+1,l1,l2,b3,z7,b60=>
  (if b60=true then some false else AE (IntKind.wrap .i64 (z7+1)) fun z61=>Pq n l1 l2 b3 z61)
end
def Vz:Nat->LD->LD->Bool->Bool->Option (Bool)
 | 0,_,_,_,_=>none
 | n+1,l1,l2,b3,b6=>
  (if b6=true then some false else Pq n l1 l2 b3 (0:Int))
def nD (n:Nat) (l1:LD) (l2:LD) (b3:Bool):Option (Bool):=
 AB l1 fun z4=>AB l2 fun z5=>(if z4=z5 then Vz n l1 l2 b3 false else Vz n l1 l2 b3 true)
noncomputable def zC:BS:=⟨16,Tryz.f16,[.agg [.q 16],.agg [.q 16],.b],[],⟨.one (.b),[],[]⟩,Bool,inferInstance,nD,[⟨13,[2,3,4,6,16],[.loc 0,.loc 32],320,[.b,.p (.loc 0) 0,.p (.loc 32) 0,.one (.cb false),.b],[[.q 16],[.q 16]],fun n b3 b6 l1 l2=>Vz n l1 l2 b3 b6⟩,
 ⟨58,[2,3,4,6,7],[.loc 0,.loc 32],352,[.b,.p (.loc 0) 0,.p (.loc 32) 0,.one (.cb false),.z],[[.q 16],[.q 16]],fun n b3 z7 l1 l2=>Pq n l1 l2 b3 z7⟩,
 ⟨465,[2,3,4,6,7,21],[.loc 0,.loc 32],512,[.b,.p (.loc 0) 0,.p (.loc 32) 0,.one (.cb false),.z,.b],[[.q 16],[.q 16]],fun n b3 z7 b9 l1 l2=>Tm n l1 l2 b3 z7 b9⟩,
 ⟨3731,[2,3,4,6,7,89],[.loc 0,.loc 32],2752,[.b,.p (.loc 0) 0,.p (.loc 32) 0,.one (.cb false),.z,.b],[[.q 16],[.q 16]],fun n b3 z7 b60 l1 l2=>F4 n l1 l2 b3 z7 b60⟩]⟩
noncomputable def zD:Kz:=sg zC [yU,rC,zB,yX] Tryz.func16 (by kernel_rfl) (by kernel_rfl) (by kernel_rfl)
end Go.Proofs.YtjmofeakajdbiaaGreatDoor
end
set_option linter.unusedVariables false
noncomputable section
namespace Go.Proofs.YtjmofeakajdbiaaGreatDoor
open Go Go.AM
theorem Nn {l:List D}(h:AK Ap 9 l):Ev (fun n=>mF n l l) true:=by
 have loop:∀i:Nat,i≤l.length→Ev (fun n=>Pm n l l (i:Int)) true:=by
  refine down l.length ?_ ?_
  ·refine .succ ?_
   simp only[Pm,AB,Int.lt_irrefl,if_false]
   exact .succ (by simp only[Th,Bool.false_eq_true,if_false];exact .ret)
  ·intro i hi ih
   obtain⟨x,hx,hm,hr⟩:=h.get hi
   obtain⟨a,rfl,_⟩:=Yq hr
   refine .succ ?_
   simp only[Pm,AB,if_pos (CT hi)]
   refine .succ ?_
   simp only[Th,if_true,AG hx,Bc]
   refine .succ ?_
   simp only[Vv,Bool.false_eq_true,if_false,AE,AF hi h.1]
   exact ih
 unfold mF
 simp only[AB,if_true]
 exact .succ (by simp only[Vw,Bool.false_eq_true,if_false];exact loop 0 (Nat.zero_le _))
theorem Np {l:List D}(h:AK Ap 9 l) (s:ByteArray):Ev (fun n=>gP n s l s l) true:=by
 unfold gP
 simp only[if_true]
 exact Ev.bO1 (Nn h) .ret
theorem RG (l:List D):AK Ap 33 l→∀(z:Int) (s:ByteArray),Ev (fun n=>Zy n z s l z s l) true:=by
 refine Bt (P:=fun l=>AK Ap 33 l→∀(z:Int) (s:ByteArray),Ev (fun n=>Zy n z s l z s l) true) (fun l ih h=>?_) l
 have loop:∀i:Nat,i≤l.length→Ev (fun n=>Pk n l l (i:Int)) true:=by
  refine down l.length ?_ ?_
  ·refine .succ ?_
   simp only[Pk,AB,Int.lt_irrefl,if_false]
   exact .succ (by simp only[Tf,Bool.false_eq_true,if_false];exact .ret)
  ·intro i hi ihl
   obtain⟨x,hx,hm,hr⟩:=h.get hi
   obtain⟨a,s,m,rfl,w0,w1,w2⟩:=YK hr
   refine .succ ?_
   simp only[Pk,AB,if_pos (CT hi)]
   refine .succ ?_
   simp only[Tf,if_true,AG hx,CM]
   refine Ev.bO1 (ih m (Au (ag:=true) (sz:=3) hm (by simp)) w2 a s) ?_
   simp only[AI,Bool.not_true,Bool.false_eq_true,if_false,AE,AF hi h.1]
   exact ihl
 intro z s
 refine .succ ?_
 simp only[Zy,if_true,AB]
 exact .succ (by simp only[Pj,Bool.false_eq_true,if_false];exact loop 0 (Nat.zero_le _))
theorem Tn {l6 l7:List D}(h6:AK Ap 9 l6) (h7:Ev (fun n=>bV n l7 l7 true) true) (z1 z2:Int) (s3 s4 s5:ByteArray) (z8:Int):Ev (fun n=>gQ n z1 z2 s3 s4 s5 l6 l7 z8 z1 z2 s3 s4 s5 l6 l7 z8 true) true:=by
 refine .succ ?_
 simp only[gQ,if_true,AI,Bool.not_true,Bool.false_eq_true,if_false]
 refine Ev.bO1 (Np h6 s5) ?_
 simp only[if_true]
 exact Ev.bO1 h7 .ret
theorem V0 (l:List D):AK Ap 39 l→Ev (fun n=>bV n l l true) true:=by
 refine Bt (P:=fun l=>AK Ap 39 l→Ev (fun n=>bV n l l true) true) (fun l ih h=>?_) l
 have loop:∀i:Nat,i≤l.length→Ev (fun n=>Pn n l l true (i:Int)) true:=by
  refine down l.length ?_ ?_
  ·refine .succ ?_
   simp only[Pn,AB,Int.lt_irrefl,if_false]
   exact .succ (by simp only[Ti,Bool.false_eq_true,if_false];exact .ret)
  ·intro i hi ihl
   obtain⟨x,hx,hm,hr⟩:=h.get hi
   obtain⟨a0,a1,a2,a3,a4,a5,a6,a7,rfl,w0,w1,w2,w3,w4,w5,w6,w7⟩:=NM hr
   refine .succ ?_
   simp only[Pn,AB,if_pos (CT hi)]
   refine .succ ?_
   simp only[Ti,if_true,AG hx,Ao]
   refine Ev.bO1 (Tn w5 (ih a6 (Au (ag:=true) (sz:=8) hm (by simp)) w6) a0 a1 a2 a3 a4 a7) ?_
   simp only[AI,Bool.not_true,Bool.false_eq_true,if_false,AE,AF hi h.1]
   exact ihl
 refine .succ ?_
 simp only[bV,AB,if_true]
 exact .succ (by simp only[Vx,Bool.false_eq_true,if_false];exact loop 0 (Nat.zero_le _))
theorem Z1 (l:List D):AK Ap 50 l→Ev (fun n=>Zz n l l true) true:=by
 refine Bt (P:=fun l=>AK Ap 50 l→Ev (fun n=>Zz n l l true) true) (fun l ih h=>?_) l
 have loop:∀i:Nat,i≤l.length→Ev (fun n=>Po n l l true (i:Int)) true:=by
  refine down l.length ?_ ?_
  ·refine .succ ?_
   simp only[Po,AB,Int.lt_irrefl,if_false]
   exact .succ (by simp only[Tj,Bool.false_eq_true,if_false];exact .ret)
  ·intro i hi ihl
   obtain⟨x,hx,hm,hr⟩:=h.get hi
   obtain⟨a0,a1,a2,a3,a4,a5,a6,a7,a8,a9,a10,a11,a12,a13,a14,rfl,w0,w1,w2,w3,w4,w5,w6,w7,w8,w9,w10,w11,w12,w13,w14⟩:=N9 hr
   have arms:∀j:Nat,j≤a13.length→Ev (fun n=>Pp n l l true (i:Int) a13 a13 (j:Int)) true:=by
    refine down a13.length ?_ ?_
    ·refine .succ ?_
     simp only[Pp,AB,Int.lt_irrefl,if_false]
     refine .succ ?_
     simp only[Tk,Bool.false_eq_true,if_false,AE,AF hi h.1]
     exact ihl
    ·intro j hj iha
     obtain⟨y,hy,hm2,hr2⟩:=w13.get hj
     obtain⟨t1,t2,m,rfl,v0,v1,v2⟩:=NN hr2
     refine .succ ?_
     simp only[Pp,AB,if_pos (CT hj)]
     refine .succ ?_
     simp only[Tk,if_true,AG hy,Be]
     refine Ev.bO1 (ih m (Nat.lt_trans (Au (ag:=true) (sz:=15) hm2 (by simp)) (Au (ag:=true) (sz:=3) hm (by simp))) v2) ?_
     simp only[AI,Bool.not_true]
     refine .succ ?_
     simp only[Tl,Bool.false_eq_true,if_false,AE,AF hj w13.1]
     exact iha
   refine .succ ?_
   simp only[Po,AB,if_pos (CT hi)]
   refine .succ ?_
   simp only[Tj,if_true,AG hx,Af,AB]
   refine .succ ?_
   simp only[Ha,Bool.false_eq_true,if_false]
   refine Ev.bO1 (Nn w3) ?_
   simp only[AI,Bool.not_true,Bool.false_eq_true,if_false]
   refine Ev.bO1 (RG a6 w6 a4 a5) ?_
   simp only[AI,Bool.not_true,Bool.false_eq_true,if_false]
   refine Ev.bO1 (Np w9 a8) ?_
   simp only[AI,Bool.not_true,Bool.false_eq_true,if_false]
   refine Ev.bO1 (V0 a10 w10) ?_
   simp only[AI,Bool.not_true,Bool.false_eq_true,if_false]
   refine Ev.bO1 (ih a11 (Au (ag:=true) (sz:=15) hm (by simp)) w11) ?_
   simp only[AI,Bool.not_true,Bool.false_eq_true,if_false]
   refine Ev.bO1 (ih a12 (Au (ag:=true) (sz:=15) hm (by simp)) w12) ?_
   simp only[AI,Bool.not_true]
   refine .succ ?_
   simp only[LU,Bool.false_eq_true,if_false]
   exact arms 0 (Nat.zero_le _)
 refine .succ ?_
 simp only[Zz,AB,if_true]
 exact .succ (by simp only[Vy,Bool.false_eq_true,if_false];exact loop 0 (Nat.zero_le _))
theorem Yc {l:List D}(h:AK Ap 74 l):Ev (fun n=>mE n l l) true:=by
 have loop:∀i:Nat,i≤l.length→Ev (fun n=>Pl n l l (i:Int)) true:=by
  refine down l.length ?_ ?_
  ·refine .succ ?_
   simp only[Pl,AB,Int.lt_irrefl,if_false]
   exact .succ (by simp only[Tg,Bool.false_eq_true,if_false];exact .ret)
  ·intro i hi ihl
   obtain⟨x,hx,hm,hr⟩:=h.get hi
   obtain⟨a0,a1,a2,a3,rfl,w0,w1,w2,w3⟩:=Wm hr
   refine .succ ?_
   simp only[Pl,AB,if_pos (CT hi)]
   refine .succ ?_
   simp only[Tg,if_true,AG hx,Bl]
   refine Ev.bO1 (RG a3 w3 a1 a2) ?_
   simp only[AI,Bool.not_true]
   refine .succ ?_
   simp only[Vt,Bool.false_eq_true,if_false,AE,AF hi h.1]
   exact ihl
 unfold mE
 simp only[AB,if_true]
 exact .succ (by simp only[Vu,Bool.false_eq_true,if_false];exact loop 0 (Nat.zero_le _))
theorem Wr {l:List D}(h:AK Ap 45 l):Ev (fun n=>nD n l l true) true:=by
 have loop:∀i:Nat,i≤l.length→Ev (fun n=>Pq n l l true (i:Int)) true:=by
  refine down l.length ?_ ?_
  ·refine .succ ?_
   simp only[Pq,AB,Int.lt_irrefl,if_false]
   exact .succ (by simp only[Tm,Bool.false_eq_true,if_false];exact .ret)
  ·intro i hi ihl
   obtain⟨x,hx,hm,hr⟩:=h.get hi
   obtain⟨a0,a1,a2,a3,a4,a5,a6,a7,a8,a9,a10,a11,a12,a13,a14,a15,rfl,w0,w1,w2,w3,w4,w5,w6,w7,w8,w9,w10,w11,w12,w13,w14,w15⟩:=Un hr
   refine .succ ?_
   simp only[Pq,AB,if_pos (CT hi)]
   refine .succ ?_
   simp only[Tm,if_true,AG hx,Bd]
   refine Ev.bO1 (Yc w2) ?_
   simp only[AI,Bool.not_true,Bool.false_eq_true,if_false]
   refine Ev.bO1 (RG a5 w5 a3 a4) ?_
   simp only[AI,Bool.not_true,Bool.false_eq_true,if_false]
   refine Ev.bO1 (Z1 a6 w6) ?_
   simp only[AI,Bool.not_true,Bool.false_eq_true,if_false]
   refine Ev.bO1 (Tn w12 (V0 a13 w13) a7 a8 a9 a10 a11 a14) ?_
   simp only[AI,Bool.not_true]
   refine .succ ?_
   simp only[F4,Bool.false_eq_true,if_false,AE,AF hi h.1]
   exact ihl
 unfold nD
 simp only[AB,if_true]
 exact .succ (by simp only[Vz,Bool.false_eq_true,if_false];exact loop 0 (Nat.zero_le _))
end Go.Proofs.YtjmofeakajdbiaaGreatDoor
end
set_option linter.unusedVariables false
noncomputable section
namespace Go.Proofs.YtjmofeakajdbiaaGreatDoor
open Go Go.AM
theorem rD {z:Int}(h1: -9223372036854775808≤z) (h2:z≤9223372036854775807):IntKind.i64.wrap z=z:=IntWalk.i64_in _ (by omega)
inductive RI:List D→Prop where
 | mk {l:List D} (h:l.length≤4000) (hr:∀(a:Int) (s:ByteArray) (m:List D),D.agg [.int .u8 a,.str s,.list true 3 m]∈l→RI m):RI l
inductive RO:List D→Prop where
 | mk {l:List D} (h:l.length≤4000) (h5:∀(a0 a1:Int) (a2 a3 a4:ByteArray) (a5 a6:List D) (a7:Int),D.agg [.int .u8 a0,.int .i64 a1,.str a2,.str a3,.str a4,.list false 1 a5,.list true 8 a6,.int .i64 a7]∈l→a5.length≤4000) (h6:∀(a0 a1:Int) (a2 a3 a4:ByteArray) (a5 a6:List D) (a7:Int),D.agg [.int .u8 a0,.int .i64 a1,.str a2,.str a3,.str a4,.list false 1 a5,.list true 8 a6,.int .i64 a7]∈l→RO a6):RO l
inductive RQ:List D→Prop where
 | mk {l:List D} (h:l.length≤4000) (h3:∀(a0:Int) (a1 a2:ByteArray) (a3:List D) (a4:Int) (a5:ByteArray) (a6:List D) (a7:Int) (a8:ByteArray) (a9 a10 a11 a12 a13:List D) (a14:Int),D.agg [.int .u8 a0,.str a1,.str a2,.list false 1 a3,.int .u8 a4,.str a5,.list true 3 a6,.int .i64 a7,.str a8,.list false 1 a9,.list true 8 a10,.list true 15 a11,.list true 15 a12,.list true 3 a13,.int .i64 a14]∈l→a3.length≤4000∧RI a6∧a9.length≤4000∧RO a10∧a13.length≤4000)
   (h11:∀(a0:Int) (a1 a2:ByteArray) (a3:List D) (a4:Int) (a5:ByteArray) (a6:List D) (a7:Int) (a8:ByteArray) (a9 a10 a11 a12 a13:List D) (a14:Int),D.agg [.int .u8 a0,.str a1,.str a2,.list false 1 a3,.int .u8 a4,.str a5,.list true 3 a6,.int .i64 a7,.str a8,.list false 1 a9,.list true 8 a10,.list true 15 a11,.list true 15 a12,.list true 3 a13,.int .i64 a14]∈l→RQ a11) (h12:∀(a0:Int) (a1 a2:ByteArray) (a3:List D) (a4:Int) (a5:ByteArray) (a6:List D) (a7:Int) (a8:ByteArray) (a9 a10 a11 a12 a13:List D) (a14:Int),D.agg [.int .u8 a0,.str a1,.str a2,.list false 1 a3,.int .u8 a4,.str a5,.list true 3 a6,.int .i64 a7,.str a8,.list false 1 a9,.list true 8 a10,.list true 15 a11,.list true 15 a12,.list true 3 a13,.int .i64 a14]∈l→RQ a12)
   (h13:∀(a0:Int) (a1 a2:ByteArray) (a3:List D) (a4:Int) (a5:ByteArray) (a6:List D) (a7:Int) (a8:ByteArray) (a9 a10 a11 a12 a13:List D) (a14:Int),D.agg [.int .u8 a0,.str a1,.str a2,.list false 1 a3,.int .u8 a4,.str a5,.list true 3 a6,.int .i64 a7,.str a8,.list false 1 a9,.list true 8 a10,.list true 15 a11,.list true 15 a12,.list true 3 a13,.int .i64 a14]∈l→∀(t1 t2:ByteArray) (m:List D),D.agg [.str t1,.str t2,.list true 15 m]∈a13→RQ m):RQ l
theorem Ey (s:ByteArray) (z:Int) (h1: -6≤z) (h2:z≤20000):∃r,Ev (fun n=>Nu n s z) r∧ -1≤r∧r≤20000∧(0≤r→r+5≤z):=by
 have sz:∀{γ:Type} (k:Int→Option γ),Ns s k=k (s.size:Int):=fun k=>rfl
 by_cases h3:z<5
 ·exact⟨-1,.succ (.of fun n=>by unfold Nu;rw[if_pos h3,H4,if_pos rfl]),by omega,by omega,by omega⟩
 ·have e:IntKind.i64.wrap (z - 5)=z - 5:=rD (by omega) (by omega)
  by_cases h4:z - 5<(s.size:Int)
  ·exact⟨-1,.succ (.of fun n=>by unfold Nu;rw[if_neg h3,sz];simp only[AE];rw[e,if_pos h4,H4,if_pos rfl]),by omega,by omega,by omega⟩
  ·have e2:IntKind.i64.wrap (z - 5 - (s.size:Int))=z - 5 - (s.size:Int):=rD (by omega) (by omega)
   exact⟨z - 5 - (s.size:Int),.succ (.of fun n=>by unfold Nu;rw[if_neg h3,sz];simp only[AE];rw[e,if_neg h4,H4,if_neg Bool.false_ne_true];simp only[AE];rw[sz,e,e2]),by omega,by omega,by omega⟩
theorem V2 {l:List D}(h:AK Ap 9 l) (z:Int) (h1: -1≤z) (h2:z≤20000):∃r,Ev (fun n=>dU n l z) r∧ -6≤r∧r≤20000∧(0≤r→r≤z∧l.length≤4000):=by
 have main:∀i:Nat,i≤l.length→∀z,-6≤z→z≤20000→∃r,Ev (fun n=>F0 n l (i:Int) z) r∧ -6≤r∧r≤20000∧(0≤r→r+5*((l.length:Int) - (i:Int))≤z):=by
  refine down l.length ?_ ?_
  ·intro z h1 h2
   refine⟨z,.succ (.succ (.of fun n=>?_)),by omega,by omega,by omega⟩
   rw[F0];simp only[AB];rw[if_neg (by omega),H6,if_neg Bool.false_ne_true]
  ·intro i hi ih z h1 h2
   by_cases hz:(0:Int)≤z
   ·obtain⟨x,hx,_,hr⟩:=h.get hi
    obtain⟨s,rfl,_⟩:=Yq hr
    obtain⟨z1,g1,g2,g3,g4⟩:=Ey s z (by omega) h2
    obtain⟨r,k1,k2,k3,k4⟩:=ih z1 (by omega) (by omega)
    refine⟨r,.succ (.succ (Ev.congr (A:=fun n=>bO1 (Nu n s z) fun z10=>F0 n l ((i+1:Nat):Int) z10) (Ev.bO1 g1 k1) fun n=>?_)),k2,k3,by omega⟩
    rw[F0];simp only[AB];rw[if_pos (by omega),if_pos hz,H6,if_pos rfl,AG hx]
    simp only[Bc,AE,AF hi h.1]
   ·refine⟨z,.succ (.succ (.of fun n=>?_)),by omega,by omega,by omega⟩
    rw[F0];simp only[AB];rw[if_pos (by omega),if_neg hz,H6,if_neg Bool.false_ne_true]
 obtain⟨r,h,a,b,c⟩:=main 0 (Nat.zero_le _) (z - 5) (by omega) (by omega)
 exact⟨r,h.congr fun n=>by unfold dU;simp only[AE,rD (show -9223372036854775808≤z - 5 by omega) (by omega)];rfl,a,b,fun hr=>by have:=c hr;omega⟩
theorem V3 {l:List D}(h:AK Ap 9 l) (s:ByteArray) (z:Int) (h1: -6≤z) (h2:z≤20000):∃r,Ev (fun n=>kH n s l z) r∧ -6≤r∧r≤20000∧(0≤r→r+5≤z∧l.length≤4000):=by
 obtain⟨y,g1,g2,g3,g4⟩:=Ey s z h1 h2
 obtain⟨r,k1,k2,k3,k4⟩:=V2 h y g2 g3
 exact⟨r,Ev.bO1 g1 (Ev.bO1 k1 .ret),k2,k3,fun hr=>by have:=k4 hr;omega⟩
theorem RJ (l:List D):AK Ap 33 l→∀z1 s2 z,-6≤z→z≤20000→∃r,Ev (fun n=>Wl n z1 s2 l z) r∧ -6≤r∧r≤20000∧(0≤r→r+5≤z∧RI l):=by
 refine Bt (P:=fun l=>AK Ap 33 l→∀z1 s2 z,-6≤z→z≤20000→∃r,Ev (fun n=>Wl n z1 s2 l z) r∧ -6≤r∧r≤20000∧(0≤r→r+5≤z∧RI l)) (fun l ih h=>?_) l
 have loop:∀i:Nat,i≤l.length→∀z,-6≤z→z≤20000→∃r,Ev (fun n=>Fz n l (i:Int) z) r∧ -6≤r∧r≤20000∧(0≤r→r+5*((l.length:Int) - (i:Int))≤z∧∀(j:Nat) (a:Int) (s:ByteArray) (m:List D),i≤j→l[j]?=some (.agg [.int .u8 a,.str s,.list true 3 m])→RI m):=by
  refine down l.length ?_ ?_
  ·intro z h1 h2
   refine⟨z,.succ (.succ (.of fun n=>?_)),h1,h2,fun _=>⟨by omega,fun j a s m hj hx=>absurd (List.getElem?_eq_some_iff.1 hx).1 (by omega)⟩⟩
   rw[Fz];simp only[AB];rw[if_neg (by omega),H5,if_neg Bool.false_ne_true]
  ·intro i hi ihl z h1 h2
   by_cases hz:(0:Int)≤z
   ·obtain⟨x,hx,hm,hr⟩:=h.get hi
    obtain⟨a,s,m,rfl,_,hs,hm'⟩:=YK hr
    obtain⟨y,g1,g2,g3,g4⟩:=ih m (Au (ag:=true) (sz:=3) hm (by simp)) hm' a s z h1 h2
    obtain⟨r,k1,k2,k3,k4⟩:=ihl y g2 g3
    refine⟨r,.succ (.succ (Ev.congr (A:=fun n=>bO1 (Wl n a s m z) fun z10=>Fz n l ((i+1:Nat):Int) z10) (Ev.bO1 g1 k1) fun n=>?_)),k2,k3,fun hr0=>?_⟩
    ·rw[Fz];simp only[AB];rw[if_pos (by omega),if_pos hz,H5,if_pos rfl,AG hx]
     simp only[CM,AE,AF hi h.1]
    ·obtain⟨x1,x2⟩:=k4 hr0
     obtain⟨x3,x4⟩:=g4 (by omega)
     refine⟨by omega,fun j a' s' m' hj hx'=>?_⟩
     by_cases e:j=i
     ·subst e;rw[hx]at hx';cases hx';exact x4
     ·exact x2 j a' s' m' (by omega) hx'
   ·refine⟨z,.succ (.succ (.of fun n=>?_)),h1,h2,by omega⟩
    rw[Fz];simp only[AB];rw[if_pos (by omega),if_neg hz,H5,if_neg Bool.false_ne_true]
 intro z1 s2 z h1 h2
 obtain⟨y,g1,g2,g3,g4⟩:=Ey s2 z h1 h2
 obtain⟨r,k1,k2,k3,k4⟩:=loop 0 (Nat.zero_le _) y (by omega) g3
 refine⟨r,.succ ((Ev.bO1 g1 k1).congr fun n=>by rw[Wl];rfl),k2,k3,fun hr0=>?_⟩
 obtain⟨x1,x2⟩:=k4 hr0
 have:=g4 (by omega)
 refine⟨by omega,.mk (by omega) fun a s m hm=>?_⟩
 obtain⟨j,hj⟩:=List.getElem?_of_mem hm
 exact x2 j a s m (Nat.zero_le _) hj
theorem To (l:List D):AK Ap 39 l→∀z1 z2 s3 s4 s5 l6 z8 z,AK Ap 9 l6→ -6≤z→z≤20000→∃r,Ev (fun n=>Wy n z1 z2 s3 s4 s5 l6 l z8 z) r∧ -6≤r∧r≤20000∧(0≤r→r+5≤z∧l6.length≤4000∧RO l):=by
 refine Bt (P:=fun l=>AK Ap 39 l→∀z1 z2 s3 s4 s5 l6 z8 z,AK Ap 9 l6→ -6≤z→z≤20000→∃r,Ev (fun n=>Wy n z1 z2 s3 s4 s5 l6 l z8 z) r∧ -6≤r∧r≤20000∧(0≤r→r+5≤z∧l6.length≤4000∧RO l)) (fun l ih h=>?_) l
 have loop:∀i:Nat,i≤l.length→∀z,-6≤z→z≤20000→∃r,Ev (fun n=>F1 n l (i:Int) z) r∧ -6≤r∧r≤20000∧(0≤r→r+5*((l.length:Int) - (i:Int))≤z∧∀(j:Nat) (a0 a1:Int) (a2 a3 a4:ByteArray) (a5 a6:List D) (a7:Int),i≤j→l[j]?=some (.agg [.int .u8 a0,.int .i64 a1,.str a2,.str a3,.str a4,.list false 1 a5,.list true 8 a6,.int .i64 a7])→a5.length≤4000∧RO a6):=by
  refine down l.length ?_ ?_
  ·intro z h1 h2
   refine⟨z,.succ (.succ (.of fun n=>?_)),h1,h2,fun _=>⟨by omega,fun j _ _ _ _ _ _ _ _ hj hx=>absurd (List.getElem?_eq_some_iff.1 hx).1 (by omega)⟩⟩
   rw[F1];simp only[AB];rw[if_neg (by omega),H7,if_neg Bool.false_ne_true]
  ·intro i hi ihl z h1 h2
   by_cases hz:(0:Int)≤z
   ·obtain⟨x,hx,hm,hr⟩:=h.get hi
    obtain⟨b0,b1,b2,b3,b4,b5,b6,b7,rfl,w0,_,w2,w3,w4,w5,w6,_⟩:=NM hr
    obtain⟨y,g1,g2,g3,g4⟩:=ih b6 (Au (ag:=true) (sz:=8) hm (by simp)) w6 b0 b1 b2 b3 b4 b5 b7 z w5 h1 h2
    obtain⟨r,k1,k2,k3,k4⟩:=ihl y g2 g3
    refine⟨r,.succ (.succ (Ev.congr (A:=fun n=>bO1 (Wy n b0 b1 b2 b3 b4 b5 b6 b7 z) fun z10=>F1 n l ((i+1:Nat):Int) z10) (Ev.bO1 g1 k1) fun n=>?_)),k2,k3,fun hr0=>?_⟩
    ·rw[F1];simp only[AB];rw[if_pos (by omega),if_pos hz,H7,if_pos rfl,AG hx]
     simp only[Ao,AE,AF hi h.1]
    ·obtain⟨x1,x2⟩:=k4 hr0
     obtain⟨x3,x4⟩:=g4 (by omega)
     refine⟨by omega,fun j _ _ _ _ _ _ _ _ hj hx'=>?_⟩
     by_cases e:j=i
     ·subst e;rw[hx]at hx';cases hx';exact x4
     ·exact x2 j _ _ _ _ _ _ _ _ (by omega) hx'
   ·refine⟨z,.succ (.succ (.of fun n=>?_)),h1,h2,by omega⟩
    rw[F1];simp only[AB];rw[if_pos (by omega),if_neg hz,H7,if_neg Bool.false_ne_true]
 intro z1 z2 s3 s4 s5 l6 z8 z h6 h1 h2
 obtain⟨y1,g1,g2,g3,g4⟩:=Ey s3 z h1 h2
 obtain⟨y2,j1,j2,j3,j4⟩:=Ey s4 y1 (by omega) g3
 obtain⟨y3,i1,i2,i3,i4⟩:=V3 h6 s5 y2 (by omega) j3
 obtain⟨r,k1,k2,k3,k4⟩:=loop 0 (Nat.zero_le _) y3 i2 i3
 refine⟨r,.succ ((Ev.bO1 g1 (Ev.bO1 j1 (Ev.bO1 i1 k1))).congr fun n=>by rw[Wy]),k2,k3,fun hr0=>?_⟩
 obtain⟨x1,x2⟩:=k4 hr0
 obtain⟨x3,x4⟩:=i4 (by omega)
 have:=j4 (by omega)
 have:=g4 (by omega)
 refine⟨by omega,x4,.mk (by omega) (fun a0 a1 a2 a3 a4 a5 a6 a7 hm=>?_) (fun a0 a1 a2 a3 a4 a5 a6 a7 hm=>?_)⟩
 ·obtain⟨j,hj⟩:=List.getElem?_of_mem hm
  exact (x2 j _ _ _ _ _ _ _ _ (Nat.zero_le _) hj).1
 ·obtain⟨j,hj⟩:=List.getElem?_of_mem hm
  exact (x2 j _ _ _ _ _ _ _ _ (Nat.zero_le _) hj).2
end Go.Proofs.YtjmofeakajdbiaaGreatDoor
end
set_option linter.unusedVariables false
noncomputable section
namespace Go.Proofs.YtjmofeakajdbiaaGreatDoor
open Go Go.AM
def Z2 (m:List D):Prop:=∀z:Int,-6≤z→z≤20000→∃r,Ev (fun n=>Zp n m z) r∧ -6≤r∧r≤20000∧(0≤r→r≤z∧RQ m)
theorem Z3 {l18:List D}(h:AK Ap 39 l18) (l1:List D) (z3:Int) (l19 l20 l21:List D):∀i:Nat,i≤l18.length→∀z:Int,-6≤z→z≤20000→∃r,-6≤r∧r≤20000∧(0≤r→r+5*((l18.length:Int) - (i:Int))≤z∧∀(j:Nat) (a0 a1:Int) (a2 a3 a4:ByteArray) (a5 a6:List D) (a7:Int),i≤j→l18[j]?=some (.agg [.int .u8 a0,.int .i64 a1,.str a2,.str a3,.str a4,.list false 1 a5,.list true 8 a6,.int .i64 a7])→a5.length≤4000∧RO a6)∧
  ∀R,Ev (fun n=>if r<(0:Int)then Ew n l1 z3 l19 l20 l21 r true else Ew n l1 z3 l19 l20 l21 r false) R→Ev (fun n=>HX n l1 z3 l18 l19 l20 l21 (i:Int) z) R:=by
 refine down l18.length ?_ ?_
 ·intro z h1 h2
  refine⟨z,h1,h2,fun _=>⟨by omega,fun j _ _ _ _ _ _ _ _ hj hx=>absurd (List.getElem?_eq_some_iff.1 hx).1 (by omega)⟩,fun R hR=>.succ ?_⟩
  simp only[HX,AB,Int.lt_irrefl,if_false]
  exact .succ (by simp only[IB,Bool.false_eq_true,if_false];exact hR)
 ·intro i hi ih z h1 h2
  by_cases c:(0:Int)≤z
  ·obtain⟨x,hx,hm,hr⟩:=h.get hi
   obtain⟨b0,b1,b2,b3,b4,b5,b6,b7,rfl,w0,w1,w2,w3,w4,w5,w6,w7⟩:=NM hr
   obtain⟨y,y1,y2,y3,y4⟩:=To b6 w6 b0 b1 b2 b3 b4 b5 b7 z w5 h1 h2
   obtain⟨r,r1,r2,r3,r4⟩:=ih y y2 y3
   refine⟨r,r1,r2,fun hr0=>?_,fun R hR=>.succ ?_⟩
   ·obtain⟨x1,x2⟩:=r3 hr0
    obtain⟨x3,x4⟩:=y4 (by omega)
    refine⟨by omega,fun j _ _ _ _ _ _ _ _ hj hx'=>?_⟩
    by_cases e:j=i
    ·subst e;rw[hx]at hx';cases hx';exact x4
    ·exact x2 j _ _ _ _ _ _ _ _ (by omega) hx'
   ·simp only[HX,AB,if_pos (CT hi),if_pos c]
    refine .succ ?_
    simp only[IB,if_true,AG hx,Ao]
    refine Ev.bO1 y1 ?_
    simp only[AE,AF hi h.1]
    exact r4 R hR
  ·refine⟨z,h1,h2,fun h=>absurd h c,fun R hR=>.succ ?_⟩
   simp only[HX,AB,if_pos (CT hi),if_neg c]
   exact .succ (by simp only[IB,Bool.false_eq_true,if_false];exact hR)
theorem Yd {l21:List D}(h:AK Ap 95 l21) (hin:∀(s1 s2:ByteArray) (m:List D),.agg [.str s1,.str s2,.list true 15 m]∈l21→Z2 m) (l1:List D) (z3:Int):∀i:Nat,i≤l21.length→∀z:Int,-6≤z→z≤20000→∃r,-6≤r∧r≤20000∧
  (0≤r→r+5*((l21.length:Int) - (i:Int))≤z∧∀j s1 s2 m,i≤j→l21[j]?=some (.agg [.str s1,.str s2,.list true 15 m])→RQ m)∧∀R,Ev (fun n=>Eu n l1 (IntKind.wrap .i64 (z3+1)) r) R→Ev (fun n=>HY n l1 z3 l21 (i:Int) z) R:=by
 refine down l21.length ?_ ?_
 ·intro z h1 h2
  refine⟨z,h1,h2,fun _=>⟨by omega,fun j s1 s2 m hj hx=>absurd (List.getElem?_eq_some_iff.1 hx).1 (by omega)⟩,fun R hR=>.succ ?_⟩
  simp only[HY,AB,Int.lt_irrefl,if_false]
  exact .succ (by simp only[IC,Bool.false_eq_true,if_false,AE];exact hR)
 ·intro i hi ih z h1 h2
  by_cases c:(0:Int)≤z
  ·obtain⟨x,hx,hm,hr⟩:=h.get hi
   obtain⟨t1,t2,m,rfl,w0,w1,w2⟩:=NN hr
   obtain⟨a,a1,a2,a3,a4⟩:=Ey t1 z h1 h2
   obtain⟨b,b1,b2,b3,b4⟩:=Ey t2 a (by omega) a3
   obtain⟨y,y1,y2,y3,y4⟩:=hin t1 t2 m hm b (by omega) b3
   obtain⟨r,r1,r2,r3,r4⟩:=ih y y2 y3
   refine⟨r,r1,r2,fun hr0=>?_,fun R hR=>.succ ?_⟩
   ·obtain⟨r5,r6⟩:=r3 hr0
    obtain⟨y5,y6⟩:=y4 (by omega)
    have:=b4 (by omega)
    have:=a4 (by omega)
    refine⟨by omega,fun j s1 s2 m' hj hx'=>?_⟩
    by_cases e:j=i
    ·subst e;rw[hx]at hx';cases hx';exact y6
    ·exact r6 j s1 s2 m' (by omega) hx'
   ·simp only[HY,AB,if_pos (CT hi),if_pos c]
    refine .succ ?_
    simp only[IC,if_true,AG hx,Be]
    refine Ev.bO1 a1 (Ev.bO1 b1 (Ev.bO1 y1 ?_))
    simp only[AE,AF hi h.1]
    exact r4 R hR
  ·refine⟨z,h1,h2,fun h=>absurd h c,fun R hR=>.succ ?_⟩
   simp only[HY,AB,if_pos (CT hi),if_neg c]
   exact .succ (by simp only[IC,Bool.false_eq_true,if_false,AE];exact hR)
structure Sh (a3 a6 a9 a10 a11 a12 a13:List D):Prop where
 n:a3.length≤4000
 t:RI a6
 p:a9.length≤4000
 e:RO a10
 b:RQ a11
 o:RQ a12
 k:a13.length≤4000
 m:∀(t1 t2:ByteArray) (m:List D),D.agg [.str t1,.str t2,.list true 15 m]∈a13→RQ m
theorem Z4 (l:List D):AK Ap 50 l→Z2 l:=by
 refine Bt (P:=fun l=>AK Ap 50 l→Z2 l) (fun l ih h=>?_) l
 have loop:∀i:Nat,i≤l.length→∀z:Int,-6≤z→z≤20000→∃r,Ev (fun n=>Eu n l (i:Int) z) r∧ -6≤r∧r≤20000∧(0≤r→r+5*((l.length:Int) - (i:Int))≤z∧∀(j:Nat) (a0:Int) (a1 a2:ByteArray) (a3:List D) (a4:Int) (a5:ByteArray) (a6:List D) (a7:Int) (a8:ByteArray) (a9 a10 a11 a12 a13:List D) (a14:Int),i≤j→l[j]?=some (.agg [.int .u8 a0,.str a1,.str a2,.list false 1 a3,.int .u8 a4,.str a5,.list true 3 a6,.int .i64 a7,.str a8,.list false 1 a9,.list true 8 a10,.list true 15 a11,.list true 15 a12,.list true 3 a13,.int .i64 a14])→Sh a3 a6 a9 a10 a11 a12 a13):=by
  refine down l.length ?_ ?_
  ·intro z h1 h2
   refine⟨z,.succ ?_,h1,h2,fun _=>⟨by omega,fun j _ _ _ _ _ _ _ _ _ _ _ _ _ _ _ hj hx=>absurd (List.getElem?_eq_some_iff.1 hx).1 (by omega)⟩⟩
   simp only[Eu,AB,Int.lt_irrefl,if_false]
   exact .succ (by simp only[IA,Bool.false_eq_true,if_false];exact .ret)
  ·intro i hi ihl z h1 h2
   by_cases c:(0:Int)≤z
   ·obtain⟨x,hx,hm,hr⟩:=h.get hi
    obtain⟨a0,a1,a2,a3,a4,a5,a6,a7,a8,a9,a10,a11,a12,a13,a14,rfl,w0,w1,w2,w3,w4,w5,w6,w7,w8,w9,w10,w11,w12,w13,w14⟩:=N9 hr
    obtain⟨p1,p2,p3,p4,p5⟩:=Ey a1 z h1 h2
    obtain⟨q1,q2,q3,q4,q5⟩:=Ey a2 p1 (by omega) p4
    obtain⟨t1,t2,t3,t4,t5⟩:=V2 w3 q1 (by omega) q4
    obtain⟨u1,u2,u3,u4,u5⟩:=RJ a6 w6 a4 a5 t1 t3 t4
    obtain⟨v1,v2,v3,v4,v5⟩:=V3 w9 a8 u1 u3 u4
    obtain⟨e1,e2,e3,e4,e5⟩:=Z3 w10 l (i:Int) a11 a12 a13 0 (Nat.zero_le _) v1 v3 v4
    have pre:∀R,Ev (fun n=>if e1<(0:Int)then Ew n l (i:Int) a11 a12 a13 e1 true else Ew n l (i:Int) a11 a12 a13 e1 false) R→Ev (fun n=>Eu n l (i:Int) z) R:=by
     intro R hR
     refine .succ ?_
     simp only[Eu,AB,if_pos (CT hi),if_pos c]
     refine .succ ?_
     simp only[IA,if_true,AG hx,Af]
     exact Ev.bO1 p2 (Ev.bO1 q2 (Ev.bO1 t2 (Ev.bO1 u2 (Ev.bO1 v2 (e5 R hR)))))
    by_cases ce:e1<0
    ·refine⟨e1,pre _ ?_,e2,e3,fun h=>absurd h (by omega)⟩
     simp only[if_pos ce]
     exact .succ (by simp only[Ew,if_true];exact .ret)
    ·have s11:=ih a11 (Au (ag:=true) (sz:=15) hm (by simp)) w11
     have s12:=ih a12 (Au (ag:=true) (sz:=15) hm (by simp)) w12
     have s13:∀(s1 s2:ByteArray) (m:List D),.agg [.str s1,.str s2,.list true 15 m]∈a13→Z2 m:=fun s1 s2 m hm2=>ih m (Nat.lt_trans (Au (ag:=true) (sz:=15) hm2 (by simp)) (Au (ag:=true) (sz:=3) hm (by simp))) (by obtain⟨b0,b1,b2,e,_,_,w⟩:=NN (w13.2 _ hm2);cases e;exact w)
     obtain⟨f1,f2,f3,f4,f5⟩:=s11 e1 e2 e3
     obtain⟨g1,g2,g3,g4,g5⟩:=s12 f1 f3 f4
     obtain⟨k1,k2,k3,k4,k5⟩:=Yd w13 s13 l (i:Int) 0 (Nat.zero_le _) g1 g3 g4
     obtain⟨r,r1,r2,r3,r4⟩:=ihl k1 k2 k3
     refine⟨r,pre _ ?_,r2,r3,fun hr0=>?_⟩
     ·simp only[if_neg ce]
      refine .succ ?_
      simp only[Ew,Bool.false_eq_true,if_false]
      refine Ev.bO1 f2 (Ev.bO1 g2 (k5 _ ?_))
      rw[AF hi h.1]
      exact r1
     ·obtain⟨x1,x2⟩:=r4 hr0
      obtain⟨x3,x4⟩:=k4 (by omega)
      obtain⟨x5,x6⟩:=g5 (by omega)
      obtain⟨x7,x8⟩:=f5 (by omega)
      obtain⟨x9,x10⟩:=e4 (by omega)
      obtain⟨y1,y1'⟩:=v5 (by omega)
      obtain⟨y2,y2'⟩:=u5 (by omega)
      obtain⟨y3,y3'⟩:=t5 (by omega)
      have y4:=q5 (by omega)
      have y5:=p5 (by omega)
      refine⟨by omega,fun j _ _ _ _ _ _ _ _ _ _ _ _ _ _ _ hj hx'=>?_⟩
      by_cases e:j=i
      ·subst e
       rw[hx]at hx'
       cases hx'
       refine⟨y3',y2',y1',.mk (by omega) (fun b0 b1 b2 b3 b4 b5 b6 b7 hm=>?_) (fun b0 b1 b2 b3 b4 b5 b6 b7 hm=>?_),x8,x6,by omega,fun s1 s2 m hm2=>?_⟩
       ·obtain⟨j,hj⟩:=List.getElem?_of_mem hm
        exact (x10 j _ _ _ _ _ _ _ _ (Nat.zero_le _) hj).1
       ·obtain⟨j,hj⟩:=List.getElem?_of_mem hm
        exact (x10 j _ _ _ _ _ _ _ _ (Nat.zero_le _) hj).2
       ·obtain⟨j,hj⟩:=List.getElem?_of_mem hm2
        exact x4 j s1 s2 m (Nat.zero_le _) hj
      ·exact x2 j _ _ _ _ _ _ _ _ _ _ _ _ _ _ _ (by omega) hx'
   ·refine⟨z,.succ ?_,h1,h2,fun h=>absurd h c⟩
    simp only[Eu,AB,if_pos (CT hi),if_neg c]
    exact .succ (by simp only[IA,Bool.false_eq_true,if_false];exact .ret)
 intro z h1 h2
 obtain⟨r,r1,r2,r3,r4⟩:=loop 0 (Nat.zero_le _) z h1 h2
 refine⟨r,.succ (by simp only[Zp];exact r1),r2,r3,fun hr=>?_⟩
 obtain⟨x1,x2⟩:=r4 hr
 have get:∀(a0:Int) (a1 a2:ByteArray) (a3:List D) (a4:Int) (a5:ByteArray) (a6:List D) (a7:Int) (a8:ByteArray) (a9 a10 a11 a12 a13:List D) (a14:Int),D.agg [.int .u8 a0,.str a1,.str a2,.list false 1 a3,.int .u8 a4,.str a5,.list true 3 a6,.int .i64 a7,.str a8,.list false 1 a9,.list true 8 a10,.list true 15 a11,.list true 15 a12,.list true 3 a13,.int .i64 a14]∈l→Sh a3 a6 a9 a10 a11 a12 a13:=fun _ _ _ _ _ _ _ _ _ _ _ _ _ _ _ hm=>by
  obtain⟨j,hj⟩:=List.getElem?_of_mem hm
  exact x2 j _ _ _ _ _ _ _ _ _ _ _ _ _ _ _ (Nat.zero_le _) hj
 refine⟨by omega,.mk (by omega) (fun _ _ _ _ _ _ _ _ _ _ _ _ _ _ _ hm=>?_) (fun _ _ _ _ _ _ _ _ _ _ _ _ _ _ _ hm=>(get _ _ _ _ _ _ _ _ _ _ _ _ _ _ _ hm).b) (fun _ _ _ _ _ _ _ _ _ _ _ _ _ _ _ hm=>(get _ _ _ _ _ _ _ _ _ _ _ _ _ _ _ hm).o) (fun _ _ _ _ _ _ _ _ _ _ _ _ _ _ _ hm=>(get _ _ _ _ _ _ _ _ _ _ _ _ _ _ _ hm).m)⟩
 have g:=get _ _ _ _ _ _ _ _ _ _ _ _ _ _ _ hm
 exact⟨g.n,g.t,g.p,g.e,g.k⟩
theorem RQ.sh {l:List D}(h:RQ l) {a0:Int}{a1 a2:ByteArray}{a3:List D}{a4:Int}{a5:ByteArray}{a6:List D}{a7:Int}{a8:ByteArray}{a9 a10 a11 a12 a13:List D}{a14:Int}(hm:D.agg [.int .u8 a0,.str a1,.str a2,.list false 1 a3,.int .u8 a4,.str a5,.list true 3 a6,.int .i64 a7,.str a8,.list false 1 a9,.list true 8 a10,.list true 15 a11,.list true 15 a12,.list true 3 a13,.int .i64 a14]∈l):Sh a3 a6 a9 a10 a11 a12 a13:=by
 cases h with
 | mk h h3 h11 h12 h13=>
  obtain⟨x1,x2,x3,x4,x5⟩:=h3 _ _ _ _ _ _ _ _ _ _ _ _ _ _ _ hm
  exact⟨x1,x2,x3,x4,h11 _ _ _ _ _ _ _ _ _ _ _ _ _ _ _ hm,h12 _ _ _ _ _ _ _ _ _ _ _ _ _ _ _ hm,x5,h13 _ _ _ _ _ _ _ _ _ _ _ _ _ _ _ hm⟩
theorem RQ.len {l:List D}(h:RQ l):l.length≤4000:=by cases h;assumption
theorem RO.len {l:List D}(h:RO l):l.length≤4000:=by cases h;assumption
theorem RI.len {l:List D}(h:RI l):l.length≤4000:=by cases h;assumption
theorem RI.row {l:List D}(h:RI l) {a:Int}{s:ByteArray}{m:List D}(hm:D.agg [.int .u8 a,.str s,.list true 3 m]∈l):RI m:=by
 cases h with
 | mk h hr=>exact hr _ _ _ hm
theorem RO.row {l:List D}(h:RO l) {a0 a1:Int}{a2 a3 a4:ByteArray}{a5 a6:List D}{a7:Int}(hm:D.agg [.int .u8 a0,.int .i64 a1,.str a2,.str a3,.str a4,.list false 1 a5,.list true 8 a6,.int .i64 a7]∈l):a5.length≤4000∧RO a6:=by
 cases h with
 | mk h h5 h6=>exact⟨h5 _ _ _ _ _ _ _ _ hm,h6 _ _ _ _ _ _ _ _ hm⟩
end Go.Proofs.YtjmofeakajdbiaaGreatDoor
end
set_option linter.unusedVariables false
noncomputable section
namespace Go.Proofs.YtjmofeakajdbiaaGreatDoor
open Go Go.AM
mutual
def IE:Nat->Int->BA->LD->Int->LD->Option (Int×BA×LD)
 | 0,_,_,_,_,_=>none
 | n+1,z1,s2,l3,z4,l5=>
  AB l3 fun z6=>(if z4<z6 then Jn n z1 s2 l3 z4 l5 true else Jn n z1 s2 l3 z4 l5 false)
def Jn:Nat->Int->BA->LD->Int->LD->Bool->Option (Int×BA×LD)
 | 0,_,_,_,_,_,_=>none
 | n+1,z1,s2,l3,z4,l5,b7=>
  (if b7=true then Ae l3 z4 fun x8=>CM x8 fun z9 s10 l11=>bO3 (Z5 n z9 s10 l11) fun z12 s13 l14=>Hp 48 l5 ([.agg [.int .u8 z12,.str s13,.list true 3 l14]]) fun l15=>AE (IntKind.wrap .i64 (z4+1)) fun z16=>IE n z1 s2 l3 z16 l15 else some (z1,s2,l5))
def Z5:Nat->Int->BA->LD->Option (Int×BA×LD)
 | 0,_,_,_=>none
 | n+1,z1,s2,l3=>
  IE n z1 s2 l3 (0:Int) ([]:LD)
end
theorem rE (n:Nat):∀⦃z1 s2 l3 r1 r2 r3⦄,Z5 n z1 s2 l3=some (r1,r2,r3)->
    BB Tryz.prog inv 32 [.d (.agg [.int .u8 z1,.str s2,.list true 3 l3])] [] (.v (.d (.agg [.int .u8 r1,.str r2,.list true 3 r3]))) [] []:=by
 induction n using Nat.strongRecOn with | _ n ih=>
 obtain _ | n:=n
 ·intro z1 s2 l3 r1 r2 r3 h
  cases (show (none:Option _)=some _ from h)
 intro z1 s2 l3 r1 r2 r3 h
 rw[Z5]at h
 refine BB.of BU BK Ht Tryz.func32 rfl (by kernel_rfl) rfl rfl rfl (fun M hM hI=>?_)
 try cbv
 refine AD ?_
 try cbv
 refine AD ?_
 try cbv
 refine AD ?_
 try cbv
 refine AD ?_
 try cbv
 refine AD ?_
 try cbv
 refine Dv (T:=Nat×Int×LD) [.cell (.loc 96) 2 true 3 33] [1,2,3,4] [.loc 0,.loc 32,.loc 96,.loc 256] 288 (fun t=>⟨[sL 1 0,sL 2 32,sL 3 96,sI 4 t.2.1],[(.loc 0,.cells [.d (.int .u8 z1),.d (.str s2),.d (.list true 3 l3)]),(.loc 32,.cells [.d (.int .u8 0),.d (.str ByteArray.empty),.nils true 3]),(.loc 96,.cells [.d (.int .u8 z1),.d (.str s2),.lst (.loc 256) true 3 t.2.2]),(.loc 256,.tok t.2.2.length 3 33)],288⟩)
   (fun t=>t.1<=n/\IE t.1 z1 s2 l3 t.2.1 t.2.2=some (r1,r2,r3)) (fun t=>t.1) (n,((0:Int),([]:LD))) ⟨Nat.le_refl _,h⟩ (by cbv) ?_
 clear h
 rintro⟨m1,z4,l5⟩ ⟨hm1,h⟩
 replace hm1:m1<=n:=hm1
 obtain _ | m1:=m1
 ·replace h:IE 0 z1 s2 l3 z4 l5=some (r1,r2,r3):=h
  rw[IE]at h
  cases h
 replace h:IE (m1+1) z1 s2 l3 z4 l5=some (r1,r2,r3):=h
 rw[IE]at h
 try cbv
 refine AD ?_
 try cbv
 refine AJ 11 [1,2,3,4,11] [.loc 0,.loc 32,.loc 96,.loc 256] 448 (fun m b=>m<=m1/\Jn m z1 s2 l3 z4 l5 b=some (r1,r2,r3)) ?_ ?_
 ·try cbv
  replace h:=BQ M h
  obtain⟨z6,hz,h⟩:=h
  refine⟨z6,hz,?_⟩
  clear hz
  try cbv
  refine B1 (fun e=>?_) (fun e=>?_)
  ·replace h:=Ag e h
   clear e
   try cbv
   exact AA (m1,true) [1,2,3,4,11] [.loc 0,.loc 32,.loc 96,.loc 256] 448 ⟨by omega,h⟩ (by cbv)
  replace h:=Ah (Int.not_lt.2 e) h
  clear e
  try cbv
  exact AA (m1,false) [1,2,3,4,11] [.loc 0,.loc 32,.loc 96,.loc 256] 448 ⟨by omega,h⟩ (by cbv)
 clear h
 rintro⟨m2,b7⟩ ⟨hm2,h⟩
 try cbv
 replace hm2:m2<=m1:=hm2
 obtain _ | m2:=m2
 ·replace h:Jn 0 z1 s2 l3 z4 l5 b7=some (r1,r2,r3):=h
  rw[Jn]at h
  cases h
 replace h:Jn (m2+1) z1 s2 l3 z4 l5 b7=some (r1,r2,r3):=h
 rw[Jn]at h
 try cbv
 cases b7
 ·replace h:=Bz h
  try cbv
  refine AD ?_
  try cbv
  obtain⟨rfl,rfl,rfl⟩:=QR h
  refine AZ ?_
  try cbv
  exact⟨[],by trivial⟩
 replace h:=Bx h
 try cbv
 refine AD ?_
 try cbv
 replace h:=Az h
 obtain⟨x8,⟨hx0,hx⟩,h⟩:=h
 refine⟨x8,hx0,hx,?_⟩
 clear hx0 hx
 replace h:=IZ h
 obtain⟨z9,s10,l11,rfl,h⟩:=h
 try cbv
 replace h:=Lq h
 obtain⟨z12,s13,l14,hr,h⟩:=h
 first | refine .inr (.inl ⟨[],?_⟩) | refine .inl ⟨[],?_⟩
 try cbv
 refine AU hM hI ((ih _ (by omega)) hr) rfl ?_
 clear hr
 try cbv
 refine⟨false,?_⟩
 try cbv
 refine⟨true,?_⟩
 try cbv
 replace h:=DX h
 obtain⟨l15,hb,hz,h⟩:=h
 refine⟨false,?_⟩
 try cbv
 first | refine⟨rfl,(M.lock_iff _).2 hb,l15,hz,?_⟩ | refine⟨(M.lock_iff _).2 hb,l15,hz,?_⟩
 clear hb hz
 try cbv
 refine drawn ?_ ?_
 ·show _=true
  kernel_rfl
 try cbv
 replace h:=Aa h
 obtain⟨z16,hz,h⟩:=h
 refine⟨z16,hz,?_⟩
 clear hz
 try cbv
 exact BT (m2,(z16,l15)) [1,2,3,4] [.loc 0,.loc 32,.loc 96,.loc 256] 288 ⟨by omega,h⟩ (Nat.lt_succ_of_le (by omega)) (by cbv)
mutual
def IG:Nat->LD->LD->Int->Option LD
 | 0,_,_,_=>none
 | n+1,l1,l2,z3=>
  AB l1 fun z4=>(if z3<z4 then Jo n l1 l2 z3 true else Jo n l1 l2 z3 false)
def Jo:Nat->LD->LD->Int->Bool->Option LD
 | 0,_,_,_,_=>none
 | n+1,l1,l2,z3,b5=>
  (if b5=true then Ae l1 z3 fun x6=>Bl x6 fun s7 z8 s9 l10=>Ae l1 z3 fun x11=>Bl x11 fun s12 z13 s14 l15=>bO3 (Z5 n z13 s14 l15) fun z16 s17 l18=>Hp 64 l2 ([.agg [.str s7,.int .u8 z16,.str s17,.list true 3 l18]]) fun l19=>AE (IntKind.wrap .i64 (z3+1)) fun z20=>IG n l1 l19 z20 else some l2)
end
def mG (n:Nat) (l1:LD):Option LD:=
 IG n l1 ([]:LD) (0:Int)
theorem zE (n:Nat):∀⦃l1 r1⦄,mG n l1=some r1->
    BB Tryz.prog inv 31 [.d (.list true 4 l1)] [] (.v (.d (.list true 4 r1))) [] []:=by
 intro l1 r1 h
 unfold mG at h
 refine BB.of BU BK Ht Tryz.func31 rfl (by kernel_rfl) rfl rfl rfl (fun M hM hI=>?_)
 try cbv
 refine AD ?_
 try cbv
 refine AD ?_
 try cbv
 refine AD ?_
 try cbv
 refine AD ?_
 try cbv
 refine Dv (T:=Nat×LD×Int) [.slot 3 true 4 74] [0,2,3,4] [.loc 96] 128 (fun t=>⟨[sT 0 4 l1,(2,.v (.c (.nils true 4))),(3,.v (.c (.lst (.loc 96) true 4 t.2.1))),sI 4 t.2.2],[(.loc 96,.tok t.2.1.length 4 74)],128⟩)
   (fun t=>t.1<=n/\IG t.1 l1 t.2.1 t.2.2=some r1) (fun t=>t.1) (n,(([]:LD),(0:Int))) ⟨Nat.le_refl _,h⟩ (by cbv) ?_
 clear h
 rintro⟨m1,l2,z3⟩ ⟨hm1,h⟩
 replace hm1:m1<=n:=hm1
 obtain _ | m1:=m1
 ·replace h:IG 0 l1 l2 z3=some r1:=h
  rw[IG]at h
  cases h
 replace h:IG (m1+1) l1 l2 z3=some r1:=h
 rw[IG]at h
 try cbv
 refine AD ?_
 try cbv
 refine AJ 8 [0,2,3,4,8] [.loc 96] 256 (fun m b=>m<=m1/\Jo m l1 l2 z3 b=some r1) ?_ ?_
 ·try cbv
  replace h:=BQ M h
  obtain⟨z4,hz,h⟩:=h
  refine⟨z4,hz,?_⟩
  clear hz
  try cbv
  refine B1 (fun e=>?_) (fun e=>?_)
  ·replace h:=Ag e h
   clear e
   try cbv
   exact AA (m1,true) [0,2,3,4,8] [.loc 96] 256 ⟨by omega,h⟩ (by cbv)
  replace h:=Ah (Int.not_lt.2 e) h
  clear e
  try cbv
  exact AA (m1,false) [0,2,3,4,8] [.loc 96] 256 ⟨by omega,h⟩ (by cbv)
 clear h
 rintro⟨m2,b5⟩ ⟨hm2,h⟩
 try cbv
 replace hm2:m2<=m1:=hm2
 obtain _ | m2:=m2
 ·replace h:Jo 0 l1 l2 z3 b5=some r1:=h
  rw[Jo]at h
  cases h
 replace h:Jo (m2+1) l1 l2 z3 b5=some r1:=h
 rw[Jo]at h
 try cbv
 cases b5
 ·replace h:=Bz h
  try cbv
  refine AD ?_
  try cbv
  obtain rfl:=Option.some.inj h
  refine AZ ?_
  try cbv
  exact⟨[],by trivial⟩
 replace h:=Bx h
 try cbv
 refine AD ?_
 try cbv
 replace h:=Az h
 obtain⟨x6,⟨hx0,hx⟩,h⟩:=h
 refine⟨x6,hx0,hx,?_⟩
 clear hx0 hx
 replace h:=IY h
 obtain⟨s7,z8,s9,l10,rfl,h⟩:=h
 try cbv
 replace h:=Az h
 obtain⟨x11,⟨hx0,hx⟩,h⟩:=h
 refine⟨x11,hx0,hx,?_⟩
 clear hx0 hx
 replace h:=IY h
 obtain⟨s12,z13,s14,l15,rfl,h⟩:=h
 try cbv
 replace h:=Lq h
 obtain⟨z16,s17,l18,hr,h⟩:=h
 first | refine .inr (.inl ⟨[],?_⟩) | refine .inl ⟨[],?_⟩
 try cbv
 refine AU hM hI (rE _ hr) rfl ?_
 clear hr
 try cbv
 refine⟨false,?_⟩
 try cbv
 refine⟨true,?_⟩
 try cbv
 replace h:=DX h
 obtain⟨l19,hb,hz,h⟩:=h
 refine⟨false,?_⟩
 try cbv
 first | refine⟨rfl,(M.lock_iff _).2 hb,l19,hz,?_⟩ | refine⟨(M.lock_iff _).2 hb,l19,hz,?_⟩
 clear hb hz
 try cbv
 refine drawn ?_ ?_
 ·show _=true
  kernel_rfl
 try cbv
 replace h:=Aa h
 obtain⟨z20,hz,h⟩:=h
 refine⟨z20,hz,?_⟩
 clear hz
 try cbv
 exact BT (m2,(l19,z20)) [0,2,3,4] [.loc 96] 128 ⟨by omega,h⟩ (Nat.lt_succ_of_le (by omega)) (by cbv)
def gR (n:Nat) (s1:BA) (l2:LD):Option (BA×LD):=
 Hp 16 ([]:LD) l2 fun l3=>some (s1,l3)
theorem uE (n:Nat):∀⦃s1 l2 r1 r2⦄,gR n s1 l2=some (r1,r2)->
    BB Tryz.prog inv 68 [.d (.agg [.str s1,.list false 1 l2])] [] (.v (.d (.agg [.str r1,.list false 1 r2]))) [] []:=by
 intro s1 l2 r1 r2 h
 unfold gR at h
 refine BB.of BU BK Ht Tryz.func68 rfl (by kernel_rfl) rfl rfl rfl (fun M hM hI=>?_)
 try cbv
 refine AD ?_
 try cbv
 refine AD ?_
 try cbv
 refine AD ?_
 try cbv
 refine AD ?_
 try cbv
 replace h:=DX h
 obtain⟨l3,hb,hz,h⟩:=h
 refine⟨false,?_⟩
 try cbv
 refine⟨(M.lock_iff _).2 hb,l3,hz,true,.inl rfl,?_⟩
 clear hb hz
 try cbv
 refine AD ?_
 try cbv
 obtain⟨rfl,rfl⟩:=XZ h
 refine AZ ?_
 try cbv
 exact⟨[],by trivial⟩
mutual
def IH:Nat->Int->Int->BA->BA->LD->Int->Bool->BA->LD->Int->LD->Option (Int×Int×BA×BA×BA×LD×LD×Int)
 | 0,_,_,_,_,_,_,_,_,_,_,_=>none
 | n+1,z1,z2,s3,s4,l7,z8,b9,s10,l11,z12,l13=>
  AB l7 fun z14=>(if z12<z14 then Jp n z1 z2 s3 s4 l7 z8 b9 s10 l11 z12 l13 true else Jp n z1 z2 s3 s4 l7 z8 b9 s10 l11 z12 l13 false)
def Jp:Nat->Int->Int->BA->BA->LD->Int->Bool->BA->LD->Int->LD->Bool->Option (Int×Int×BA×BA×BA×LD×LD×Int)
 | 0,_,_,_,_,_,_,_,_,_,_,_,_=>none
 | n+1,z1,z2,s3,s4,l7,z8,b9,s10,l11,z12,l13,b15=>
  (if b15=true then Ae l7 z12 fun x16=>Ao x16 fun z17 z18 s19 s20 s21 l22 l23 z24=>bO8 (bW n z17 z18 s19 s20 s21 l22 l23 z24 b9) fun z25 z26 s27 s28 s29 l30 l31 z32=>Hp 120 l13 ([.agg [.int .u8 z25,.int .i64 z26,.str s27,.str s28,.str s29,.list false 1 l30,.list true 8 l31,.int .i64 z32]]) fun l33=>AE (IntKind.wrap .i64 (z12+1)) fun z34=>IH n z1 z2 s3 s4 l7 z8 b9 s10 l11 z34 l33 else AI (!b9) fun b35=>(if b35=true then LV n z1 z2 s3 s4 s10 l11 l13 (0:Int)else LV n z1 z2 s3 s4 s10 l11 l13 z8))
def LV:Nat->Int->Int->BA->BA->BA->LD->LD->Int->Option (Int×Int×BA×BA×BA×LD×LD×Int)
 | 0,_,_,_,_,_,_,_,_=>none
 | n+1,z1,z2,s3,s4,s10,l11,l13,z36=>
  some (z1,z2,s3,s4,s10,l11,l13,z36)
def bW:Nat->Int->Int->BA->BA->BA->LD->LD->Int->Bool->Option (Int×Int×BA×BA×BA×LD×LD×Int)
 | 0,_,_,_,_,_,_,_,_,_=>none
 | n+1,z1,z2,s3,s4,s5,l6,l7,z8,b9=>
  bO2 (gR n s5 l6) fun s10 l11=>IH n z1 z2 s3 s4 l7 z8 b9 s10 l11 (0:Int) ([]:LD)
end
theorem uF (n:Nat):∀⦃z1 z2 s3 s4 s5 l6 l7 z8 b9 r1 r2 r3 r4 r5 r6 r7 r8⦄,bW n z1 z2 s3 s4 s5 l6 l7 z8 b9=some (r1,r2,r3,r4,r5,r6,r7,r8)->
    BB Tryz.prog inv 34 [.d (.agg [.int .u8 z1,.int .i64 z2,.str s3,.str s4,.str s5,.list false 1 l6,.list true 8 l7,.int .i64 z8]),.d (.bool b9)] [] (.v (.d (.agg [.int .u8 r1,.int .i64 r2,.str r3,.str r4,.str r5,.list false 1 r6,.list true 8 r7,.int .i64 r8]))) [] []:=by
 induction n using Nat.strongRecOn with | _ n ih=>
 obtain _ | n:=n
 ·intro z1 z2 s3 s4 s5 l6 l7 z8 b9 r1 r2 r3 r4 r5 r6 r7 r8 h
  cases (show (none:Option _)=some _ from h)
 intro z1 z2 s3 s4 s5 l6 l7 z8 b9 r1 r2 r3 r4 r5 r6 r7 r8 h
 rw[bW]at h
 refine BB.of BU BK Ht Tryz.func34 rfl (by kernel_rfl) rfl rfl rfl (fun M hM hI=>?_)
 try cbv
 refine AD ?_
 try cbv
 refine AD ?_
 try cbv
 refine AD ?_
 try cbv
 replace h:=JC h
 obtain⟨s10,l11,hr,h⟩:=h
 refine An rfl rfl ?_
 try cbv
 refine AU hM hI (uE _ hr) rfl ?_
 clear hr
 try cbv
 refine AD ?_
 try cbv
 refine AD ?_
 try cbv
 refine AD ?_
 try cbv
 refine Dv (T:=Nat×Int×LD) [.cell (.loc 96) 6 true 8 39] [1,2,4,5,6] [.loc 0,.loc 32,.loc 96,.loc 416] 448 (fun t=>⟨[sB 1 b9,sL 2 0,sL 4 32,sL 5 96,sI 6 t.2.1],[(.loc 0,.cells [.d (.int .u8 z1),.d (.int .i64 z2),.d (.str s3),.d (.str s4),.d (.str s5),.d (.list false 1 l6),.d (.list true 8 l7),.d (.int .i64 z8)]),(.loc 32,.cells [.d (.int .u8 0),.d (.int .i64 0),.d (.str ByteArray.empty),.d (.str ByteArray.empty),.d (.str ByteArray.empty),.nils false 1,.nils true 8,.d (.int .i64 0)]),(.loc 96,.cells [.d (.int .u8 z1),.d (.int .i64 z2),.d (.str s3),.d (.str s4),.d (.str s10),.d (.list false 1 l11),.lst (.loc 416) true 8 t.2.2,.d (.int .i64 z8)]),(.loc 416,.tok t.2.2.length 8 39)],448⟩)
   (fun t=>t.1<=n/\IH t.1 z1 z2 s3 s4 l7 z8 b9 s10 l11 t.2.1 t.2.2=some (r1,r2,r3,r4,r5,r6,r7,r8)) (fun t=>t.1) (n,((0:Int),([]:LD))) ⟨Nat.le_refl _,h⟩ (by cbv) ?_
 clear h
 rintro⟨m1,z12,l13⟩ ⟨hm1,h⟩
 replace hm1:m1<=n:=hm1
 obtain _ | m1:=m1
 ·replace h:IH 0 z1 z2 s3 s4 l7 z8 b9 s10 l11 z12 l13=some (r1,r2,r3,r4,r5,r6,r7,r8):=h
  rw[IH]at h
  cases h
 replace h:IH (m1+1) z1 z2 s3 s4 l7 z8 b9 s10 l11 z12 l13=some (r1,r2,r3,r4,r5,r6,r7,r8):=h
 rw[IH]at h
 try cbv
 refine AD ?_
 try cbv
 refine AJ 17 [1,2,4,5,6,17] [.loc 0,.loc 32,.loc 96,.loc 416] 608 (fun m b=>m<=m1/\Jp m z1 z2 s3 s4 l7 z8 b9 s10 l11 z12 l13 b=some (r1,r2,r3,r4,r5,r6,r7,r8)) ?_ ?_
 ·try cbv
  replace h:=BQ M h
  obtain⟨z14,hz,h⟩:=h
  refine⟨z14,hz,?_⟩
  clear hz
  try cbv
  refine B1 (fun e=>?_) (fun e=>?_)
  ·replace h:=Ag e h
   clear e
   try cbv
   exact AA (m1,true) [1,2,4,5,6,17] [.loc 0,.loc 32,.loc 96,.loc 416] 608 ⟨by omega,h⟩ (by cbv)
  replace h:=Ah (Int.not_lt.2 e) h
  clear e
  try cbv
  exact AA (m1,false) [1,2,4,5,6,17] [.loc 0,.loc 32,.loc 96,.loc 416] 608 ⟨by omega,h⟩ (by cbv)
 clear h
 rintro⟨m2,b15⟩ ⟨hm2,h⟩
 try cbv
 replace hm2:m2<=m1:=hm2
 obtain _ | m2:=m2
 ·replace h:Jp 0 z1 z2 s3 s4 l7 z8 b9 s10 l11 z12 l13 b15=some (r1,r2,r3,r4,r5,r6,r7,r8):=h
  rw[Jp]at h
  cases h
 replace h:Jp (m2+1) z1 z2 s3 s4 l7 z8 b9 s10 l11 z12 l13 b15=some (r1,r2,r3,r4,r5,r6,r7,r8):=h
 rw[Jp]at h
 try cbv
 cases b15
 ·replace h:=Bz h
  try cbv
  refine CJ (T:=Nat×Int) (fun t=>⟨[sL 4 32,sL 5 96],[(.loc 32,.cells [.d (.int .u8 0),.d (.int .i64 0),.d (.str ByteArray.empty),.d (.str ByteArray.empty),.d (.str ByteArray.empty),.nils false 1,.nils true 8,.d (.int .i64 0)]),(.loc 96,.cells [.d (.int .u8 z1),.d (.int .i64 z2),.d (.str s3),.d (.str s4),.d (.str s10),.d (.list false 1 l11),.lst (.loc 416) true 8 l13,.d (.int .i64 t.2)]),(.loc 416,.tok l13.length 8 39)],736⟩) (fun t=>t.1<=m2/\LV t.1 z1 z2 s3 s4 s10 l11 l13 t.2=some (r1,r2,r3,r4,r5,r6,r7,r8)) ?_ ?_
  ·try cbv
   refine AD ?_
   try cbv
   replace h:=C5 h
   obtain⟨b35,hz,h⟩:=h
   refine⟨b35,D0 hz,?_⟩
   clear hz
   try cbv
   cases b35
   ·replace h:=Bz h
    try cbv
    exact AA (m2,z8) [4,5] [.loc 32,.loc 96,.loc 416] 736 ⟨by omega,h⟩ (by cbv)
   replace h:=Bx h
   try cbv
   exact AA (m2,(0:Int)) [4,5] [.loc 32,.loc 96,.loc 416] 736 ⟨by omega,h⟩ (by cbv)
  clear h
  rintro⟨m3,z36⟩ ⟨hm3,h⟩
  replace hm3:m3<=m2:=hm3
  obtain _ | m3:=m3
  ·replace h:LV 0 z1 z2 s3 s4 s10 l11 l13 z36=some (r1,r2,r3,r4,r5,r6,r7,r8):=h
   rw[LV]at h
   cases h
  replace h:LV (m3+1) z1 z2 s3 s4 s10 l11 l13 z36=some (r1,r2,r3,r4,r5,r6,r7,r8):=h
  rw[LV]at h
  try cbv
  refine AD ?_
  try cbv
  obtain⟨rfl,rfl,rfl,rfl,rfl,rfl,rfl,rfl⟩:=nJ h
  refine AZ ?_
  try cbv
  exact⟨[],by trivial⟩
 replace h:=Bx h
 try cbv
 refine AD ?_
 try cbv
 replace h:=Az h
 obtain⟨x16,⟨hx0,hx⟩,h⟩:=h
 refine⟨x16,hx0,hx,?_⟩
 clear hx0 hx
 replace h:=Ei h
 obtain⟨z17,z18,s19,s20,s21,l22,l23,z24,rfl,h⟩:=h
 try cbv
 replace h:=QT h
 obtain⟨z25,z26,s27,s28,s29,l30,l31,z32,hr,h⟩:=h
 first | refine .inr (.inl ⟨[],?_⟩) | refine .inl ⟨[],?_⟩
 try cbv
 refine AU hM hI ((ih _ (by omega)) hr) rfl ?_
 clear hr
 try cbv
 refine⟨false,?_⟩
 try cbv
 refine⟨true,?_⟩
 try cbv
 replace h:=DX h
 obtain⟨l33,hb,hz,h⟩:=h
 refine⟨false,?_⟩
 try cbv
 first | refine⟨rfl,(M.lock_iff _).2 hb,l33,hz,?_⟩ | refine⟨(M.lock_iff _).2 hb,l33,hz,?_⟩
 clear hb hz
 try cbv
 refine drawn ?_ ?_
 ·show _=true
  kernel_rfl
 try cbv
 replace h:=Aa h
 obtain⟨z34,hz,h⟩:=h
 refine⟨z34,hz,?_⟩
 clear hz
 try cbv
 exact BT (m2,(z34,l33)) [1,2,4,5,6] [.loc 0,.loc 32,.loc 96,.loc 416] 448 ⟨by omega,h⟩ (Nat.lt_succ_of_le (by omega)) (by cbv)
mutual
def II:Nat->LD->Bool->LD->Int->Option LD
 | 0,_,_,_,_=>none
 | n+1,l1,b2,l3,z4=>
  AB l1 fun z5=>(if z4<z5 then Jq n l1 b2 l3 z4 true else Jq n l1 b2 l3 z4 false)
def Jq:Nat->LD->Bool->LD->Int->Bool->Option LD
 | 0,_,_,_,_,_=>none
 | n+1,l1,b2,l3,z4,b6=>
  (if b6=true then Ae l1 z4 fun x7=>Af x7 fun z8 s9 s10 l11 z12 s13 l14 z15 s16 l17 l18 l19 l20 l21 z22=>Ae l1 z4 fun x23=>Af x23 fun z24 s25 s26 l27 z28 s29 l30 z31 s32 l33 l34 l35 l36 l37 z38=>Hp 16 ([]:LD) l27 fun l39=>Ae l1 z4 fun x40=>Af x40 fun z41 s42 s43 l44 z45 s46 l47 z48 s49 l50 l51 l52 l53 l54 z55=>bO3 (Z5 n z45 s46 l47) fun z56 s57 l58=>Ae l1 z4 fun x59=>Af x59 fun z60 s61 s62 l63 z64 s65 l66 z67 s68 l69 l70 l71 l72 l73 z74=>bO2 (gR n s68 l69) fun s75 l76=>IJ n l1 b2 l3 z4 z8 s9 s10 z15 z22 l39 z56 s57 l58 s75 l76 (0:Int) ([]:LD)else some l3)
def IJ:Nat->LD->Bool->LD->Int->Int->BA->BA->Int->Int->LD->Int->BA->LD->BA->LD->Int->LD->Option LD
 | 0,_,_,_,_,_,_,_,_,_,_,_,_,_,_,_,_,_=>none
 | n+1,l1,b2,l3,z4,z8,s9,s10,z15,z22,l39,z56,s57,l58,s75,l76,z77,l78=>
  Ae l1 z4 fun x79=>Af x79 fun z80 s81 s82 l83 z84 s85 l86 z87 s88 l89 l90 l91 l92 l93 z94=>AB l90 fun z95=>(if z77<z95 then Jr n l1 b2 l3 z4 z8 s9 s10 z15 z22 l39 z56 s57 l58 s75 l76 z77 l78 true else Jr n l1 b2 l3 z4 z8 s9 s10 z15 z22 l39 z56 s57 l58 s75 l76 z77 l78 false)
def Jr:Nat->LD->Bool->LD->Int->Int->BA->BA->Int->Int->LD->Int->BA->LD->BA->LD->Int->LD->Bool->Option LD
 | 0,_,_,_,_,_,_,_,_,_,_,_,_,_,_,_,_,_,_=>none
 | n+1,l1,b2,l3,z4,z8,s9,s10,z15,z22,l39,z56,s57,l58,s75,l76,z77,l78,b96=>
  (if b96=true then Ae l1 z4 fun x97=>Af x97 fun z98 s99 s100 l101 z102 s103 l104 z105 s106 l107 l108 l109 l110 l111 z112=>Ae l108 z77 fun x113=>Ao x113 fun z114 z115 s116 s117 s118 l119 l120 z121=>bO8 (bW n z114 z115 s116 s117 s118 l119 l120 z121 b2) fun z122 z123 s124 s125 s126 l127 l128 z129=>Hp 120 l78 ([.agg [.int .u8 z122,.int .i64 z123,.str s124,.str s125,.str s126,.list false 1 l127,.list true 8 l128,.int .i64 z129]]) fun l130=>AE (IntKind.wrap .i64 (z77+1)) fun z131=>IJ n l1 b2 l3 z4 z8 s9 s10 z15 z22 l39 z56 s57 l58 s75 l76 z131 l130 else Ae l1 z4 fun x132=>Af x132 fun z133 s134 s135 l136 z137 s138 l139 z140 s141 l142 l143 l144 l145 l146 z147=>bO1 (Z6 n l144 b2) fun l148=>Ae l1 z4 fun x149=>Af x149 fun z150 s151 s152 l153 z154 s155 l156 z157 s158 l159 l160 l161 l162 l163 z164=>bO1 (Z6 n l162 b2) fun l165=>IK n l1 b2 l3 z4 z8 s9 s10 z15 z22 l39 z56 s57 l58 s75 l76 l78 l148 l165 (0:Int) ([]:LD))
def IK:Nat->LD->Bool->LD->Int->Int->BA->BA->Int->Int->LD->Int->BA->LD->BA->LD->LD->LD->LD->Int->LD->Option LD
 | 0,_,_,_,_,_,_,_,_,_,_,_,_,_,_,_,_,_,_,_,_=>none
 | n+1,l1,b2,l3,z4,z8,s9,s10,z15,z22,l39,z56,s57,l58,s75,l76,l78,l148,l165,z166,l167=>
  Ae l1 z4 fun x168=>Af x168 fun z169 s170 s171 l172 z173 s174 l175 z176 s177 l178 l179 l180 l181 l182 z183=>AB l182 fun z184=>(if z166<z184 then Js n l1 b2 l3 z4 z8 s9 s10 z15 z22 l39 z56 s57 l58 s75 l76 l78 l148 l165 z166 l167 true else Js n l1 b2 l3 z4 z8 s9 s10 z15 z22 l39 z56 s57 l58 s75 l76 l78 l148 l165 z166 l167 false)
def Js:Nat->LD->Bool->LD->Int->Int->BA->BA->Int->Int->LD->Int->BA->LD->BA->LD->LD->LD->LD->Int->LD->Bool->Option LD
 | 0,_,_,_,_,_,_,_,_,_,_,_,_,_,_,_,_,_,_,_,_,_=>none
 | n+1,l1,b2,l3,z4,z8,s9,s10,z15,z22,l39,z56,s57,l58,s75,l76,l78,l148,l165,z166,l167,b185=>
  (if b185=true then Ae l1 z4 fun x186=>Af x186 fun z187 s188 s189 l190 z191 s192 l193 z194 s195 l196 l197 l198 l199 l200 z201=>Ae l200 z166 fun x202=>Be x202 fun s203 s204 l205=>bO1 (Z6 n l205 b2) fun l206=>Hp 56 l167 ([.agg [.str s203,.str s204,.list true 15 l206]]) fun l207=>AE (IntKind.wrap .i64 (z166+1)) fun z208=>IK n l1 b2 l3 z4 z8 s9 s10 z15 z22 l39 z56 s57 l58 s75 l76 l78 l148 l165 z208 l207 else AI (!b2) fun b209=>(if b209=true then Jt n l1 b2 l3 z4 z8 s9 s10 z15 l39 z56 s57 l58 s75 l76 l78 l148 l165 l167 (0:Int)else Jt n l1 b2 l3 z4 z8 s9 s10 z15 l39 z56 s57 l58 s75 l76 l78 l148 l165 l167 z22))
def Jt:Nat->LD->Bool->LD->Int->Int->BA->BA->Int->LD->Int->BA->LD->BA->LD->LD->LD->LD->LD->Int->Option LD
 | 0,_,_,_,_,_,_,_,_,_,_,_,_,_,_,_,_,_,_,_=>none
 | n+1,l1,b2,l3,z4,z8,s9,s10,z15,l39,z56,s57,l58,s75,l76,l78,l148,l165,l167,z210=>
  Hp 264 l3 ([.agg [.int .u8 z8,.str s9,.str s10,.list false 1 l39,.int .u8 z56,.str s57,.list true 3 l58,.int .i64 z15,.str s75,.list false 1 l76,.list true 8 l78,.list true 15 l148,.list true 15 l165,.list true 3 l167,.int .i64 z210]]) fun l211=>AE (IntKind.wrap .i64 (z4+1)) fun z212=>II n l1 b2 l211 z212
def Z6:Nat->LD->Bool->Option LD
 | 0,_,_=>none
 | n+1,l1,b2=>
  II n l1 b2 ([]:LD) (0:Int)
end
theorem zF (n:Nat):∀⦃l1 b2 r1⦄,Z6 n l1 b2=some r1->
    BB Tryz.prog inv 33 [.d (.list true 15 l1),.d (.bool b2)] [] (.v (.d (.list true 15 r1))) [] []:=by
 induction n using Nat.strongRecOn with | _ n ih=>
 obtain _ | n:=n
 ·intro l1 b2 r1 h
  cases (show (none:Option _)=some _ from h)
 intro l1 b2 r1 h
 rw[Z6]at h
 refine BB.of BU BK Ht Tryz.func33 rfl (by kernel_rfl) rfl rfl rfl (fun M hM hI=>?_)
 try cbv
 refine AD ?_
 try cbv
 refine AD ?_
 try cbv
 refine AD ?_
 try cbv
 refine AD ?_
 try cbv
 refine Dv (T:=Nat×LD×Int) [.slot 5 true 15 50] [0,1,4,5,6] [.loc 96] 128 (fun t=>⟨[sT 0 15 l1,sB 1 b2,(4,.v (.c (.nils true 15))),(5,.v (.c (.lst (.loc 96) true 15 t.2.1))),sI 6 t.2.2],[(.loc 96,.tok t.2.1.length 15 50)],128⟩)
   (fun t=>t.1<=n/\II t.1 l1 b2 t.2.1 t.2.2=some r1) (fun t=>t.1) (n,(([]:LD),(0:Int))) ⟨Nat.le_refl _,h⟩ (by cbv) ?_
 clear h
 rintro⟨m1,l3,z4⟩ ⟨hm1,h⟩
 replace hm1:m1<=n:=hm1
 obtain _ | m1:=m1
 ·replace h:II 0 l1 b2 l3 z4=some r1:=h
  rw[II]at h
  cases h
 replace h:II (m1+1) l1 b2 l3 z4=some r1:=h
 rw[II]at h
 try cbv
 refine AD ?_
 try cbv
 refine AJ 14 [0,1,4,5,6,14] [.loc 96] 256 (fun m b=>m<=m1/\Jq m l1 b2 l3 z4 b=some r1) ?_ ?_
 ·try cbv
  replace h:=BQ M h
  obtain⟨z5,hz,h⟩:=h
  refine⟨z5,hz,?_⟩
  clear hz
  try cbv
  refine B1 (fun e=>?_) (fun e=>?_)
  ·replace h:=Ag e h
   clear e
   try cbv
   exact AA (m1,true) [0,1,4,5,6,14] [.loc 96] 256 ⟨by omega,h⟩ (by cbv)
  replace h:=Ah (Int.not_lt.2 e) h
  clear e
  try cbv
  exact AA (m1,false) [0,1,4,5,6,14] [.loc 96] 256 ⟨by omega,h⟩ (by cbv)
 clear h
 rintro⟨m2,b6⟩ ⟨hm2,h⟩
 try cbv
 replace hm2:m2<=m1:=hm2
 obtain _ | m2:=m2
 ·replace h:Jq 0 l1 b2 l3 z4 b6=some r1:=h
  rw[Jq]at h
  cases h
 replace h:Jq (m2+1) l1 b2 l3 z4 b6=some r1:=h
 rw[Jq]at h
 try cbv
 cases b6
 ·replace h:=Bz h
  try cbv
  refine AD ?_
  try cbv
  obtain rfl:=Option.some.inj h
  refine AZ ?_
  try cbv
  exact⟨[],by trivial⟩
 replace h:=Bx h
 try cbv
 refine AD ?_
 try cbv
 refine AD ?_
 try cbv
 replace h:=Az h
 obtain⟨x7,⟨hx0,hx⟩,h⟩:=h
 refine⟨x7,hx0,hx,?_⟩
 clear hx0 hx
 replace h:=Bb h
 obtain⟨z8,s9,s10,l11,z12,s13,l14,z15,s16,l17,l18,l19,l20,l21,z22,rfl,h⟩:=h
 try cbv
 refine AD ?_
 try cbv
 refine AD ?_
 try cbv
 replace h:=Az h
 obtain⟨x23,⟨hx0,hx⟩,h⟩:=h
 refine⟨x23,hx0,hx,?_⟩
 clear hx0 hx
 replace h:=Bb h
 obtain⟨z24,s25,s26,l27,z28,s29,l30,z31,s32,l33,l34,l35,l36,l37,z38,rfl,h⟩:=h
 try cbv
 replace h:=DX h
 obtain⟨l39,hb,hz,h⟩:=h
 refine⟨false,?_⟩
 try cbv
 refine⟨(M.lock_iff _).2 hb,l39,hz,true,.inl rfl,?_⟩
 clear hb hz
 try cbv
 refine drawn ?_ ?_
 ·show _=true
  kernel_rfl
 try cbv
 refine AD ?_
 try cbv
 replace h:=Az h
 obtain⟨x40,⟨hx0,hx⟩,h⟩:=h
 refine⟨x40,hx0,hx,?_⟩
 clear hx0 hx
 replace h:=Bb h
 obtain⟨z41,s42,s43,l44,z45,s46,l47,z48,s49,l50,l51,l52,l53,l54,z55,rfl,h⟩:=h
 try cbv
 replace h:=Lq h
 obtain⟨z56,s57,l58,hr,h⟩:=h
 first | refine .inr (.inl ⟨[],?_⟩) | refine .inl ⟨[],?_⟩
 try cbv
 refine AU hM hI (rE _ hr) rfl ?_
 clear hr
 try cbv
 replace h:=Az h
 obtain⟨x59,⟨hx0,hx⟩,h⟩:=h
 refine⟨x59,hx0,hx,?_⟩
 clear hx0 hx
 replace h:=Bb h
 obtain⟨z60,s61,s62,l63,z64,s65,l66,z67,s68,l69,l70,l71,l72,l73,z74,rfl,h⟩:=h
 try cbv
 replace h:=JC h
 obtain⟨s75,l76,hr,h⟩:=h
 first | refine .inr (.inl ⟨[],?_⟩) | refine .inl ⟨[],?_⟩
 try cbv
 refine AU hM hI (uE _ hr) rfl ?_
 clear hr
 try cbv
 refine drawn ?_ ?_
 ·show _=true
  kernel_rfl
 try cbv
 refine AD ?_
 try cbv
 refine AD ?_
 try cbv
 refine Dv (T:=Nat×Int×LD) [.cell (.loc 384) 10 true 8 39] [0,1,4,5,6,7,8] [.loc 96,.loc 384,.loc 864,.loc 1504] 1536 (fun t=>⟨[sT 0 15 l1,sB 1 b2,(4,.v (.c (.nils true 15))),(5,.v (.c (.lst (.loc 96) true 15 l3))),sI 6 z4,sL 7 384,sI 8 t.2.1],[(.loc 96,.tok l3.length 15 50),(.loc 384,.cells [.d (.int .u8 z8),.d (.str s9),.d (.str s10),.lst (.loc 864) false 1 l39,.d (.int .u8 z56),.d (.str s57),.d (.list true 3 l58),.d (.int .i64 z15),.d (.str s75),.d (.list false 1 l76),.lst (.loc 1504) true 8 t.2.2,.d (.list true 15 l19),.d (.list true 15 l20),.nils true 3,.d (.int .i64 z22)]),(.loc 864,.tok l39.length 1 9),(.loc 1504,.tok t.2.2.length 8 39)],1536⟩)
   (fun t=>t.1<=m2/\IJ t.1 l1 b2 l3 z4 z8 s9 s10 z15 z22 l39 z56 s57 l58 s75 l76 t.2.1 t.2.2=some r1) (fun t=>t.1) (m2,((0:Int),([]:LD))) ⟨Nat.le_refl _,h⟩ (by cbv) ?_
 clear h
 rintro⟨m3,z77,l78⟩ ⟨hm3,h⟩
 replace hm3:m3<=m2:=hm3
 obtain _ | m3:=m3
 ·replace h:IJ 0 l1 b2 l3 z4 z8 s9 s10 z15 z22 l39 z56 s57 l58 s75 l76 z77 l78=some r1:=h
  rw[IJ]at h
  cases h
 replace h:IJ (m3+1) l1 b2 l3 z4 z8 s9 s10 z15 z22 l39 z56 s57 l58 s75 l76 z77 l78=some r1:=h
 rw[IJ]at h
 try cbv
 refine AD ?_
 try cbv
 refine AJ 54 [0,1,4,5,6,7,8,54] [.loc 96,.loc 384,.loc 864,.loc 1504] 1792 (fun m b=>m<=m3/\Jr m l1 b2 l3 z4 z8 s9 s10 z15 z22 l39 z56 s57 l58 s75 l76 z77 l78 b=some r1) ?_ ?_
 ·try cbv
  replace h:=Az h
  obtain⟨x79,⟨hx0,hx⟩,h⟩:=h
  refine⟨x79,hx0,hx,?_⟩
  clear hx0 hx
  replace h:=Bb h
  obtain⟨z80,s81,s82,l83,z84,s85,l86,z87,s88,l89,l90,l91,l92,l93,z94,rfl,h⟩:=h
  try cbv
  replace h:=BQ M h
  obtain⟨z95,hz,h⟩:=h
  refine⟨z95,hz,?_⟩
  clear hz
  try cbv
  refine B1 (fun e=>?_) (fun e=>?_)
  ·replace h:=Ag e h
   clear e
   try cbv
   exact AA (m3,true) [0,1,4,5,6,7,8,54] [.loc 96,.loc 384,.loc 864,.loc 1504] 1792 ⟨by omega,h⟩ (by cbv)
  replace h:=Ah (Int.not_lt.2 e) h
  clear e
  try cbv
  exact AA (m3,false) [0,1,4,5,6,7,8,54] [.loc 96,.loc 384,.loc 864,.loc 1504] 1792 ⟨by omega,h⟩ (by cbv)
 clear h
 rintro⟨m4,b96⟩ ⟨hm4,h⟩
 try cbv
 replace hm4:m4<=m3:=hm4
 obtain _ | m4:=m4
 ·replace h:Jr 0 l1 b2 l3 z4 z8 s9 s10 z15 z22 l39 z56 s57 l58 s75 l76 z77 l78 b96=some r1:=h
  rw[Jr]at h
  cases h
 replace h:Jr (m4+1) l1 b2 l3 z4 z8 s9 s10 z15 z22 l39 z56 s57 l58 s75 l76 z77 l78 b96=some r1:=h
 rw[Jr]at h
 try cbv
 cases b96
 rotate_left
 ·replace h:=Bx h
  try cbv
  refine AD ?_
  try cbv
  replace h:=Az h
  obtain⟨x97,⟨hx0,hx⟩,h⟩:=h
  refine⟨x97,hx0,hx,?_⟩
  clear hx0 hx
  replace h:=Bb h
  obtain⟨z98,s99,s100,l101,z102,s103,l104,z105,s106,l107,l108,l109,l110,l111,z112,rfl,h⟩:=h
  try cbv
  replace h:=Az h
  obtain⟨x113,⟨hx0,hx⟩,h⟩:=h
  refine⟨x113,hx0,hx,?_⟩
  clear hx0 hx
  replace h:=Ei h
  obtain⟨z114,z115,s116,s117,s118,l119,l120,z121,rfl,h⟩:=h
  try cbv
  replace h:=QT h
  obtain⟨z122,z123,s124,s125,s126,l127,l128,z129,hr,h⟩:=h
  first | refine .inr (.inl ⟨[],?_⟩) | refine .inl ⟨[],?_⟩
  try cbv
  refine AU hM hI (uF _ hr) rfl ?_
  clear hr
  try cbv
  refine⟨false,?_⟩
  try cbv
  refine⟨true,?_⟩
  try cbv
  replace h:=DX h
  obtain⟨l130,hb,hz,h⟩:=h
  refine⟨false,?_⟩
  try cbv
  first | refine⟨rfl,(M.lock_iff _).2 hb,l130,hz,?_⟩ | refine⟨(M.lock_iff _).2 hb,l130,hz,?_⟩
  clear hb hz
  try cbv
  refine drawn ?_ ?_
  ·show _=true
   kernel_rfl
  try cbv
  replace h:=Aa h
  obtain⟨z131,hz,h⟩:=h
  refine⟨z131,hz,?_⟩
  clear hz
  try cbv
  exact BT (m4,(z131,l130)) [0,1,4,5,6,7,8] [.loc 96,.loc 384,.loc 864,.loc 1504] 1536 ⟨by omega,h⟩ (Nat.lt_succ_of_le (by omega)) (by cbv)
 replace h:=Bz h
 try cbv
 refine AD ?_
 try cbv
 replace h:=Az h
 obtain⟨x132,⟨hx0,hx⟩,h⟩:=h
 refine⟨x132,hx0,hx,?_⟩
 clear hx0 hx
 replace h:=Bb h
 obtain⟨z133,s134,s135,l136,z137,s138,l139,z140,s141,l142,l143,l144,l145,l146,z147,rfl,h⟩:=h
 try cbv
 replace h:=Ai h
 obtain⟨l148,hr,h⟩:=h
 first | refine .inr (.inl ⟨[],?_⟩) | refine .inl ⟨[],?_⟩
 try cbv
 refine AU hM hI ((ih _ (by omega)) hr) rfl ?_
 clear hr
 try cbv
 replace h:=Az h
 obtain⟨x149,⟨hx0,hx⟩,h⟩:=h
 refine⟨x149,hx0,hx,?_⟩
 clear hx0 hx
 replace h:=Bb h
 obtain⟨z150,s151,s152,l153,z154,s155,l156,z157,s158,l159,l160,l161,l162,l163,z164,rfl,h⟩:=h
 try cbv
 replace h:=Ai h
 obtain⟨l165,hr,h⟩:=h
 first | refine .inr (.inl ⟨[],?_⟩) | refine .inl ⟨[],?_⟩
 try cbv
 refine AU hM hI ((ih _ (by omega)) hr) rfl ?_
 clear hr
 try cbv
 refine drawn ?_ ?_
 ·show _=true
  kernel_rfl
 try cbv
 refine AD ?_
 try cbv
 refine AD ?_
 try cbv
 refine Dv (T:=Nat×Int×LD) [.cell (.loc 384) 13 true 3 95] [0,1,4,5,6,7,8,9] [.loc 96,.loc 384,.loc 864,.loc 1504,.loc 2400] 2432 (fun t=>⟨[sT 0 15 l1,sB 1 b2,(4,.v (.c (.nils true 15))),(5,.v (.c (.lst (.loc 96) true 15 l3))),sI 6 z4,sL 7 384,sI 8 z77,sI 9 t.2.1],[(.loc 96,.tok l3.length 15 50),(.loc 384,.cells [.d (.int .u8 z8),.d (.str s9),.d (.str s10),.lst (.loc 864) false 1 l39,.d (.int .u8 z56),.d (.str s57),.d (.list true 3 l58),.d (.int .i64 z15),.d (.str s75),.d (.list false 1 l76),.lst (.loc 1504) true 8 l78,.d (.list true 15 l148),.d (.list true 15 l165),.lst (.loc 2400) true 3 t.2.2,.d (.int .i64 z22)]),(.loc 864,.tok l39.length 1 9),(.loc 1504,.tok l78.length 8 39),(.loc 2400,.tok t.2.2.length 3 95)],2432⟩)
   (fun t=>t.1<=m4/\IK t.1 l1 b2 l3 z4 z8 s9 s10 z15 z22 l39 z56 s57 l58 s75 l76 l78 l148 l165 t.2.1 t.2.2=some r1) (fun t=>t.1) (m4,((0:Int),([]:LD))) ⟨Nat.le_refl _,h⟩ (by cbv) ?_
 clear h
 rintro⟨m5,z166,l167⟩ ⟨hm5,h⟩
 replace hm5:m5<=m4:=hm5
 obtain _ | m5:=m5
 ·replace h:IK 0 l1 b2 l3 z4 z8 s9 s10 z15 z22 l39 z56 s57 l58 s75 l76 l78 l148 l165 z166 l167=some r1:=h
  rw[IK]at h
  cases h
 replace h:IK (m5+1) l1 b2 l3 z4 z8 s9 s10 z15 z22 l39 z56 s57 l58 s75 l76 l78 l148 l165 z166 l167=some r1:=h
 rw[IK]at h
 try cbv
 refine AD ?_
 try cbv
 refine AJ 95 [0,1,4,5,6,7,8,9,95] [.loc 96,.loc 384,.loc 864,.loc 1504,.loc 2400] 2688 (fun m b=>m<=m5/\Js m l1 b2 l3 z4 z8 s9 s10 z15 z22 l39 z56 s57 l58 s75 l76 l78 l148 l165 z166 l167 b=some r1) ?_ ?_
 ·try cbv
  replace h:=Az h
  obtain⟨x168,⟨hx0,hx⟩,h⟩:=h
  refine⟨x168,hx0,hx,?_⟩
  clear hx0 hx
  replace h:=Bb h
  obtain⟨z169,s170,s171,l172,z173,s174,l175,z176,s177,l178,l179,l180,l181,l182,z183,rfl,h⟩:=h
  try cbv
  replace h:=BQ M h
  obtain⟨z184,hz,h⟩:=h
  refine⟨z184,hz,?_⟩
  clear hz
  try cbv
  refine B1 (fun e=>?_) (fun e=>?_)
  ·replace h:=Ag e h
   clear e
   try cbv
   exact AA (m5,true) [0,1,4,5,6,7,8,9,95] [.loc 96,.loc 384,.loc 864,.loc 1504,.loc 2400] 2688 ⟨by omega,h⟩ (by cbv)
  replace h:=Ah (Int.not_lt.2 e) h
  clear e
  try cbv
  exact AA (m5,false) [0,1,4,5,6,7,8,9,95] [.loc 96,.loc 384,.loc 864,.loc 1504,.loc 2400] 2688 ⟨by omega,h⟩ (by cbv)
 clear h
 rintro⟨m6,b185⟩ ⟨hm6,h⟩
 try cbv
 replace hm6:m6<=m5:=hm6
 obtain _ | m6:=m6
 ·replace h:Js 0 l1 b2 l3 z4 z8 s9 s10 z15 z22 l39 z56 s57 l58 s75 l76 l78 l148 l165 z166 l167 b185=some r1:=h
  rw[Js]at h
  cases h
 replace h:Js (m6+1) l1 b2 l3 z4 z8 s9 s10 z15 z22 l39 z56 s57 l58 s75 l76 l78 l148 l165 z166 l167 b185=some r1:=h
 rw[Js]at h
 try cbv
 cases b185
 ·replace h:=Bz h
  try cbv
  refine CJ (T:=Nat×Int) (fun t=>⟨[sT 0 15 l1,sB 1 b2,(4,.v (.c (.nils true 15))),(5,.v (.c (.lst (.loc 96) true 15 l3))),sI 6 z4,sL 7 384,sI 8 z77,sI 9 z166],[(.loc 96,.tok l3.length 15 50),(.loc 384,.cells [.d (.int .u8 z8),.d (.str s9),.d (.str s10),.lst (.loc 864) false 1 l39,.d (.int .u8 z56),.d (.str s57),.d (.list true 3 l58),.d (.int .i64 z15),.d (.str s75),.d (.list false 1 l76),.lst (.loc 1504) true 8 l78,.d (.list true 15 l148),.d (.list true 15 l165),.lst (.loc 2400) true 3 l167,.d (.int .i64 t.2)]),(.loc 864,.tok l39.length 1 9),(.loc 1504,.tok l78.length 8 39),(.loc 2400,.tok l167.length 3 95)],2816⟩) (fun t=>t.1<=m6/\Jt t.1 l1 b2 l3 z4 z8 s9 s10 z15 l39 z56 s57 l58 s75 l76 l78 l148 l165 l167 t.2=some r1) ?_ ?_
  ·try cbv
   refine AD ?_
   try cbv
   replace h:=C5 h
   obtain⟨b209,hz,h⟩:=h
   refine⟨b209,D0 hz,?_⟩
   clear hz
   try cbv
   cases b209
   ·replace h:=Bz h
    try cbv
    exact AA (m6,z22) [0,1,4,5,6,7,8,9] [.loc 96,.loc 384,.loc 864,.loc 1504,.loc 2400] 2816 ⟨by omega,h⟩ (by cbv)
   replace h:=Bx h
   try cbv
   exact AA (m6,(0:Int)) [0,1,4,5,6,7,8,9] [.loc 96,.loc 384,.loc 864,.loc 1504,.loc 2400] 2816 ⟨by omega,h⟩ (by cbv)
  clear h
  rintro⟨m7,z210⟩ ⟨hm7,h⟩
  replace hm7:m7<=m6:=hm7
  obtain _ | m7:=m7
  ·replace h:Jt 0 l1 b2 l3 z4 z8 s9 s10 z15 l39 z56 s57 l58 s75 l76 l78 l148 l165 l167 z210=some r1:=h
   rw[Jt]at h
   cases h
  replace h:Jt (m7+1) l1 b2 l3 z4 z8 s9 s10 z15 l39 z56 s57 l58 s75 l76 l78 l148 l165 l167 z210=some r1:=h
  rw[Jt]at h
  try cbv
  refine⟨false,?_⟩
  try cbv
  refine⟨true,?_⟩
  try cbv
  replace h:=DX h
  obtain⟨l211,hb,hz,h⟩:=h
  refine⟨false,?_⟩
  try cbv
  first | refine⟨rfl,(M.lock_iff _).2 hb,l211,hz,?_⟩ | refine⟨(M.lock_iff _).2 hb,l211,hz,?_⟩
  clear hb hz
  try cbv
  replace h:=Aa h
  obtain⟨z212,hz,h⟩:=h
  refine⟨z212,hz,?_⟩
  clear hz
  try cbv
  exact BT (m7,(l211,z212)) [0,1,4,5,6] [.loc 96] 128 ⟨by omega,h⟩ (Nat.lt_succ_of_le (by omega)) (by cbv)
 replace h:=Bx h
 try cbv
 refine AD ?_
 try cbv
 refine AD ?_
 try cbv
 replace h:=Az h
 obtain⟨x186,⟨hx0,hx⟩,h⟩:=h
 refine⟨x186,hx0,hx,?_⟩
 clear hx0 hx
 replace h:=Bb h
 obtain⟨z187,s188,s189,l190,z191,s192,l193,z194,s195,l196,l197,l198,l199,l200,z201,rfl,h⟩:=h
 try cbv
 replace h:=Az h
 obtain⟨x202,⟨hx0,hx⟩,h⟩:=h
 refine⟨x202,hx0,hx,?_⟩
 clear hx0 hx
 replace h:=GD h
 obtain⟨s203,s204,l205,rfl,h⟩:=h
 try cbv
 refine AD ?_
 try cbv
 replace h:=Ai h
 obtain⟨l206,hr,h⟩:=h
 refine An rfl rfl ?_
 try cbv
 refine AU hM hI ((ih _ (by omega)) hr) rfl ?_
 clear hr
 try cbv
 refine⟨false,?_⟩
 try cbv
 refine⟨true,?_⟩
 try cbv
 replace h:=DX h
 obtain⟨l207,hb,hz,h⟩:=h
 refine⟨false,?_⟩
 try cbv
 first | refine⟨rfl,(M.lock_iff _).2 hb,l207,hz,?_⟩ | refine⟨(M.lock_iff _).2 hb,l207,hz,?_⟩
 clear hb hz
 try cbv
 replace h:=Aa h
 obtain⟨z208,hz,h⟩:=h
 refine⟨z208,hz,?_⟩
 clear hz
 try cbv
 exact BT (m6,(z208,l207)) [0,1,4,5,6,7,8,9] [.loc 96,.loc 384,.loc 864,.loc 1504,.loc 2400] 2432 ⟨by omega,h⟩ (Nat.lt_succ_of_le (by omega)) (by cbv)
mutual
def OB:Nat->LD->Bool->Int->LD->Option LD
 | 0,_,_,_,_=>none
 | n+1,l1,b2,z3,l4=>
  AB l1 fun z5=>(if z3<z5 then RK n l1 b2 z3 l4 true else RK n l1 b2 z3 l4 false)
def RK:Nat->LD->Bool->Int->LD->Bool->Option LD
 | 0,_,_,_,_,_=>none
 | n+1,l1,b2,z3,l4,b6=>
  (if b6=true then Ae l1 z3 fun x7=>Bd x7 fun z8 s9 l10 z11 s12 l13 l14 z15 z16 s17 s18 s19 l20 l21 z22 z23=>bO1 (mG n l10) fun l24=>bO3 (Z5 n z11 s12 l13) fun z25 s26 l27=>bO1 (Z6 n l14 b2) fun l28=>bO8 (bW n z15 z16 s17 s18 s19 l20 l21 z22 b2) fun z29 z30 s31 s32 s33 l34 l35 z36=>AI (!b2) fun b37=>(if b37=true then Tp n l1 b2 z3 l4 z8 s9 l24 z25 s26 l27 l28 z29 z30 s31 s32 s33 l34 l35 z36 (0:Int)else Tp n l1 b2 z3 l4 z8 s9 l24 z25 s26 l27 l28 z29 z30 s31 s32 s33 l34 l35 z36 z23)else some l4)
def Tp:Nat->LD->Bool->Int->LD->Int->BA->LD->Int->BA->LD->LD->Int->Int->BA->BA->BA->LD->LD->Int->Int->Option LD
 | 0,_,_,_,_,_,_,_,_,_,_,_,_,_,_,_,_,_,_,_,_=>none
 | n+1,l1,b2,z3,l4,z8,s9,l24,z25,s26,l27,l28,z29,z30,s31,s32,s33,l34,l35,z36,z38=>
  Hp 248 l4 ([.agg [.int .u8 z8,.str s9,.list true 4 l24,.int .u8 z25,.str s26,.list true 3 l27,.list true 15 l28,.int .u8 z29,.int .i64 z30,.str s31,.str s32,.str s33,.list false 1 l34,.list true 8 l35,.int .i64 z36,.int .i64 z38]]) fun l39=>AE (IntKind.wrap .i64 (z3+1)) fun z40=>OB n l1 b2 z40 l39
end
def F9 (n:Nat) (l1:LD) (b2:Bool):Option LD:=
 OB n l1 b2 (0:Int) ([]:LD)
theorem T9 (n:Nat):∀⦃l1 b2 r1⦄,F9 n l1 b2=some r1->
    BB Tryz.prog inv 9 [.d (.agg [.list true 16 l1]),.d (.bool b2)] [] (.v (.d (.agg [.list true 16 r1]))) [] []:=by
 intro l1 b2 r1 h
 unfold F9 at h
 refine BB.of BU BK Ht Tryz.func9 rfl (by kernel_rfl) rfl rfl rfl (fun M hM hI=>?_)
 try cbv
 refine AD ?_
 try cbv
 refine AD ?_
 try cbv
 refine AD ?_
 try cbv
 refine AD ?_
 try cbv
 refine Dv (T:=Nat×Int×LD) [.cell (.loc 64) 0 true 16 45] [1,2,4,5,6] [.loc 0,.loc 32,.loc 64,.loc 128] 160 (fun t=>⟨[sB 1 b2,sL 2 0,sL 4 32,sL 5 64,sI 6 t.2.1],[(.loc 0,.cells [.d (.list true 16 l1)]),(.loc 32,.cells [.nils true 16]),(.loc 64,.cells [.lst (.loc 128) true 16 t.2.2]),(.loc 128,.tok t.2.2.length 16 45)],160⟩)
   (fun t=>t.1<=n/\OB t.1 l1 b2 t.2.1 t.2.2=some r1) (fun t=>t.1) (n,((0:Int),([]:LD))) ⟨Nat.le_refl _,h⟩ (by cbv) ?_
 clear h
 rintro⟨m1,z3,l4⟩ ⟨hm1,h⟩
 replace hm1:m1<=n:=hm1
 obtain _ | m1:=m1
 ·replace h:OB 0 l1 b2 z3 l4=some r1:=h
  rw[OB]at h
  cases h
 replace h:OB (m1+1) l1 b2 z3 l4=some r1:=h
 rw[OB]at h
 try cbv
 refine AD ?_
 try cbv
 refine AJ 12 [1,2,4,5,6,12] [.loc 0,.loc 32,.loc 64,.loc 128] 320 (fun m b=>m<=m1/\RK m l1 b2 z3 l4 b=some r1) ?_ ?_
 ·try cbv
  replace h:=BQ M h
  obtain⟨z5,hz,h⟩:=h
  refine⟨z5,hz,?_⟩
  clear hz
  try cbv
  refine B1 (fun e=>?_) (fun e=>?_)
  ·replace h:=Ag e h
   clear e
   try cbv
   exact AA (m1,true) [1,2,4,5,6,12] [.loc 0,.loc 32,.loc 64,.loc 128] 320 ⟨by omega,h⟩ (by cbv)
  replace h:=Ah (Int.not_lt.2 e) h
  clear e
  try cbv
  exact AA (m1,false) [1,2,4,5,6,12] [.loc 0,.loc 32,.loc 64,.loc 128] 320 ⟨by omega,h⟩ (by cbv)
 clear h
 rintro⟨m2,b6⟩ ⟨hm2,h⟩
 try cbv
 replace hm2:m2<=m1:=hm2
 obtain _ | m2:=m2
 ·replace h:RK 0 l1 b2 z3 l4 b6=some r1:=h
  rw[RK]at h
  cases h
 replace h:RK (m2+1) l1 b2 z3 l4 b6=some r1:=h
 rw[RK]at h
 try cbv
 cases b6
 ·replace h:=Bz h
  try cbv
  refine AD ?_
  try cbv
  obtain rfl:=Option.some.inj h
  refine AZ ?_
  try cbv
  exact⟨[],by trivial⟩
 replace h:=Bx h
 try cbv
 refine AD ?_
 try cbv
 refine AD ?_
 try cbv
 replace h:=Az h
 obtain⟨x7,⟨hx0,hx⟩,h⟩:=h
 refine⟨x7,hx0,hx,?_⟩
 clear hx0 hx
 replace h:=Mu h
 obtain⟨z8,s9,l10,z11,s12,l13,l14,z15,z16,s17,s18,s19,l20,l21,z22,z23,rfl,h⟩:=h
 try cbv
 refine AD ?_
 try cbv
 replace h:=Ai h
 obtain⟨l24,hr,h⟩:=h
 first | refine .inr (.inl ⟨[],?_⟩) | refine .inl ⟨[],?_⟩
 try cbv
 refine AU hM hI (zE _ hr) rfl ?_
 clear hr
 try cbv
 replace h:=Lq h
 obtain⟨z25,s26,l27,hr,h⟩:=h
 first | refine .inr (.inl ⟨[],?_⟩) | refine .inl ⟨[],?_⟩
 try cbv
 refine AU hM hI (rE _ hr) rfl ?_
 clear hr
 try cbv
 refine drawn ?_ ?_
 ·show _=true
  kernel_rfl
 try cbv
 refine AD ?_
 try cbv
 replace h:=Ai h
 obtain⟨l28,hr,h⟩:=h
 first | refine .inr (.inl ⟨[],?_⟩) | refine .inl ⟨[],?_⟩
 try cbv
 refine AU hM hI (zF _ hr) rfl ?_
 clear hr
 try cbv
 replace h:=QT h
 obtain⟨z29,z30,s31,s32,s33,l34,l35,z36,hr,h⟩:=h
 first | refine .inr (.inl ⟨[],?_⟩) | refine .inl ⟨[],?_⟩
 try cbv
 refine AU hM hI (uF _ hr) rfl ?_
 clear hr
 try cbv
 refine drawn ?_ ?_
 ·show _=true
  kernel_rfl
 try cbv
 refine CJ (T:=Nat×Int) (fun t=>⟨[sB 1 b2,sL 2 0,sL 4 32,sL 5 64,sI 6 z3,sL 7 480],[(.loc 0,.cells [.d (.list true 16 l1)]),(.loc 32,.cells [.nils true 16]),(.loc 64,.cells [.lst (.loc 128) true 16 l4]),(.loc 128,.tok l4.length 16 45),(.loc 480,.cells [.d (.int .u8 z8),.d (.str s9),.d (.list true 4 l24),.d (.int .u8 z25),.d (.str s26),.d (.list true 3 l27),.d (.list true 15 l28),.d (.int .u8 z29),.d (.int .i64 z30),.d (.str s31),.d (.str s32),.d (.str s33),.d (.list false 1 l34),.d (.list true 8 l35),.d (.int .i64 z36),.d (.int .i64 t.2)])],1376⟩) (fun t=>t.1<=m2/\Tp t.1 l1 b2 z3 l4 z8 s9 l24 z25 s26 l27 l28 z29 z30 s31 s32 s33 l34 l35 z36 t.2=some r1) ?_ ?_
 ·try cbv
  refine AD ?_
  try cbv
  replace h:=C5 h
  obtain⟨b37,hz,h⟩:=h
  refine⟨b37,D0 hz,?_⟩
  clear hz
  try cbv
  cases b37
  ·replace h:=Bz h
   try cbv
   exact AA (m2,z23) [1,2,4,5,6,7] [.loc 0,.loc 32,.loc 64,.loc 128,.loc 480] 1376 ⟨by omega,h⟩ (by cbv)
  replace h:=Bx h
  try cbv
  exact AA (m2,(0:Int)) [1,2,4,5,6,7] [.loc 0,.loc 32,.loc 64,.loc 128,.loc 480] 1376 ⟨by omega,h⟩ (by cbv)
 clear h
 rintro⟨m3,z38⟩ ⟨hm3,h⟩
 replace hm3:m3<=m2:=hm3
 obtain _ | m3:=m3
 ·replace h:Tp 0 l1 b2 z3 l4 z8 s9 l24 z25 s26 l27 l28 z29 z30 s31 s32 s33 l34 l35 z36 z38=some r1:=h
  rw[Tp]at h
  cases h
 replace h:Tp (m3+1) l1 b2 z3 l4 z8 s9 l24 z25 s26 l27 l28 z29 z30 s31 s32 s33 l34 l35 z36 z38=some r1:=h
 rw[Tp]at h
 try cbv
 refine⟨false,?_⟩
 try cbv
 refine⟨true,?_⟩
 try cbv
 replace h:=DX h
 obtain⟨l39,hb,hz,h⟩:=h
 refine⟨false,?_⟩
 try cbv
 first | refine⟨rfl,(M.lock_iff _).2 hb,l39,hz,?_⟩ | refine⟨(M.lock_iff _).2 hb,l39,hz,?_⟩
 clear hb hz
 try cbv
 replace h:=Aa h
 obtain⟨z40,hz,h⟩:=h
 refine⟨z40,hz,?_⟩
 clear hz
 try cbv
 exact BT (m3,(z40,l39)) [1,2,4,5,6] [.loc 0,.loc 32,.loc 64,.loc 128] 160 ⟨by omega,h⟩ (Nat.lt_succ_of_le (by omega)) (by cbv)
noncomputable def c9:BW:=⟨9,[.agg [.q 16],.b],[],[⟨.one (.agg [.q 16]),[],[]⟩],LD,inferInstance,F9⟩
noncomputable def k9:Kz:=⟨c9,fun n=>Di fun l1 b2 p h w1 w2 w4 w3 l1 l2 e1 e2 e5 e3 xs e4=>by cases e1;cases e2;cases e4;cases e5;cases e3;exact T9 n h⟩
end Go.Proofs.YtjmofeakajdbiaaGreatDoor
end
