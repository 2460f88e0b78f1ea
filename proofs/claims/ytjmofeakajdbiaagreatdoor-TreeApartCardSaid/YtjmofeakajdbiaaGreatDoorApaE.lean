/- Part of a proof. No condition. (Part 5.) -/
import Derived.Test.YtjmofeakajdbiaaGreatDoorApaD
set_option linter.unusedVariables false
set_option linter.unusedSimpArgs false
set_option maxRecDepth 100000
set_option maxHeartbeats 40000000
set_option linter.unusedVariables false
noncomputable section
namespace Go.Proofs.YtjmofeakajdbiaaGreatDoor
open Go Go.AM
def U5 (n:Nat) (z1:Int) (s2:BA) (l3:LD) (z4:Int) (s5:BA) (l6:LD) (l7:LD) (z8:Int) (z9:Int) (s10:BA) (s11:BA) (s12:BA) (l13:LD) (l14:LD) (z15:Int) (z16:Int):Option (Int×BA×LD×Int×BA×LD×LD×Int×Int×BA×BA×BA×LD×LD):=
 bO1 (S2 n l3) fun l17=>bO3 (H4 n z4 s5 l6) fun z18 s19 l20=>bO1 (Lu n l7) fun l21=>bO7 (OM n z8 z9 s10 s11 s12 l13 l14 z15) fun z22 z23 s24 s25 s26 l27 l28=>bO0 (fM n z16) (some (z1,s2,l17,z18,s19,l20,l21,z22,z23,s24,s25,s26,l27,l28))
noncomputable def vG:BX:=⟨114,Tryz.f114,[.agg [.y,.str,.q 4,.y,.str,.q 3,.q 15,.y,.z,.str,.str,.str,.f 1,.q 8,.z,.z],.p (.ext 0) 0,.p (.ext 1) 0,.p (.ext 2) 0,.p (.ext 4) 0,.p (.ext 5) 0],[[.fn 112 [.ext 1]],[.fn 102 [.ext 1]],[.fn 110 [.ext 1,.ext 3,.ext 4,.ext 2,.ext 6,.ext 5]],[.fn 104 []],[.fn 106 [.ext 3,.ext 4,.ext 5]],[.fn 58 []],[.fn 108 [.ext 2]]],⟨.one (.agg [.y,.str,.q 4,.y,.str,.q 3,.q 15,.y,.z,.str,.str,.str,.f 1,.q 8,.k 0,.k 0]),[[.fn 112 [.ext 1]],[.fn 102 [.ext 1]],[.fn 110 [.ext 1,.ext 3,.ext 4,.ext 2,.ext 6,.ext 5]],[.fn 104 []],[.fn 106 [.ext 3,.ext 4,.ext 5]],[.fn 58 []],[.fn 108 [.ext 2]]],[]⟩,Int×BA×LD×Int×BA×LD×LD×Int×Int×BA×BA×BA×LD×LD,inferInstance,U5,[]⟩
noncomputable def vH:Kz:=sg vG [vB,yI,jE,vF,nY] Tryz.func114 (by kernel_rfl) (by kernel_rfl) (by kernel_rfl)
theorem vI (n:Nat):∀⦃z1 s2 l3 z4 s5 l6 l7 z8 z9 s10 s11 s12 l13 l14 z15 z16 r1 r2 r3 r4 r5 r6 r7 r8 r9 r10 r11 r12 r13 r14⦄,U5 n z1 s2 l3 z4 s5 l6 l7 z8 z9 s10 s11 s12 l13 l14 z15 z16=some (r1,r2,r3,r4,r5,r6,r7,r8,r9,r10,r11,r12,r13,r14)->
  Ah Tryz.prog inv 114 [.d (.agg [.int .u8 z1,.str s2,.list true 4 l3,.int .u8 z4,.str s5,.list true 3 l6,.list true 15 l7,.int .u8 z8,.int .i64 z9,.str s10,.str s11,.str s12,.list false 1 l13,.list true 8 l14,.int .i64 z15,.int .i64 z16]),.c (.ptr (.ext 0) 0),.c (.ptr (.ext 1) 0),.c (.ptr (.ext 2) 0),.c (.ptr (.ext 4) 0),.c (.ptr (.ext 5) 0)] [.cells [.fn 112 [.ext 1]],.cells [.fn 102 [.ext 1]],.cells [.fn 110 [.ext 1,.ext 3,.ext 4,.ext 2,.ext 6,.ext 5]],.cells [.fn 104 []],.cells [.fn 106 [.ext 3,.ext 4,.ext 5]],.cells [.fn 58 []],.cells [.fn 108 [.ext 2]]] (.v (.d (.agg [.int .u8 r1,.str r2,.list true 4 r3,.int .u8 r4,.str r5,.list true 3 r6,.list true 15 r7,.int .u8 r8,.int .i64 r9,.str r10,.str r11,.str r12,.list false 1 r13,.list true 8 r14,.int .i64 0,.int .i64 0]))) [.cells [.fn 112 [.ext 1]],.cells [.fn 102 [.ext 1]],.cells [.fn 110 [.ext 1,.ext 3,.ext 4,.ext 2,.ext 6,.ext 5]],.cells [.fn 104 []],.cells [.fn 106 [.ext 3,.ext 4,.ext 5]],.cells [.fn 58 []],.cells [.fn 108 [.ext 2]]] []:=fun z1 s2 l3 z4 s5 l6 l7 z8 z9 s10 s11 s12 l13 l14 z15 z16 r1 r2 r3 r4 r5 r6 r7 r8 r9 r10 r11 r12 r13 r14 h=>vH.ok n [.I z1,.S s2,.L l3,.I z4,.S s5,.L l6,.L l7,.I z8,.I z9,.S s10,.S s11,.S s12,.L l13,.L l14,.I z15,.I z16] _ h _ _ _ _ _ _ rfl rfl rfl rfl _ rfl
mutual
def EX:Nat->LD->Int->LD->Int->Option LD
 | 0,_,_,_,_=>none
 | n+1,l1,z2,l3,z4=>
  (if z4<z2 then FM n l1 z2 l3 z4 true else FM n l1 z2 l3 z4 false)
def FM:Nat->LD->Int->LD->Int->Bool->Option LD
 | 0,_,_,_,_,_=>none
 | n+1,l1,z2,l3,z4,b5=>
  (if b5=true then Ap l1 z4 fun x6=>BU x6 fun z7 s8 l9 z10 s11 l12 l13 z14 z15 s16 s17 s18 l19 l20 z21 z22=>bO14 (U5 n z7 s8 l9 z10 s11 l12 l13 z14 z15 s16 s17 s18 l19 l20 z21 z22) fun z23 s24 l25 z26 s27 l28 l29 z30 z31 s32 s33 s34 l35 l36=>Dc 248 l3 ([.agg [.int .u8 z23,.str s24,.list true 4 l25,.int .u8 z26,.str s27,.list true 3 l28,.list true 15 l29,.int .u8 z30,.int .i64 z31,.str s32,.str s33,.str s34,.list false 1 l35,.list true 8 l36,.int .i64 0,.int .i64 0]]) fun l37=>AJ (IntKind.wrap .i64 (z4+1)) fun z38=>EX n l1 z2 l37 z38 else some l3)
end
def S3 (n:Nat) (l1:LD):Option LD:=
 AE l1 fun z2=>EX n l1 z2 ([]:LD) (0:Int)
theorem vJ (n:Nat):∀⦃l1 r1⦄,S3 n l1=some r1->
    Ah Tryz.prog inv 113 [.d (.list true 16 l1),.c (.fn 114 [.ext 0,.ext 1,.ext 2,.ext 4,.ext 5])] [.cells [.fn 112 [.ext 1]],.cells [.fn 102 [.ext 1]],.cells [.fn 110 [.ext 1,.ext 3,.ext 4,.ext 2,.ext 6,.ext 5]],.cells [.fn 104 []],.cells [.fn 106 [.ext 3,.ext 4,.ext 5]],.cells [.fn 58 []],.cells [.fn 108 [.ext 2]]] (.v (.d (.list true 16 r1))) [.cells [.fn 112 [.ext 1]],.cells [.fn 102 [.ext 1]],.cells [.fn 110 [.ext 1,.ext 3,.ext 4,.ext 2,.ext 6,.ext 5]],.cells [.fn 104 []],.cells [.fn 106 [.ext 3,.ext 4,.ext 5]],.cells [.fn 58 []],.cells [.fn 108 [.ext 2]]] []:=by
 intro l1 r1 h
 unfold S3 at h
 refine Ah.of BI Ao Fi Tryz.func113 rfl (by kernel_rfl) rfl rfl rfl (fun M hM hI=>?_)
 try cbv
 refine AB ?_
 try cbv
 refine AB ?_
 try cbv
 refine AB ?_
 try cbv
 refine AB ?_
 try cbv
 replace h:=BL M h
 obtain⟨z2,hz,h⟩:=h
 refine⟨z2,hz,?_⟩
 clear hz
 try cbv
 refine Cd (T:=Nat×LD×Int) [.slot 5 true 16 45] [1,4,5,8,9,10] [.ext 0,.ext 1,.ext 2,.ext 3,.ext 4,.ext 5,.ext 6,.loc 160] 192 (fun t=>⟨[(1,.v (.c (.fn 114 [.ext 0,.ext 1,.ext 2,.ext 4,.ext 5]))),(4,.v (.c (.nils true 16))),(5,.v (.c (.lst (.loc 160) true 16 t.2.1))),sT 8 16 l1,sI 9 z2,sI 10 t.2.2],[(.ext 0,.cells [.fn 112 [.ext 1]]),(.ext 1,.cells [.fn 102 [.ext 1]]),(.ext 2,.cells [.fn 110 [.ext 1,.ext 3,.ext 4,.ext 2,.ext 6,.ext 5]]),(.ext 3,.cells [.fn 104 []]),(.ext 4,.cells [.fn 106 [.ext 3,.ext 4,.ext 5]]),(.ext 5,.cells [.fn 58 []]),(.ext 6,.cells [.fn 108 [.ext 2]]),(.loc 160,.tok t.2.1.length 16 45)],192⟩)
   (fun t=>t.1<=n/\EX t.1 l1 z2 t.2.1 t.2.2=some r1) (fun t=>t.1) (n,(([]:LD),(0:Int))) ⟨Nat.le_refl _,h⟩ (by cbv) ?_
 clear h
 rintro⟨m1,l3,z4⟩ ⟨hm1,h⟩
 replace hm1:m1<=n:=hm1
 obtain _ | m1:=m1
 ·replace h:EX 0 l1 z2 l3 z4=some r1:=h
  rw[EX]at h
  cases h
 replace h:EX (m1+1) l1 z2 l3 z4=some r1:=h
 rw[EX]at h
 try cbv
 refine AK 11 [1,4,5,8,9,10,11] [.ext 0,.ext 1,.ext 2,.ext 3,.ext 4,.ext 5,.ext 6,.loc 160] 224 (fun m b=>m<=m1/\FM m l1 z2 l3 z4 b=some r1) ?_ ?_
 ·try cbv
  refine Bu (fun e=>?_) (fun e=>?_)
  ·replace h:=Aj e h
   clear e
   try cbv
   exact AA (m1,true) [1,4,5,8,9,10,11] [.ext 0,.ext 1,.ext 2,.ext 3,.ext 4,.ext 5,.ext 6,.loc 160] 224 ⟨by omega,h⟩ (by cbv)
  replace h:=Ak (Int.not_lt.2 e) h
  clear e
  try cbv
  exact AA (m1,false) [1,4,5,8,9,10,11] [.ext 0,.ext 1,.ext 2,.ext 3,.ext 4,.ext 5,.ext 6,.loc 160] 224 ⟨by omega,h⟩ (by cbv)
 clear h
 rintro⟨m2,b5⟩ ⟨hm2,h⟩
 try cbv
 replace hm2:m2<=m1:=hm2
 obtain _ | m2:=m2
 ·replace h:FM 0 l1 z2 l3 z4 b5=some r1:=h
  rw[FM]at h
  cases h
 replace h:FM (m2+1) l1 z2 l3 z4 b5=some r1:=h
 rw[FM]at h
 try cbv
 refine AB ?_
 try cbv
 cases b5
 ·replace h:=Bp h
  try cbv
  refine AB ?_
  try cbv
  obtain rfl:=Option.some.inj h
  refine AR ?_
  try cbv
  exact⟨[],rfl,rfl,⟨rfl,⟨rfl,⟨rfl,⟨rfl,⟨rfl,⟨rfl,⟨rfl,trivial⟩⟩⟩⟩⟩⟩⟩,trivial,trivial⟩
 replace h:=Bo h
 try cbv
 refine AB ?_
 try cbv
 refine AB ?_
 try cbv
 replace h:=BT h
 obtain⟨x6,⟨hx0,hx⟩,h⟩:=h
 refine⟨x6,hx0,hx,?_⟩
 clear hx0 hx
 replace h:=FD h
 obtain⟨z7,s8,l9,z10,s11,l12,l13,z14,z15,s16,s17,s18,l19,l20,z21,z22,rfl,h⟩:=h
 try cbv
 replace h:=SM h
 obtain⟨z23,s24,l25,z26,s27,l28,l29,z30,z31,s32,s33,s34,l35,l36,hr,h⟩:=h
 refine AZ rfl rfl ?_
 try cbv
 refine Al hM hI [.ext 0,.ext 1,.ext 2,.ext 3,.ext 4,.ext 5,.ext 6] (vI _ hr) rfl (by simp) ⟨rfl,⟨rfl,⟨rfl,⟨rfl,⟨rfl,⟨rfl,⟨rfl,trivial⟩⟩⟩⟩⟩⟩⟩ ⟨trivial,⟨trivial,⟨trivial,⟨trivial,⟨trivial,⟨trivial,⟨trivial,trivial⟩⟩⟩⟩⟩⟩⟩ (by simp) ?_
 clear hr
 try cbv
 refine⟨false,?_⟩
 try cbv
 refine⟨true,?_⟩
 try cbv
 replace h:=Ct h
 obtain⟨l37,hb,hz,h⟩:=h
 refine⟨false,?_⟩
 try cbv
 first | refine⟨rfl,(M.lock_iff _).2 hb,l37,hz,?_⟩ | refine⟨(M.lock_iff _).2 hb,l37,hz,?_⟩
 clear hb hz
 try cbv
 replace h:=Ac h
 obtain⟨z38,hz,h⟩:=h
 refine⟨z38,hz,?_⟩
 clear hz
 try cbv
 exact BP (m2,(l37,z38)) [1,4,5,8,9,10] [.ext 0,.ext 1,.ext 2,.ext 3,.ext 4,.ext 5,.ext 6,.loc 160] 192 ⟨by omega,h⟩ (Nat.lt_succ_of_le (by omega)) (by cbv)
noncomputable def vK:BQ:=⟨113,[.q 16,.one (.fn 114 [.ext 0,.ext 1,.ext 2,.ext 4,.ext 5])],[[.fn 112 [.ext 1]],[.fn 102 [.ext 1]],[.fn 110 [.ext 1,.ext 3,.ext 4,.ext 2,.ext 6,.ext 5]],[.fn 104 []],[.fn 106 [.ext 3,.ext 4,.ext 5]],[.fn 58 []],[.fn 108 [.ext 2]]],[⟨.one (.q 16),[[.fn 112 [.ext 1]],[.fn 102 [.ext 1]],[.fn 110 [.ext 1,.ext 3,.ext 4,.ext 2,.ext 6,.ext 5]],[.fn 104 []],[.fn 106 [.ext 3,.ext 4,.ext 5]],[.fn 58 []],[.fn 108 [.ext 2]]],[]⟩],LD,inferInstance,S3⟩
noncomputable def vL:Kz:=⟨vK,fun n=>Cm fun l1 p h w1 w2 w4 w3 l1 l2 e1 e2 e5 e3 xs e4=>by cases e1;cases e2;cases e4;cases e5;cases e3;exact vJ n h⟩
def rT (n:Nat) (l1:LD):Option LD:=
 bO1 (S3 n l1) fun l2=>some l2
noncomputable def X56:BX:=⟨56,Tryz.f56,[.agg [.q 16],.one (.fn 58 [])],[],⟨.one (.agg [.q 16]),[],[]⟩,LD,inferInstance,rT,[]⟩
noncomputable def k56:Kz:=sg X56 [vL] Tryz.func56 (by kernel_rfl) (by kernel_rfl) (by kernel_rfl)
def cK (n:Nat) (l1:LD):Option LD:=
 bO1 (rT n l1) fun l2=>some l2
noncomputable def X24:BX:=⟨24,Tryz.f24,[.agg [.q 16]],[],⟨.one (.agg [.q 16]),[],[]⟩,LD,inferInstance,cK,[]⟩
noncomputable def yK:Kz:=sg X24 [k56] Tryz.func24 (by kernel_rfl) (by kernel_rfl) (by kernel_rfl)
theorem T24 (n:Nat):∀⦃l1 r1⦄,cK n l1=some r1->
  Ah Tryz.prog inv 24 [.d (.agg [.list true 16 l1])] [] (.v (.d (.agg [.list true 16 r1]))) [] []:=fun l1 r1 h=>yK.ok n [.L l1] _ h _ _ _ _ _ _ rfl rfl rfl rfl _ rfl
end Go.Proofs.YtjmofeakajdbiaaGreatDoor
end
set_option linter.unusedVariables false
noncomputable section
namespace Go.Proofs.YtjmofeakajdbiaaGreatDoor
open Go Go.AM
theorem D7 {γ:Type}{b:Nat}{L M:List D}{k:List D→Option γ}(h:L.length+M.length≤10000) (hb:b≤1000):Dc b L M k=k (L++M):=by
 have hM:10000<maxLen:=by decide
 have h2:(L.length+M.length)*b≤10000*1000:=Nat.mul_le_mul h hb
 unfold Dc
 rw[if_pos ⟨by omega,by omega⟩]
theorem Ev.nilF {l:List D}{A B:Nat→Option (List D)}{r:List D}(hB:Ev B r) (hA:l=[]→Ev A r):Ev (fun n=>nilF l (A n) (B n)) r:=by
 by_cases e:l=[]
 ·obtain⟨N,h1⟩:=hA e
  obtain⟨M,h2⟩:=hB
  refine⟨N+M,fun n hn=>?_⟩
  show AM.nilF l (A n) (B n)=some r
  rw[QR (fun _=>by rw[h1 n (by omega),h2 n (by omega)])]
  exact h2 n (by omega)
 ·obtain⟨M,h2⟩:=hB
  refine⟨M,fun n hn=>?_⟩
  show AM.nilF l (A n) (B n)=some r
  rw[QR (fun h=>absurd h e)]
  exact h2 n hn
theorem NW {l:List D}(h:AD AI 9 l) (hl:l.length≤4000):Ev (fun n=>Q8 n l) l:=by
 have a:Ev (fun n=>DA n l false) l:=by
  refine .succ ?_
  simp only[DA,Bool.false_eq_true,if_false]
  have ha:∀{γ:Type} (k:List D→Option γ),Dc 16 ([]:List D) l k=k l:=fun k=>D7 (by simp only[List.length_nil];omega) (by omega)
  simp only[ha]
  exact .ret
 unfold Q8
 refine Ev.nilF a (fun e=>?_)
 subst e
 exact .succ (by simp only[DA,if_true];exact .ret)
theorem J2 {l:List D}(h:AD AI 9 l) (hl:l.length≤4000) (s:ByteArray):Ev (fun n=>Q9 n s l) (s,l):=by
 unfold Q9
 exact Ev.bO1 (NW h hl) .ret
theorem HM {l:List D}{i:Nat}{x:D}(h:l[i]?=some x):l.take (i+1)=l.take i++[x]:=by rw[List.take_add_one,h];rfl
theorem ZN (l:List D):AD AI 33 l→OJ l→Ev (fun n=>XH n l) l:=by
 refine Ba (P:=fun l=>AD AI 33 l→OJ l→Ev (fun n=>XH n l) l) (fun l ih h hs=>?_) l
 have hl:=hs.len
 ·have loop:∀i:Nat,i≤l.length→Ev (fun n=>Fq n l (l.length:Int) (l.take i) (i:Int)) l:=by
   refine down l.length ?_ ?_
   ·refine .succ ?_
    simp only[Fq,Int.lt_irrefl,if_false]
    refine .succ ?_
    simp only[Gd,Bool.false_eq_true,if_false,List.take_length]
    exact .ret
   ·intro i hi ihl
    obtain⟨x,hx,hm,hr⟩:=h.get hi
    obtain⟨a,s,m,rfl,w0,w1,w2⟩:=U4 hr
    have hc:=(ih m (Af (ag:=true) (sz:=3) hm (by simp)) w2 (hs.row hm))
    refine .succ ?_
    simp only[Fq,if_pos (Cn hi)]
    refine .succ ?_
    simp only[Gd,if_true,AH hx,Cf]
    refine Ev.bO3 (a1:=a) (a2:=s) (a3:=m) (.succ (by simp only[H4];exact Ev.bO1 hc .ret)) ?_
    have ha:∀{γ:Type} (k:List D→Option γ),Dc 48 (l.take i) [.agg [.int .u8 a,.str s,.list true 3 m]] k=k (l.take i++[.agg [.int .u8 a,.str s,.list true 3 m]]):=fun k=>D7 (by simp only[List.length_take,List.length_cons,List.length_nil];omega) (by omega)
    simp only[ha,AJ,AG hi h.1]
    rw[HM hx]at ihl
    exact ihl
  exact .succ (by simp only[XH,AE];exact loop 0 (Nat.zero_le _))
theorem IZ {Q:D→D→Prop}:∀l:List D,(∀x∈l,∃y,Q x y)→∃r:List D,r.length=l.length∧∀(j:Nat) (x:D),l[j]?=some x→∃y,r[j]?=some y∧Q x y
 | [],_=>⟨[],rfl,fun j x h=>by simp at h⟩
 | x::l,h=>by
  obtain⟨y,hy⟩:=h x (by simp)
  obtain⟨r,h1,h2⟩:=IZ l fun x hx=>h x (by simp[hx])
  refine⟨y::r,by simp[h1],fun j z hz=>?_⟩
  cases j with
  | zero=>simp at hz;subst hz;exact⟨y,rfl,hy⟩
  | succ j=>exact h2 j z (by simpa using hz)
theorem FO {e:Nat}{Q:D→D→Prop}{l r:List D}(h:AD AI e l) (h1:r.length=l.length) (h2:∀(j:Nat) (x:D),l[j]?=some x→∃y,r[j]?=some y∧Q x y) (hq:∀x y,x∈l→Q x y→DF AI e y):AD AI e r:=by
 refine⟨by rw[h1];exact h.1,fun y hy=>?_⟩
 obtain⟨j,hj⟩:=List.getElem?_of_mem hy
 have hlt:j<l.length:=by rw[←h1];exact (List.getElem?_eq_some_iff.1 hj).1
 obtain⟨y',e1,e2⟩:=h2 j l[j] (List.getElem?_eq_getElem hlt)
 rw[hj]at e1
 cases e1
 exact hq _ _ (List.getElem_mem hlt) e2
theorem GP {Q:D→D→Prop}{l r:List D}(h1:r.length=l.length) (h2:∀(j:Nat) (x:D),l[j]?=some x→∃y,r[j]?=some y∧Q x y) (hq:∀x y,x∈l→Q x y→y=x):r=l:=by
 refine List.ext_getElem? fun j=>?_
 cases hx:l[j]? with
 | none=>rw[List.getElem?_eq_none_iff]at hx ⊢;omega
 | some x=>
  obtain⟨y,e1,e2⟩:=h2 j x hx
  rw[e1,hq x y (List.mem_of_getElem? hx) e2]
def at_ (b:Bool) (z:Int):Int:=if b=true then z else 0
def QE (b:Bool) (x y:D):Prop:=∃(a0 a1:Int) (a2 a3 a4:ByteArray) (a5 a6:List D) (a7:Int) (m:List D),x= .agg [.int .u8 a0,.int .i64 a1,.str a2,.str a3,.str a4,.list false 1 a5,.list true 8 a6,.int .i64 a7]∧y= .agg [.int .u8 a0,.int .i64 a1,.str a2,.str a3,.str a4,.list false 1 a5,.list true 8 m,.int .i64 (at_ b a7)]∧(DF AI 39 y∧(b=false→Gc a6 m))∧(b=true→m=a6)∧
 (b=true→Ev (fun n=>H5 n a0 a1 a2 a3 a4 a5 a6 a7) (a0,a1,a2,a3,a4,a5,m,a7))∧(b=false→Ev (fun n=>OM n a0 a1 a2 a3 a4 a5 a6 a7) (a0,a1,a2,a3,a4,a5,m))
theorem fO {b:Bool}(hb:b=false) {l r:List D}(r1:r.length=l.length) (r2:∀(j:Nat) (x:D),l[j]?=some x→∃y,r[j]?=some y∧QE b x y):Gc l r:=
 J1 .nil (fun x y l r ⟨_,_,_,_,_,_,_,_,_,h1,h2,h3,_⟩ h=>by subst hb;rw[h1,h2];exact .cons (h3.2 rfl) h) r1 r2
theorem V6 (b:Bool) (l:List D):AD AI 39 l→MB l→∀x∈l,∃y,QE b x y:=by
 refine Ba (P:=fun l=>AD AI 39 l→MB l→∀x∈l,∃y,QE b x y) (fun l ih h hs=>?_) l
 intro x hm
 obtain⟨a0,a1,a2,a3,a4,a5,a6,a7,rfl,w0,w1,w2,w3,w4,w5,w6,w7⟩:=Jz (h.2 x hm)
 obtain⟨l5,s6⟩:=hs.row hm
 have hl:=s6.len
 obtain⟨r,r1,r2⟩:=IZ a6 (ih a6 (Af (ag:=true) (sz:=8) hm (by simp)) w6 s6)
 have rt:AD AI 39 r:=FO w6 r1 r2 fun x y _ ⟨_,_,_,_,_,_,_,_,_,_,_,h,_⟩=>h.1
 refine⟨_,a0,a1,a2,a3,a4,a5,a6,a7,r,rfl,rfl,⟨nX w0 w1 w2 w3 w4 w5 rt (by unfold at_;split;exact w7;rfl),fun hb=>fO hb r1 r2⟩,fun hb=>?_,fun hb=>?_,fun hb=>?_⟩
 ·subst hb
  exact GP r1 r2 fun x y _ ⟨_,_,_,_,_,_,_,_,m,h1,h2,_,h3,_⟩=>by rw[h1,h2,h3 rfl];rfl
 ·subst hb
  refine .succ ?_
  simp only[H5]
  refine Ev.bO2 (J2 w5 l5 a4) ?_
  have loop:∀i:Nat,i≤a6.length→Ev (fun n=>CJ n a6 (a6.length:Int) (r.take i) (i:Int)) r:=by
   refine down a6.length ?_ ?_
   ·refine .succ ?_
    simp only[CJ,Int.lt_irrefl,if_false]
    refine .succ ?_
    simp only[Cw,Bool.false_eq_true,if_false]
    rw[←r1,List.take_length]
    exact .ret
   ·intro i hi ihl
    obtain⟨x,hx,hm2,_⟩:=w6.get hi
    obtain⟨y,hy,b0,b1,b2,b3,b4,b5,b6,b7,m,rfl,rfl,_,_,q,_⟩:=r2 i x hx
    refine .succ ?_
    simp only[CJ,if_pos (Cn hi)]
    refine .succ ?_
    simp only[Cw,if_true,AH hx,BD]
    refine Ev.bO8 (q rfl) ?_
    have ha:∀{γ:Type} (v:D) (k:List D→Option γ),Dc 120 (r.take i) [v] k=k (r.take i++[v]):=fun v k=>D7 (by simp only[List.length_take,List.length_cons,List.length_nil];omega) (by omega)
    simp only[ha,AJ,AG hi w6.1]
    rw[HM hy]at ihl
    exact ihl
  refine Ev.bO1 (.succ (by simp only[H6,AE];exact loop 0 (Nat.zero_le _))) ?_
  exact Ev.bO1 (A:=fun n=>fL n a7) (.of fun n=>rfl) .ret
 ·subst hb
  refine .succ ?_
  simp only[OM]
  refine Ev.bO2 (J2 w5 l5 a4) ?_
  have loop:∀i:Nat,i≤a6.length→Ev (fun n=>D6 n a6 (a6.length:Int) (r.take i) (i:Int)) r:=by
   refine down a6.length ?_ ?_
   ·refine .succ ?_
    simp only[D6,Int.lt_irrefl,if_false]
    refine .succ ?_
    simp only[FL,Bool.false_eq_true,if_false]
    rw[←r1,List.take_length]
    exact .ret
   ·intro i hi ihl
    obtain⟨x,hx,hm2,_⟩:=w6.get hi
    obtain⟨y,hy,b0,b1,b2,b3,b4,b5,b6,b7,m,rfl,rfl,_,_,_,q⟩:=r2 i x hx
    refine .succ ?_
    simp only[D6,if_pos (Cn hi)]
    refine .succ ?_
    simp only[FL,if_true,AH hx,BD]
    refine Ev.bO7 (q rfl) ?_
    have ha:∀{γ:Type} (v:D) (k:List D→Option γ),Dc 120 (r.take i) [v] k=k (r.take i++[v]):=fun v k=>D7 (by simp only[List.length_take,List.length_cons,List.length_nil];omega) (by omega)
    simp only[ha,AJ,AG hi w6.1]
    rw[HM hy]at ihl
    exact ihl
  refine Ev.bO1 (.succ (by simp only[RB,AE];exact loop 0 (Nat.zero_le _))) ?_
  exact Ev.bO0 (A:=fun n=>fM n a7) (.of fun n=>rfl) .ret
end Go.Proofs.YtjmofeakajdbiaaGreatDoor
end
set_option linter.unusedVariables false
noncomputable section
namespace Go.Proofs.YtjmofeakajdbiaaGreatDoor
open Go Go.AM
def PS (b:Bool) (l r:List D):Prop:=r.length=l.length∧(AD AI 50 r∧(b=false→Fo l r))∧(b=true→r=l)∧(b=true→Ev (fun n=>FK n l) r)∧(b=false→Ev (fun n=>Lu n l) r)
def QA (b:Bool) (x y:D):Prop:=∃(t1 t2:ByteArray) (m m':List D),x= .agg [.str t1,.str t2,.list true 15 m]∧y= .agg [.str t1,.str t2,.list true 15 m']∧(DF AI 95 y∧(b=false→Fo m m'))∧(b=true→m'=m)∧(b=true→Ev (fun n=>FK n m) m')∧(b=false→Ev (fun n=>Lu n m) m')
def QS (b:Bool) (x y:D):Prop:=∃(a0:Int) (a1 a2:ByteArray) (a3:List D) (a4:Int) (a5:ByteArray) (a6:List D) (a7:Int) (a8:ByteArray) (a9 a10 a11 a12 a13:List D) (a14:Int) (e u v k:List D),x= .agg [.int .u8 a0,.str a1,.str a2,.list false 1 a3,.int .u8 a4,.str a5,.list true 3 a6,.int .i64 a7,.str a8,.list false 1 a9,.list true 8 a10,.list true 15 a11,.list true 15 a12,.list true 3 a13,.int .i64 a14]∧y= .agg [.int .u8 a0,.str a1,.str a2,.list false 1 a3,.int .u8 a4,.str a5,.list true 3 a6,.int .i64 a7,.str a8,.list false 1 a9,.list true 8 e,.list true 15 u,.list true 15 v,.list true 3 k,.int .i64 (at_ b a14)]∧(DF AI 50 y∧(b=false→Gc a10 e∧Fo a11 u∧Fo a12 v∧OL a13 k))∧(b=true→y=x)∧
 (b=true→Ev (fun n=>NU n a0 a1 a2 a3 a4 a5 a6 a7 a8 a9 a10 a11 a12 a13 a14) (a0,a1,a2,a3,a4,a5,a6,a7,a8,a9,e,u,v,k,a14))∧(b=false→Ev (fun n=>ZM n a0 a1 a2 a3 a4 a5 a6 a7 a8 a9 a10 a11 a12 a13 a14) (a0,a1,a2,a3,a4,a5,a6,a7,a8,a9,e,u,v,k))∧
 Sh a3 a6 a9 a10 a11 a12 a13∧AD AI 33 a6∧AD AI 39 a10∧AD AI 95 a13∧e.length=a10.length∧(∀(j:Nat) (x:D),a10[j]?=some x→∃y,e[j]?=some y∧QE b x y)∧k.length=a13.length∧(∀(j:Nat) (x:D),a13[j]?=some x→∃y,k[j]?=some y∧QA b x y)
theorem oC {b:Bool}(hb:b=false) {l r:List D}(r1:r.length=l.length) (r2:∀(j:Nat) (x:D),l[j]?=some x→∃y,r[j]?=some y∧QA b x y):OL l r:=
 J1 .nil (fun x y l r ⟨_,_,_,_,h1,h2,h3,_⟩ h=>by rw[h1,h2];exact .cons (h3.2 hb) h) r1 r2
theorem oD {b:Bool}(hb:b=false) {l r:List D}(r1:r.length=l.length) (r2:∀(j:Nat) (x:D),l[j]?=some x→∃y,r[j]?=some y∧QS b x y):Fo l r:=
 J1 .nil (fun x y l r ⟨_,_,_,_,_,_,_,_,_,_,_,_,_,_,_,_,_,_,_,h1,h2,h3,_⟩ h=>by subst hb;rw[h1,h2];exact .cons (h3.2 rfl).1 (h3.2 rfl).2.1 (h3.2 rfl).2.2.1 (h3.2 rfl).2.2.2 h) r1 r2
theorem jU (b:Bool) {l:List D}(h:AD AI 50 l) (hs:La l) (ih:∀m,SizeOf.sizeOf m<SizeOf.sizeOf l→AD AI 50 m→La m→∃r,PS b m r):∀x∈l,∃y,QS b x y:=by
 intro x hm
 obtain⟨a0,a1,a2,a3,a4,a5,a6,a7,a8,a9,a10,a11,a12,a13,a14,rfl,w0,w1,w2,w3,w4,w5,w6,w7,w8,w9,w10,w11,w12,w13,w14⟩:=Hx (h.2 x hm)
 have sh:=hs.sh hm
 obtain⟨g1,g2,g3,g4,g5,g6,g7,g8⟩:=id sh
 have gl:=g4.len
 obtain⟨e,e1,e2⟩:=IZ a10 (V6 b a10 w10 g4)
 have et:AD AI 39 e:=FO w10 e1 e2 fun x y _ ⟨_,_,_,_,_,_,_,_,_,_,_,h,_⟩=>h.1
 obtain⟨u,u1,u2,u3,u4,u5⟩:=ih a11 (Af (ag:=true) (sz:=15) hm (by simp)) w11 g5
 obtain⟨v,v1,v2,v3,v4,v5⟩:=ih a12 (Af (ag:=true) (sz:=15) hm (by simp)) w12 g6
 obtain⟨k,k1,k2⟩:=IZ (Q:=QA b) a13 (fun x hm2=>by
  obtain⟨t1,t2,m,rfl,z0,z1,z2⟩:=J0 (w13.2 x hm2)
  obtain⟨m',m1,m2,m3,m4,m5⟩:=ih m (Nat.lt_trans (Af (ag:=true) (sz:=15) hm2 (by simp)) (Af (ag:=true) (sz:=3) hm (by simp))) z2 (g8 t1 t2 m hm2)
  exact⟨_,t1,t2,m,m',rfl,rfl,⟨uM z0 z1 m2.1,m2.2⟩,m3,m4,m5⟩)
 have kt:AD AI 95 k:=FO w13 k1 k2 fun x y _ ⟨_,_,_,_,_,_,h,_⟩=>h.1
 have hy:DF AI 50 (.agg [.int .u8 a0,.str a1,.str a2,.list false 1 a3,.int .u8 a4,.str a5,.list true 3 a6,.int .i64 a7,.str a8,.list false 1 a9,.list true 8 e,.list true 15 u,.list true 15 v,.list true 3 k,.int .i64 (at_ b a14)]):=uK w0 w1 w2 w3 w4 w5 w6 w7 w8 w9 et u2.1 v2.1 kt (by unfold at_;split;exact w14;rfl)
 have ht:=(ZN a6 w6 g2)
 have h127:Ev (fun n=>H4 n a4 a5 a6) (a4,a5,a6):=.succ (by simp only[H4];exact Ev.bO1 ht .ret)
 refine⟨_,a0,a1,a2,a3,a4,a5,a6,a7,a8,a9,a10,a11,a12,a13,a14,e,u,v,k,rfl,rfl,⟨hy,fun hb=>⟨fO hb e1 e2,u2.2 hb,v2.2 hb,oC hb k1 k2⟩⟩,fun hb=>?_,fun hb=>?_,fun hb=>?_,sh,w6,w10,w13,e1,e2,k1,k2⟩
 ·subst hb
  have hee:e=a10:=GP e1 e2 fun x y _ ⟨_,_,_,_,_,_,_,_,m,h1,h2,_,h3,_⟩=>by rw[h1,h2,h3 rfl];rfl
  have hkk:k=a13:=GP k1 k2 fun x y _ ⟨_,_,_,_,h1,h2,_,h3,_⟩=>by rw[h1,h2,h3 rfl]
  rw[hee,u3 rfl,v3 rfl,hkk];rfl
 ·subst hb
  have he:Ev (fun n=>H6 n a10) e:=by
   have loop:∀i:Nat,i≤a10.length→Ev (fun n=>CJ n a10 (a10.length:Int) (e.take i) (i:Int)) e:=by
    refine down a10.length ?_ ?_
    ·refine .succ ?_
     simp only[CJ,Int.lt_irrefl,if_false]
     refine .succ ?_
     simp only[Cw,Bool.false_eq_true,if_false]
     rw[←e1,List.take_length]
     exact .ret
    ·intro i hi ihl
     obtain⟨x,hx,hm2,_⟩:=w10.get hi
     obtain⟨y,hy,b0,b1,b2,b3,b4,b5,b6,b7,m,rfl,rfl,_,_,q,_⟩:=e2 i x hx
     refine .succ ?_
     simp only[CJ,if_pos (Cn hi)]
     refine .succ ?_
     simp only[Cw,if_true,AH hx,BD]
     refine Ev.bO8 (q rfl) ?_
     have ha:∀{γ:Type} (v0:D) (kk:List D→Option γ),Dc 120 (e.take i) [v0] kk=kk (e.take i++[v0]):=fun v0 kk=>D7 (by simp only[List.length_take,List.length_cons,List.length_nil];omega) (by omega)
     simp only[ha,AJ,AG hi w10.1]
     rw[HM hy]at ihl
     exact ihl
   exact .succ (by simp only[H6,AE];exact loop 0 (Nat.zero_le _))
  have hk:Ev (fun n=>NT n a13) k:=by
   have loop:∀i:Nat,i≤a13.length→Ev (fun n=>DG n a13 (a13.length:Int) (k.take i) (i:Int)) k:=by
    refine down a13.length ?_ ?_
    ·refine .succ ?_
     simp only[DG,Int.lt_irrefl,if_false]
     refine .succ ?_
     simp only[Dm,Bool.false_eq_true,if_false]
     rw[←k1,List.take_length]
     exact .ret
    ·intro i hi ihl
     obtain⟨x,hx,hm2,_⟩:=w13.get hi
     obtain⟨y,hy,t1,t2,m,m',rfl,rfl,_,_,q,_⟩:=k2 i x hx
     refine .succ ?_
     simp only[DG,if_pos (Cn hi)]
     refine .succ ?_
     simp only[Dm,if_true,AH hx,Bf]
     refine Ev.bO3 (a1:=t1) (a2:=t2) (a3:=m') (.succ (by simp only[RA];exact Ev.bO1 (q rfl) .ret)) ?_
     have ha:∀{γ:Type} (v0:D) (kk:List D→Option γ),Dc 56 (k.take i) [v0] kk=kk (k.take i++[v0]):=fun v0 kk=>D7 (by simp only[List.length_take,List.length_cons,List.length_nil];omega) (by omega)
     simp only[ha,AJ,AG hi w13.1]
     rw[HM hy]at ihl
     exact ihl
   exact .succ (by simp only[NT,AE];exact loop 0 (Nat.zero_le _))
  refine .succ ?_
  simp only[NU]
  exact Ev.bO1 (NW w3 g1) (Ev.bO3 h127 (Ev.bO2 (J2 w9 g3 a8) (Ev.bO1 he (Ev.bO1 (u4 rfl) (Ev.bO1 (v4 rfl) (Ev.bO1 hk (Ev.bO1 (A:=fun n=>fL n a14) (.of fun n=>rfl) .ret)))))))
 ·subst hb
  have hex1:Ev (fun n=>RB n a10) e:=by
   have loop:∀i:Nat,i≤a10.length→Ev (fun n=>D6 n a10 (a10.length:Int) (e.take i) (i:Int)) e:=by
    refine down a10.length ?_ ?_
    ·refine .succ ?_
     simp only[D6,Int.lt_irrefl,if_false]
     refine .succ ?_
     simp only[FL,Bool.false_eq_true,if_false]
     rw[←e1,List.take_length]
     exact .ret
    ·intro i hi ihl
     obtain⟨x,hx,hm2,_⟩:=w10.get hi
     obtain⟨y,hy,b0,b1,b2,b3,b4,b5,b6,b7,m,rfl,rfl,_,_,_,q⟩:=e2 i x hx
     refine .succ ?_
     simp only[D6,if_pos (Cn hi)]
     refine .succ ?_
     simp only[FL,if_true,AH hx,BD]
     refine Ev.bO7 (q rfl) ?_
     have ha:∀{γ:Type} (v0:D) (kk:List D→Option γ),Dc 120 (e.take i) [v0] kk=kk (e.take i++[v0]):=fun v0 kk=>D7 (by simp only[List.length_take,List.length_cons,List.length_nil];omega) (by omega)
     simp only[ha,AJ,AG hi w10.1]
     rw[HM hy]at ihl
     exact ihl
   exact .succ (by simp only[RB,AE];exact loop 0 (Nat.zero_le _))
  have hkx1:Ev (fun n=>ZL n a13) k:=by
   have loop:∀i:Nat,i≤a13.length→Ev (fun n=>Ft n a13 (a13.length:Int) (k.take i) (i:Int)) k:=by
    refine down a13.length ?_ ?_
    ·refine .succ ?_
     simp only[Ft,Int.lt_irrefl,if_false]
     refine .succ ?_
     simp only[Gf,Bool.false_eq_true,if_false]
     rw[←k1,List.take_length]
     exact .ret
    ·intro i hi ihl
     obtain⟨x,hx,hm2,_⟩:=w13.get hi
     obtain⟨y,hy,t1,t2,m,m',rfl,rfl,_,_,_,q⟩:=k2 i x hx
     refine .succ ?_
     simp only[Ft,if_pos (Cn hi)]
     refine .succ ?_
     simp only[Gf,if_true,AH hx,Bf]
     refine Ev.bO3 (a1:=t1) (a2:=t2) (a3:=m') (.succ (by simp only[cJ];exact Ev.bO1 (q rfl) .ret)) ?_
     have ha:∀{γ:Type} (v0:D) (kk:List D→Option γ),Dc 56 (k.take i) [v0] kk=kk (k.take i++[v0]):=fun v0 kk=>D7 (by simp only[List.length_take,List.length_cons,List.length_nil];omega) (by omega)
     simp only[ha,AJ,AG hi w13.1]
     rw[HM hy]at ihl
     exact ihl
   exact .succ (by simp only[ZL,AE];exact loop 0 (Nat.zero_le _))
  refine .succ ?_
  simp only[ZM]
  exact Ev.bO1 (NW w3 g1) (Ev.bO3 h127 (Ev.bO2 (J2 w9 g3 a8) (Ev.bO1 hex1 (Ev.bO1 (u5 rfl) (Ev.bO1 (v5 rfl) (Ev.bO1 hkx1 (Ev.bO0 (A:=fun n=>fM n a14) (.of fun n=>rfl) .ret)))))))
theorem oE (b:Bool) (l:List D):AD AI 50 l→La l→∃r,PS b l r:=by
 refine Ba (P:=fun l=>AD AI 50 l→La l→∃r,PS b l r) (fun l ih h hs=>?_) l
 have hl:=hs.len
 obtain⟨r,r1,r2⟩:=IZ l (jU b h hs ih)
 have rt:AD AI 50 r:=FO h r1 r2 fun x y _ ⟨_,_,_,_,_,_,_,_,_,_,_,_,_,_,_,_,_,_,_,_,_,h,_⟩=>h.1
 refine⟨r,r1,⟨rt,fun hb=>oD hb r1 r2⟩,fun hb=>GP r1 r2 fun x y _ ⟨_,_,_,_,_,_,_,_,_,_,_,_,_,_,_,_,_,_,_,_,_,_,h,_⟩=>h hb,fun hb=>?_,fun hb=>?_⟩
 ·subst hb
  have loop:∀i:Nat,i≤l.length→Ev (fun n=>DH n l (l.length:Int) (r.take i) (i:Int)) r:=by
   refine down l.length ?_ ?_
   ·refine .succ ?_
    simp only[DH,Int.lt_irrefl,if_false]
    refine .succ ?_
    simp only[Dn,Bool.false_eq_true,if_false]
    rw[←r1,List.take_length]
    exact .ret
   ·intro i hi ihl
    obtain⟨x,hx,hm2,_⟩:=h.get hi
    obtain⟨y,hy,a0,a1,a2,a3,a4,a5,a6,a7,a8,a9,a10,a11,a12,a13,a14,e,u,v,k,rfl,rfl,_,_,q,_⟩:=r2 i x hx
    refine .succ ?_
    simp only[DH,if_pos (Cn hi)]
    refine .succ ?_
    simp only[Dn,if_true,AH hx,BJ]
    refine Ev.bO15 (q rfl) ?_
    have ha:∀{γ:Type} (v0:D) (kk:List D→Option γ),Dc 264 (r.take i) [v0] kk=kk (r.take i++[v0]):=fun v0 kk=>D7 (by simp only[List.length_take,List.length_cons,List.length_nil];omega) (by omega)
    simp only[ha,AJ,AG hi h.1]
    rw[HM hy]at ihl
    exact ihl
  exact .succ (by simp only[FK,AE];exact loop 0 (Nat.zero_le _))
 ·subst hb
  have loop:∀i:Nat,i≤l.length→Ev (fun n=>Fu n l (l.length:Int) (r.take i) (i:Int)) r:=by
   refine down l.length ?_ ?_
   ·refine .succ ?_
    simp only[Fu,Int.lt_irrefl,if_false]
    refine .succ ?_
    simp only[Gg,Bool.false_eq_true,if_false]
    rw[←r1,List.take_length]
    exact .ret
   ·intro i hi ihl
    obtain⟨x,hx,hm2,_⟩:=h.get hi
    obtain⟨y,hy,a0,a1,a2,a3,a4,a5,a6,a7,a8,a9,a10,a11,a12,a13,a14,e,u,v,k,rfl,rfl,_,_,_,q,_⟩:=r2 i x hx
    refine .succ ?_
    simp only[Fu,if_pos (Cn hi)]
    refine .succ ?_
    simp only[Gg,if_true,AH hx,BJ]
    refine Ev.bO14 (q rfl) ?_
    have ha:∀{γ:Type} (v0:D) (kk:List D→Option γ),Dc 264 (r.take i) [v0] kk=kk (r.take i++[v0]):=fun v0 kk=>D7 (by simp only[List.length_take,List.length_cons,List.length_nil];omega) (by omega)
    simp only[ha,AJ,AG hi h.1]
    rw[HM hy]at ihl
    exact ihl
  exact .succ (by simp only[Lu,AE];exact loop 0 (Nat.zero_le _))
end Go.Proofs.YtjmofeakajdbiaaGreatDoor
end
set_option linter.unusedVariables false
noncomputable section
namespace Go.Proofs.YtjmofeakajdbiaaGreatDoor
open Go Go.AM
def jV (l:List D):Prop:=l.length≤4000∧∀(s:ByteArray) (k:Int) (t:ByteArray) (m:List D),D.agg [.str s,.int .u8 k,.str t,.list true 3 m]∈l→OJ m
theorem ZO {l:List D}(h:AD AI 74 l):∀z:Int,-6≤z→z≤20000→∃r,Ev (fun n=>lU n l z) r∧ -6≤r∧r≤20000∧(0≤r→r≤z∧jV l):=by
 have loop:∀i:Nat,i≤l.length→∀z:Int,-6≤z→z≤20000→∃r,Ev (fun n=>Hz n l (i:Int) z) r∧ -6≤r∧r≤20000∧(0≤r→r+5*((l.length:Int) - (i:Int))≤z∧∀(j:Nat) (s:ByteArray) (k:Int) (t:ByteArray) (m:List D),i≤j→l[j]?=some (.agg [.str s,.int .u8 k,.str t,.list true 3 m])→OJ m):=by
  refine down l.length ?_ ?_
  ·intro z h1 h2
   refine⟨z,.succ ?_,h1,h2,fun _=>⟨by omega,fun j s k t m hj hx=>absurd (List.getElem?_eq_some_iff.1 hx).1 (by omega)⟩⟩
   simp only[Hz,AE,Int.lt_irrefl,if_false]
   exact .succ (by simp only[It,Bool.false_eq_true,if_false];exact .ret)
  ·intro i hi ih z h1 h2
   by_cases c:(0:Int)≤z
   ·obtain⟨x,hx,hm,hr⟩:=h.get hi
    obtain⟨a0,a1,a2,a3,rfl,w0,w1,w2,w3⟩:=Q4 hr
    obtain⟨p1,p2,p3,p4,p5⟩:=FJ a0 z h1 h2
    obtain⟨u1,u2,u3,u4,u5⟩:=Q6 a3 w3 a1 a2 p1 (by omega) p4
    obtain⟨r,r1,r2,r3,r4⟩:=ih u1 u3 u4
    refine⟨r,.succ ?_,r2,r3,fun hr0=>?_⟩
    ·simp only[Hz,AE,if_pos (Cn hi),if_pos c]
     refine .succ ?_
     simp only[It,if_true,AH hx,Bv]
     refine Ev.bO1 p2 (Ev.bO1 u2 ?_)
     simp only[AJ,AG hi h.1]
     exact r1
    ·obtain⟨x1,x2⟩:=r4 hr0
     obtain⟨u6,u7⟩:=u5 (by omega)
     have:=p5 (by omega)
     refine⟨by omega,fun j s k t m' hj hx'=>?_⟩
     by_cases e:j=i
     ·subst e;rw[hx]at hx';cases hx';exact u7
     ·exact x2 j s k t m' (by omega) hx'
   ·refine⟨z,.succ ?_,h1,h2,fun h=>absurd h c⟩
    simp only[Hz,AE,if_pos (Cn hi),if_neg c]
    exact .succ (by simp only[It,Bool.false_eq_true,if_false];exact .ret)
 intro z h1 h2
 obtain⟨r,r1,r2,r3,r4⟩:=loop 0 (Nat.zero_le _) z h1 h2
 refine⟨r,(by unfold lU;exact r1),r2,r3,fun hr=>?_⟩
 obtain⟨x1,x2⟩:=r4 hr
 refine⟨by omega,by omega,fun s k t m hm=>?_⟩
 obtain⟨j,hj⟩:=List.getElem?_of_mem hm
 exact x2 j s k t m (Nat.zero_le _) hj
theorem ZP {l:List D}(h:AD AI 45 l):∃b,Ev (fun n=>F8 n l) b∧(b=false→l.length≤4000∧∀(a0:Int) (a1:ByteArray) (a2:List D) (a3:Int) (a4:ByteArray) (a5 a6:List D) (a7 a8:Int) (a9 a10 a11:ByteArray) (a12 a13:List D) (a14 a15:Int),D.agg [.int .u8 a0,.str a1,.list true 4 a2,.int .u8 a3,.str a4,.list true 3 a5,.list true 15 a6,.int .u8 a7,.int .i64 a8,.str a9,.str a10,.str a11,.list false 1 a12,.list true 8 a13,.int .i64 a14,.int .i64 a15]∈l→jV a2∧OJ a5∧La a6∧a12.length≤4000∧MB a13):=by
 have loop:∀i:Nat,i≤l.length→∀z:Int,-6≤z→z≤20000→∃b,Ev (fun n=>NS n l (i:Int) z) b∧(b=false→5*((l.length:Int) - (i:Int))≤z∧∀(j:Nat) (a0:Int) (a1:ByteArray) (a2:List D) (a3:Int) (a4:ByteArray) (a5 a6:List D) (a7 a8:Int) (a9 a10 a11:ByteArray) (a12 a13:List D) (a14 a15:Int),i≤j→l[j]?=some (.agg [.int .u8 a0,.str a1,.list true 4 a2,.int .u8 a3,.str a4,.list true 3 a5,.list true 15 a6,.int .u8 a7,.int .i64 a8,.str a9,.str a10,.str a11,.list false 1 a12,.list true 8 a13,.int .i64 a14,.int .i64 a15])→jV a2∧OJ a5∧La a6∧a12.length≤4000∧MB a13):=by
  have t_end:∀(z2 z:Int),Ev (fun n=>OI n l z2 z false) (decide (z<0)):=by
   intro z2 z
   refine .succ ?_
   simp only[OI,Bool.false_eq_true,if_false]
   by_cases c:z<0
   ·simp only[if_pos c,decide_eq_true c];exact .ret
   ·simp only[if_neg c,decide_eq_false c];exact .ret
  refine down l.length ?_ ?_
  ·intro z h1 h2
   refine⟨decide (z<0),.succ ?_,fun hb=>⟨by have:=of_decide_eq_false hb;omega,fun j _ _ _ _ _ _ _ _ _ _ _ _ _ _ _ _ hj hx=>absurd (List.getElem?_eq_some_iff.1 hx).1 (by omega)⟩⟩
   simp only[NS,AE,Int.lt_irrefl,if_false]
   exact t_end _ _
  ·intro i hi ih z h1 h2
   by_cases c:(0:Int)≤z
   ·obtain⟨x,hx,hm,hr⟩:=h.get hi
    obtain⟨a0,a1,a2,a3,a4,a5,a6,a7,a8,a9,a10,a11,a12,a13,a14,a15,rfl,w0,w1,w2,w3,w4,w5,w6,w7,w8,w9,w10,w11,w12,w13,w14,w15⟩:=OH hr
    obtain⟨p1,p2,p3,p4,p5⟩:=FJ a1 z h1 h2
    obtain⟨q1,q2,q3,q4,q5⟩:=ZO w2 p1 (by omega) p4
    obtain⟨u1,u2,u3,u4,u5⟩:=Q6 a5 w5 a3 a4 q1 q3 q4
    obtain⟨v1,v2,v3,v4,v5⟩:=cE a6 w6 u1 u3 u4
    obtain⟨y1,y2,y3,y4,y5⟩:=S1 a13 w13 a7 a8 a9 a10 a11 a12 a14 v1 w12 v3 v4
    obtain⟨b,b1,b2⟩:=ih y1 y3 y4
    refine⟨b,.succ ?_,fun hb=>?_⟩
    ·simp only[NS,AE,if_pos (Cn hi),if_pos c]
     refine .succ ?_
     simp only[OI,if_true,AH hx,BU]
     refine Ev.bO1 p2 (Ev.bO1 q2 (Ev.bO1 u2 (Ev.bO1 v2 (Ev.bO1 y2 ?_))))
     simp only[AJ,AG hi h.1]
     exact b1
    ·obtain⟨x1,x2⟩:=b2 hb
     obtain⟨g1,g1',g1''⟩:=y5 (by omega)
     obtain⟨g2,g3⟩:=v5 (by omega)
     obtain⟨g4,g4'⟩:=u5 (by omega)
     obtain⟨g5,g6⟩:=q5 (by omega)
     have g7:=p5 (by omega)
     refine⟨by omega,fun j _ _ _ _ _ _ _ _ _ _ _ _ _ _ _ _ hj hx'=>?_⟩
     by_cases e:j=i
     ·subst e;rw[hx]at hx';cases hx';exact⟨g6,g4',g3,g1',g1''⟩
     ·exact x2 j _ _ _ _ _ _ _ _ _ _ _ _ _ _ _ _ (by omega) hx'
   ·refine⟨decide (z<0),.succ ?_,fun hb=>absurd (of_decide_eq_false hb) (by omega)⟩
    simp only[NS,AE,if_pos (Cn hi),if_neg c]
    exact t_end _ _
 obtain⟨b,b1,b2⟩:=loop 0 (Nat.zero_le _) 20000 (by omega) (by omega)
 refine⟨b,(by unfold F8;exact b1),fun hb=>⟨by have:=(b2 hb).1;omega,fun _ _ _ _ _ _ _ _ _ _ _ _ _ _ _ _ hx=>?_⟩⟩
 obtain⟨j,hj⟩:=List.getElem?_of_mem hx
 exact (b2 hb).2 j _ _ _ _ _ _ _ _ _ _ _ _ _ _ _ _ (Nat.zero_le _) hj
theorem jW {l:List D}(h:AD AI 74 l) (hs:jV l):Ev (fun n=>S2 n l) l:=by
 have hl:=hs.1
 ·have loop:∀i:Nat,i≤l.length→Ev (fun n=>Fs n l (l.length:Int) (l.take i) (i:Int)) l:=by
   refine down l.length ?_ ?_
   ·refine .succ ?_
    simp only[Fs,Int.lt_irrefl,if_false]
    refine .succ ?_
    simp only[Ge,Bool.false_eq_true,if_false,List.take_length]
    exact .ret
   ·intro i hi ihl
    obtain⟨x,hx,hm,hr⟩:=h.get hi
    obtain⟨a0,a1,a2,a3,rfl,w0,w1,w2,w3⟩:=Q4 hr
    have hc:=(ZN a3 w3 (hs.2 _ _ _ _ hm))
    refine .succ ?_
    simp only[Fs,if_pos (Cn hi)]
    refine .succ ?_
    simp only[Ge,if_true,AH hx,Bv]
    refine Ev.bO4 (a1:=a0) (a2:=a1) (a3:=a2) (a4:=a3) (by unfold cI;exact Ev.bO3 (a1:=a1) (a2:=a2) (a3:=a3) (.succ (by simp only[H4];exact Ev.bO1 hc .ret)) .ret) ?_
    have ha:∀{γ:Type} (v0:D) (kk:List D→Option γ),Dc 64 (l.take i) [v0] kk=kk (l.take i++[v0]):=fun v0 kk=>D7 (by simp only[List.length_take,List.length_cons,List.length_nil];omega) (by omega)
    simp only[ha,AJ,AG hi h.1]
    rw[HM hx]at ihl
    exact ihl
  unfold S2
  exact loop 0 (Nat.zero_le _)
def QI (b:Bool) (x y:D):Prop:=∃(a0:Int) (a1:ByteArray) (a2:List D) (a3:Int) (a4:ByteArray) (a5 a6:List D) (a7 a8:Int) (a9 a10 a11:ByteArray) (a12 a13:List D) (a14 a15:Int) (u e:List D),x= .agg [.int .u8 a0,.str a1,.list true 4 a2,.int .u8 a3,.str a4,.list true 3 a5,.list true 15 a6,.int .u8 a7,.int .i64 a8,.str a9,.str a10,.str a11,.list false 1 a12,.list true 8 a13,.int .i64 a14,.int .i64 a15]∧y= .agg [.int .u8 a0,.str a1,.list true 4 a2,.int .u8 a3,.str a4,.list true 3 a5,.list true 15 u,.int .u8 a7,.int .i64 a8,.str a9,.str a10,.str a11,.list false 1 a12,.list true 8 e,.int .i64 (at_ b a14),.int .i64 (at_ b a15)]∧(DF AI 45 y∧(b=false→Fo a6 u∧Gc a13 e))∧(b=true→y=x)∧
 (b=true→Ev (fun n=>NV n a0 a1 a2 a3 a4 a5 a6 a7 a8 a9 a10 a11 a12 a13 a14 a15) (a0,a1,a2,a3,a4,a5,u,a7,a8,a9,a10,a11,a12,e,a14,a15))∧(b=false→Ev (fun n=>U5 n a0 a1 a2 a3 a4 a5 a6 a7 a8 a9 a10 a11 a12 a13 a14 a15) (a0,a1,a2,a3,a4,a5,u,a7,a8,a9,a10,a11,a12,e))
theorem cM (b:Bool) {l:List D}(h:AD AI 45 l) (hs:∀(a0:Int) (a1:ByteArray) (a2:List D) (a3:Int) (a4:ByteArray) (a5 a6:List D) (a7 a8:Int) (a9 a10 a11:ByteArray) (a12 a13:List D) (a14 a15:Int),D.agg [.int .u8 a0,.str a1,.list true 4 a2,.int .u8 a3,.str a4,.list true 3 a5,.list true 15 a6,.int .u8 a7,.int .i64 a8,.str a9,.str a10,.str a11,.list false 1 a12,.list true 8 a13,.int .i64 a14,.int .i64 a15]∈l→jV a2∧OJ a5∧La a6∧a12.length≤4000∧MB a13):∀x∈l,∃y,QI b x y:=by
 intro x hm
 obtain⟨a0,a1,a2,a3,a4,a5,a6,a7,a8,a9,a10,a11,a12,a13,a14,a15,rfl,w0,w1,w2,w3,w4,w5,w6,w7,w8,w9,w10,w11,w12,w13,w14,w15⟩:=OH (h.2 x hm)
 obtain⟨g1,g2,g3,g4,g5⟩:=hs _ _ _ _ _ _ _ _ _ _ _ _ _ _ _ _ hm
 obtain⟨u,u1,u2,u3,u4,u5⟩:=oE b a6 w6 g3
 have f1:=jW w2 g1
 have t1:=ZN a5 w5 g2
 have h127:Ev (fun n=>H4 n a3 a4 a5) (a3,a4,a5):=.succ (by simp only[H4];exact Ev.bO1 t1 .ret)
 obtain⟨y,b0,b1,b2,b3,b4,b5,b6,b7,e,e1,rfl,e3,e4,e5,e6⟩:=V6 b [.agg [.int .u8 a7,.int .i64 a8,.str a9,.str a10,.str a11,.list false 1 a12,.list true 8 a13,.int .i64 a14]] (.one (nX w7 w8 w9 w10 w11 w12 w13 w14)) (.mk (by simp) (fun _ _ _ _ _ _ _ _ hm=>by cases List.mem_singleton.1 hm;exact g4) (fun _ _ _ _ _ _ _ _ hm=>by cases List.mem_singleton.1 hm;exact g5)) (.agg [.int .u8 a7,.int .i64 a8,.str a9,.str a10,.str a11,.list false 1 a12,.list true 8 a13,.int .i64 a14]) (List.mem_singleton.2 rfl)
 cases e1
 obtain⟨c0,c1,c2,c3,c4,c5,c6,c7,ce,v0,v1,v2,v3,v4,v5,v6,v7⟩:=Jz e3.1
 cases ce
 refine⟨_,a0,a1,a2,a3,a4,a5,a6,a7,a8,a9,a10,a11,a12,a13,a14,a15,u,e,rfl,rfl,⟨uH w0 w1 w2 w3 w4 w5 u2.1 w7 w8 w9 w10 w11 w12 v6 v7 (by unfold at_;split;exact w15;rfl),fun hb=>⟨u2.2 hb,e3.2 hb⟩⟩,fun hb=>?_,fun hb=>?_,fun hb=>?_⟩
 ·subst hb
  rw[u3 rfl,e4 rfl];rfl
 ·subst hb
  unfold NV
  exact Ev.bO1 f1 (Ev.bO3 h127 (Ev.bO1 (u4 rfl) (Ev.bO8 (e5 rfl) (Ev.bO1 (A:=fun n=>fL n a15) (.of fun n=>rfl) .ret))))
 ·subst hb
  unfold U5
  exact Ev.bO1 f1 (Ev.bO3 h127 (Ev.bO1 (u5 rfl) (Ev.bO7 (e6 rfl) (Ev.bO0 (A:=fun n=>fM n a15) (.of fun n=>rfl) .ret))))
theorem MC (b:Bool) {l:List D}(h:AD AI 45 l) (hl:l.length≤4000) (hs:∀(a0:Int) (a1:ByteArray) (a2:List D) (a3:Int) (a4:ByteArray) (a5 a6:List D) (a7 a8:Int) (a9 a10 a11:ByteArray) (a12 a13:List D) (a14 a15:Int),D.agg [.int .u8 a0,.str a1,.list true 4 a2,.int .u8 a3,.str a4,.list true 3 a5,.list true 15 a6,.int .u8 a7,.int .i64 a8,.str a9,.str a10,.str a11,.list false 1 a12,.list true 8 a13,.int .i64 a14,.int .i64 a15]∈l→jV a2∧OJ a5∧La a6∧a12.length≤4000∧MB a13):∃r,(AD AI 45 r∧(b=false→Q7 l r))∧(b=true→r=l)∧(b=true→Ev (fun n=>rS n l) r)∧(b=false→Ev (fun n=>cK n l) r):=by
 obtain⟨r,r1,r2⟩:=IZ l (cM b h hs)
 have rt:AD AI 45 r:=FO h r1 r2 fun x y _ ⟨_,_,_,_,_,_,_,_,_,_,_,_,_,_,_,_,_,_,_,_,h,_⟩=>h.1
 refine⟨r,⟨rt,fun hb=>J1 .nil (fun x y l r ⟨_,_,_,_,_,_,_,_,_,_,_,_,_,_,_,_,_,_,h1,h2,h3,_⟩ h=>by subst hb;rw[h1,h2];exact .cons (h3.2 rfl).1 (h3.2 rfl).2 h) r1 r2⟩,fun hb=>GP r1 r2 fun x y _ ⟨_,_,_,_,_,_,_,_,_,_,_,_,_,_,_,_,_,_,_,_,_,h,_⟩=>h hb,fun hb=>?_,fun hb=>?_⟩
 ·subst hb
  have loop:∀i:Nat,i≤l.length→Ev (fun n=>DI n l (l.length:Int) (r.take i) (i:Int)) r:=by
   refine down l.length ?_ ?_
   ·refine .succ ?_
    simp only[DI,Int.lt_irrefl,if_false]
    refine .succ ?_
    simp only[Dp,Bool.false_eq_true,if_false]
    rw[←r1,List.take_length]
    exact .ret
   ·intro i hi ihl
    obtain⟨x,hx,hm2,_⟩:=h.get hi
    obtain⟨y,hy,a0,a1,a2,a3,a4,a5,a6,a7,a8,a9,a10,a11,a12,a13,a14,a15,u,e,rfl,rfl,_,_,q,_⟩:=r2 i x hx
    refine .succ ?_
    simp only[DI,if_pos (Cn hi)]
    refine .succ ?_
    simp only[Dp,if_true,AH hx,BU]
    refine Ev.bO16 (q rfl) ?_
    have ha:∀{γ:Type} (v0:D) (kk:List D→Option γ),Dc 248 (r.take i) [v0] kk=kk (r.take i++[v0]):=fun v0 kk=>D7 (by simp only[List.length_take,List.length_cons,List.length_nil];omega) (by omega)
    simp only[ha,AJ,AG hi h.1]
    rw[HM hy]at ihl
    exact ihl
  unfold rS ZK
  exact Ev.bO1 (A:=fun n=>bO1 (JN n l) fun l2=>some l2) (Ev.bO1 (A:=fun n=>JN n l) (by unfold JN;exact loop 0 (Nat.zero_le _)) .ret) .ret
 ·subst hb
  have loop:∀i:Nat,i≤l.length→Ev (fun n=>EX n l (l.length:Int) (r.take i) (i:Int)) r:=by
   refine down l.length ?_ ?_
   ·refine .succ ?_
    simp only[EX,Int.lt_irrefl,if_false]
    refine .succ ?_
    simp only[FM,Bool.false_eq_true,if_false]
    rw[←r1,List.take_length]
    exact .ret
   ·intro i hi ihl
    obtain⟨x,hx,hm2,_⟩:=h.get hi
    obtain⟨y,hy,a0,a1,a2,a3,a4,a5,a6,a7,a8,a9,a10,a11,a12,a13,a14,a15,u,e,rfl,rfl,_,_,_,q⟩:=r2 i x hx
    refine .succ ?_
    simp only[EX,if_pos (Cn hi)]
    refine .succ ?_
    simp only[FM,if_true,AH hx,BU]
    refine Ev.bO14 (q rfl) ?_
    have ha:∀{γ:Type} (v0:D) (kk:List D→Option γ),Dc 248 (r.take i) [v0] kk=kk (r.take i++[v0]):=fun v0 kk=>D7 (by simp only[List.length_take,List.length_cons,List.length_nil];omega) (by omega)
    simp only[ha,AJ,AG hi h.1]
    rw[HM hy]at ihl
    exact ihl
  unfold cK rT
  exact Ev.bO1 (A:=fun n=>bO1 (S3 n l) fun l2=>some l2) (Ev.bO1 (A:=fun n=>S3 n l) (by unfold S3;exact loop 0 (Nat.zero_le _)) .ret) .ret
end Go.Proofs.YtjmofeakajdbiaaGreatDoor
end
set_option linter.unusedVariables false
noncomputable section
namespace Go.Proofs.YtjmofeakajdbiaaGreatDoor
open Go Go.AM
mutual
def NX:Nat->LD->LD->Bool->Option (Bool)
 | 0,_,_,_=>none
 | n+1,l1,l2,b5=>
  (if b5=true then some false else AE l1 fun z6=>K5 n l1 l2 z6 (0:Int))
def K5:Nat->LD->LD->Int->Int->Option (Bool)
 | 0,_,_,_,_=>none
 | n+1,l1,l2,z6,z7=>
  (if z7<z6 then NY n l1 l2 z6 z7 true else NY n l1 l2 z6 z7 false)
def NY:Nat->LD->LD->Int->Int->Bool->Option (Bool)
 | 0,_,_,_,_,_=>none
 | n+1,l1,l2,z6,z7,b8=>
  (if b8=true then Ap l1 z7 fun x9=>Cf x9 fun z10 s11 l12=>Ap l2 z7 fun x13=>Cf x13 fun z14 s15 l16=>bO1 (cN n z10 s11 l12 z14 s15 l16) fun b17=>AL (!b17) fun b18=>(if b18=true then some false else AJ (IntKind.wrap .i64 (z7+1)) fun z19=>K5 n l1 l2 z6 z19)else some true)
def XI:Nat->LD->LD->Option (Bool)
 | 0,_,_=>none
 | n+1,l1,l2=>
  AE l1 fun z3=>AE l2 fun z4=>(if z3=z4 then NX n l1 l2 false else NX n l1 l2 true)
def cN:Nat->Int->BA->LD->Int->BA->LD->Option (Bool)
 | 0,_,_,_,_,_,_=>none
 | n+1,z1,s2,l3,z4,s5,l6=>
  (if z1=z4 then (if s2=s5 then bO1 (XI n l3 l6) fun b7=>some b7 else some false)else some false)
end
noncomputable def vM:BX:=⟨116,Tryz.f116,[.q 3,.q 3,.one (.fn 61 [])],[],⟨.one (.b),[],[]⟩,Bool,inferInstance,XI,[⟨13,[0,1,2,6,14],[],192,[.q 3,.q 3,.one (.fn 61 []),.one (.cb false),.b],[],fun n l1 l2 b5=>NX n l1 l2 b5⟩,
 ⟨58,[1,2,6,15,16,17],[],288,[.q 3,.one (.fn 61 []),.one (.cb false),.q 3,.z,.z],[],fun n l2 l1 z6 z7=>K5 n l1 l2 z6 z7⟩,
 ⟨233,[1,2,6,15,16,17,18],[],320,[.q 3,.one (.fn 61 []),.one (.cb false),.q 3,.z,.z,.b],[],fun n l2 l1 z6 z7 b8=>NY n l1 l2 z6 z7 b8⟩]⟩
noncomputable def yL:BX:=⟨61,Tryz.f61,[.agg [.y,.str,.q 3],.agg [.y,.str,.q 3]],[],⟨.one (.b),[],[]⟩,Bool,inferInstance,cN,[]⟩
theorem vN:Cv Tryz.prog inv (OG [vM,yL]):=gr [] ⟨⟨Tryz.func116,by kernel_rfl,by kernel_rfl,by kernel_rfl⟩,⟨Tryz.func61,by kernel_rfl,by kernel_rfl,by kernel_rfl⟩,trivial⟩
noncomputable def vO:Kz:=⟨yL.c,vN.2.1⟩
mutual
def Gi:Nat->LD->LD->Int->Int->Option (Bool)
 | 0,_,_,_,_=>none
 | n+1,l1,l2,z6,z7=>
  (if z7<z6 then JO n l1 l2 z6 z7 true else JO n l1 l2 z6 z7 false)
def JO:Nat->LD->LD->Int->Int->Bool->Option (Bool)
 | 0,_,_,_,_,_=>none
 | n+1,l1,l2,z6,z7,b8=>
  (if b8=true then Ap l1 z7 fun x9=>Bj x9 fun s10=>Ap l2 z7 fun x11=>Bj x11 fun s12=>(if s10=s12 then NZ n l1 l2 z6 z7 false else NZ n l1 l2 z6 z7 true)else some true)
def NZ:Nat->LD->LD->Int->Int->Bool->Option (Bool)
 | 0,_,_,_,_,_=>none
 | n+1,l1,l2,z6,z7,b13=>
  (if b13=true then some false else AJ (IntKind.wrap .i64 (z7+1)) fun z14=>Gi n l1 l2 z6 z14)
end
def Gj:Nat->LD->LD->Bool->Option (Bool)
 | 0,_,_,_=>none
 | n+1,l1,l2,b5=>
  (if b5=true then some false else AE l1 fun z6=>Gi n l1 l2 z6 (0:Int))
def S4 (n:Nat) (l1:LD) (l2:LD):Option (Bool):=
 AE l1 fun z3=>AE l2 fun z4=>(if z3=z4 then Gj n l1 l2 false else Gj n l1 l2 true)
noncomputable def vP:BX:=⟨139,Tryz.f139,[.f 1,.f 1],[],⟨.one (.b),[],[]⟩,Bool,inferInstance,S4,[⟨13,[0,1,4,10],[],192,[.f 1,.f 1,.one (.cb false),.b],[],fun n l1 l2 b5=>Gj n l1 l2 b5⟩,
 ⟨58,[0,1,4,12,13],[],288,[.f 1,.f 1,.one (.cb false),.z,.z],[],fun n l1 l2 z6 z7=>Gi n l1 l2 z6 z7⟩,
 ⟨233,[0,1,4,12,13,14],[],320,[.f 1,.f 1,.one (.cb false),.z,.z,.b],[],fun n l1 l2 z6 z7 b8=>JO n l1 l2 z6 z7 b8⟩,
 ⟨7475,[0,1,4,12,13,24],[],672,[.f 1,.f 1,.one (.cb false),.z,.z,.b],[],fun n l1 l2 z6 z7 b13=>NZ n l1 l2 z6 z7 b13⟩]⟩
noncomputable def oG:Kz:=sg vP [] Tryz.func139 (by kernel_rfl) (by kernel_rfl) (by kernel_rfl)
def U6 (n:Nat) (s1:BA) (l2:LD) (s3:BA) (l4:LD):Option (Bool):=
 (if s1=s3 then bO1 (S4 n l2 l4) fun b5=>some b5 else some false)
noncomputable def vQ:BX:=⟨117,Tryz.f117,[.agg [.str,.f 1],.agg [.str,.f 1]],[],⟨.one (.b),[],[]⟩,Bool,inferInstance,U6,[]⟩
noncomputable def oH:Kz:=sg vQ [oG] Tryz.func117 (by kernel_rfl) (by kernel_rfl) (by kernel_rfl)
mutual
def Fv:Nat->LD->LD->Bool->Option (Bool)
 | 0,_,_,_=>none
 | n+1,l1,l2,b5=>
  (if b5=true then some false else AE l1 fun z6=>Fw n l1 l2 z6 (0:Int))
def Fw:Nat->LD->LD->Int->Int->Option (Bool)
 | 0,_,_,_,_=>none
 | n+1,l1,l2,z6,z7=>
  (if z7<z6 then Gk n l1 l2 z6 z7 true else Gk n l1 l2 z6 z7 false)
def Gk:Nat->LD->LD->Int->Int->Bool->Option (Bool)
 | 0,_,_,_,_,_=>none
 | n+1,l1,l2,z6,z7,b8=>
  (if b8=true then Ap l1 z7 fun x9=>BD x9 fun z10 z11 s12 s13 s14 l15 l16 z17=>Ap l2 z7 fun x18=>BD x18 fun z19 z20 s21 s22 s23 l24 l25 z26=>bO1 (T1 n z10 z11 s12 s13 s14 l15 l16 z17 z19 z20 s21 s22 s23 l24 l25 z26) fun b27=>AL (!b27) fun b28=>(if b28=true then some false else AJ (IntKind.wrap .i64 (z7+1)) fun z29=>Fw n l1 l2 z6 z29)else some true)
def Lv:Nat->LD->LD->Option (Bool)
 | 0,_,_=>none
 | n+1,l1,l2=>
  AE l1 fun z3=>AE l2 fun z4=>(if z3=z4 then Fv n l1 l2 false else Fv n l1 l2 true)
def T1:Nat->Int->Int->BA->BA->BA->LD->LD->Int->Int->Int->BA->BA->BA->LD->LD->Int->Option (Bool)
 | 0,_,_,_,_,_,_,_,_,_,_,_,_,_,_,_,_=>none
 | n+1,z1,z2,s3,s4,s5,l6,l7,z8,z9,z10,s11,s12,s13,l14,l15,z16=>
  (if z1=z9 then (if z2=z10 then (if s3=s11 then (if s4=s12 then bO1 (U6 n s5 l6 s13 l14) fun b17=>(if b17=true then bO1 (Lv n l7 l15) fun b18=>some b18 else some false)else some false)else some false)else some false)else some false)
end
noncomputable def oI:BX:=⟨118,Tryz.f118,[.q 8,.q 8,.one (.fn 62 [])],[],⟨.one (.b),[],[]⟩,Bool,inferInstance,Lv,[⟨13,[0,1,2,6,14],[],192,[.q 8,.q 8,.one (.fn 62 []),.one (.cb false),.b],[],fun n l1 l2 b5=>Fv n l1 l2 b5⟩,
 ⟨58,[1,2,6,15,16,17],[],288,[.q 8,.one (.fn 62 []),.one (.cb false),.q 8,.z,.z],[],fun n l2 l1 z6 z7=>Fw n l1 l2 z6 z7⟩,
 ⟨233,[1,2,6,15,16,17,18],[],320,[.q 8,.one (.fn 62 []),.one (.cb false),.q 8,.z,.z,.b],[],fun n l2 l1 z6 z7 b8=>Gk n l1 l2 z6 z7 b8⟩]⟩
noncomputable def yM:BX:=⟨62,Tryz.f62,[.agg [.y,.z,.str,.str,.str,.f 1,.q 8,.z],.agg [.y,.z,.str,.str,.str,.f 1,.q 8,.z]],[],⟨.one (.b),[],[]⟩,Bool,inferInstance,T1,[]⟩
theorem oJ:Cv Tryz.prog inv (OG [oI,yM]):=gr [oH] ⟨⟨Tryz.func118,by kernel_rfl,by kernel_rfl,by kernel_rfl⟩,⟨Tryz.func62,by kernel_rfl,by kernel_rfl,by kernel_rfl⟩,trivial⟩
noncomputable def vR:Kz:=⟨oI.c,oJ.1⟩
noncomputable def yN:Kz:=⟨yM.c,oJ.2.1⟩
theorem T62 (n:Nat):∀⦃z1 z2 s3 s4 s5 l6 l7 z8 z9 z10 s11 s12 s13 l14 l15 z16 r1⦄,T1 n z1 z2 s3 s4 s5 l6 l7 z8 z9 z10 s11 s12 s13 l14 l15 z16=some r1->
  Ah Tryz.prog inv 62 [.d (.agg [.int .u8 z1,.int .i64 z2,.str s3,.str s4,.str s5,.list false 1 l6,.list true 8 l7,.int .i64 z8]),.d (.agg [.int .u8 z9,.int .i64 z10,.str s11,.str s12,.str s13,.list false 1 l14,.list true 8 l15,.int .i64 z16])] [] (.v (.d (.bool r1))) [] []:=fun z1 z2 s3 s4 s5 l6 l7 z8 z9 z10 s11 s12 s13 l14 l15 z16 r1 h=>yN.ok n [.I z1,.I z2,.S s3,.S s4,.S s5,.L l6,.L l7,.I z8,.I z9,.I z10,.S s11,.S s12,.S s13,.L l14,.L l15,.I z16] _ h _ _ _ _ _ _ rfl rfl rfl rfl _ rfl
mutual
def cO:Nat->BA->BA->LD->BA->BA->LD->Option (Bool)
 | 0,_,_,_,_,_,_=>none
 | n+1,s1,s2,l3,s4,s5,l6=>
  (if s1=s4 then (if s2=s5 then bO1 (fP n l3 l6) fun b7=>some b7 else some false)else some false)
def Na:Nat->LD->LD->Bool->Option (Bool)
 | 0,_,_,_=>none
 | n+1,l1,l2,b5=>
  (if b5=true then some false else AE l1 fun z6=>K6 n l1 l2 z6 (0:Int))
def K6:Nat->LD->LD->Int->Int->Option (Bool)
 | 0,_,_,_,_=>none
 | n+1,l1,l2,z6,z7=>
  (if z7<z6 then Nb n l1 l2 z6 z7 true else Nb n l1 l2 z6 z7 false)
def Nb:Nat->LD->LD->Int->Int->Bool->Option (Bool)
 | 0,_,_,_,_,_=>none
 | n+1,l1,l2,z6,z7,b8=>
  (if b8=true then Ap l1 z7 fun x9=>Bf x9 fun s10 s11 l12=>Ap l2 z7 fun x13=>Bf x13 fun s14 s15 l16=>bO1 (cO n s10 s11 l12 s14 s15 l16) fun b17=>AL (!b17) fun b18=>(if b18=true then some false else AJ (IntKind.wrap .i64 (z7+1)) fun z19=>K6 n l1 l2 z6 z19)else some true)
def ZQ:Nat->LD->LD->Option (Bool)
 | 0,_,_=>none
 | n+1,l1,l2=>
  AE l1 fun z3=>AE l2 fun z4=>(if z3=z4 then Na n l1 l2 false else Na n l1 l2 true)
def cQ:Nat->Int->BA->BA->LD->Int->BA->LD->Int->BA->LD->LD->LD->LD->LD->Int->Int->BA->BA->LD->Int->BA->LD->Int->BA->LD->LD->LD->LD->LD->Int->Option (Bool)
 | 0,_,_,_,_,_,_,_,_,_,_,_,_,_,_,_,_,_,_,_,_,_,_,_,_,_,_,_,_,_,_=>none
 | n+1,z1,s2,s3,l4,z5,s6,l7,z8,s9,l10,l11,l12,l13,l14,z15,z16,s17,s18,l19,z20,s21,l22,z23,s24,l25,l26,l27,l28,l29,z30=>
  (if z1=z16 then (if s2=s17 then (if s3=s18 then bO1 (S4 n l4 l19) fun b31=>(if b31=true then bO1 (cN n z5 s6 l7 z20 s21 l22) fun b32=>(if b32=true then (if z8=z23 then bO1 (U6 n s9 l10 s24 l25) fun b33=>(if b33=true then bO1 (Lv n l11 l26) fun b34=>(if b34=true then bO1 (fP n l12 l27) fun b35=>(if b35=true then bO1 (fP n l13 l28) fun b36=>(if b36=true then bO1 (ZQ n l14 l29) fun b37=>some b37 else some false)else some false)else some false)else some false)else some false)else some false)else some false)else some false)else some false)else some false)
def Nc:Nat->LD->LD->Bool->Option (Bool)
 | 0,_,_,_=>none
 | n+1,l1,l2,b5=>
  (if b5=true then some false else AE l1 fun z6=>K7 n l1 l2 z6 (0:Int))
def K7:Nat->LD->LD->Int->Int->Option (Bool)
 | 0,_,_,_,_=>none
 | n+1,l1,l2,z6,z7=>
  (if z7<z6 then Nd n l1 l2 z6 z7 true else Nd n l1 l2 z6 z7 false)
def Nd:Nat->LD->LD->Int->Int->Bool->Option (Bool)
 | 0,_,_,_,_,_=>none
 | n+1,l1,l2,z6,z7,b8=>
  (if b8=true then Ap l1 z7 fun x9=>BJ x9 fun z10 s11 s12 l13 z14 s15 l16 z17 s18 l19 l20 l21 l22 l23 z24=>Ap l2 z7 fun x25=>BJ x25 fun z26 s27 s28 l29 z30 s31 l32 z33 s34 l35 l36 l37 l38 l39 z40=>bO1 (cQ n z10 s11 s12 l13 z14 s15 l16 z17 s18 l19 l20 l21 l22 l23 z24 z26 s27 s28 l29 z30 s31 l32 z33 s34 l35 l36 l37 l38 l39 z40) fun b41=>AL (!b41) fun b42=>(if b42=true then some false else AJ (IntKind.wrap .i64 (z7+1)) fun z43=>K7 n l1 l2 z6 z43)else some true)
def cS:Nat->LD->LD->Option (Bool)
 | 0,_,_=>none
 | n+1,l1,l2=>
  AE l1 fun z3=>AE l2 fun z4=>(if z3=z4 then Nc n l1 l2 false else Nc n l1 l2 true)
def fP:Nat->LD->LD->Option (Bool)
 | 0,_,_=>none
 | n+1,l1,l2=>
  bO1 (cS n l1 l2) fun b3=>some b3
end
noncomputable def vS:BX:=⟨141,Tryz.f141,[.agg [.str,.str,.q 15],.agg [.str,.str,.q 15]],[],⟨.one (.b),[],[]⟩,Bool,inferInstance,cO,[]⟩
noncomputable def vT:BX:=⟨140,Tryz.f140,[.q 3,.q 3,.one (.fn 141 [])],[],⟨.one (.b),[],[]⟩,Bool,inferInstance,ZQ,[⟨13,[0,1,2,6,14],[],192,[.q 3,.q 3,.one (.fn 141 []),.one (.cb false),.b],[],fun n l1 l2 b5=>Na n l1 l2 b5⟩,
 ⟨58,[1,2,6,15,16,17],[],288,[.q 3,.one (.fn 141 []),.one (.cb false),.q 3,.z,.z],[],fun n l2 l1 z6 z7=>K6 n l1 l2 z6 z7⟩,
 ⟨233,[1,2,6,15,16,17,18],[],320,[.q 3,.one (.fn 141 []),.one (.cb false),.q 3,.z,.z,.b],[],fun n l2 l1 z6 z7 b8=>Nb n l1 l2 z6 z7 b8⟩]⟩
noncomputable def vU:BX:=⟨120,Tryz.f120,[.agg [.y,.str,.str,.f 1,.y,.str,.q 3,.z,.str,.f 1,.q 8,.q 15,.q 15,.q 3,.z],.agg [.y,.str,.str,.f 1,.y,.str,.q 3,.z,.str,.f 1,.q 8,.q 15,.q 15,.q 3,.z]],[],⟨.one (.b),[],[]⟩,Bool,inferInstance,cQ,[]⟩
noncomputable def vV:BX:=⟨119,Tryz.f119,[.q 15,.q 15,.one (.fn 120 [])],[],⟨.one (.b),[],[]⟩,Bool,inferInstance,cS,[⟨13,[0,1,2,6,14],[],192,[.q 15,.q 15,.one (.fn 120 []),.one (.cb false),.b],[],fun n l1 l2 b5=>Nc n l1 l2 b5⟩,
 ⟨58,[1,2,6,15,16,17],[],288,[.q 15,.one (.fn 120 []),.one (.cb false),.q 15,.z,.z],[],fun n l2 l1 z6 z7=>K7 n l1 l2 z6 z7⟩,
 ⟨233,[1,2,6,15,16,17,18],[],320,[.q 15,.one (.fn 120 []),.one (.cb false),.q 15,.z,.z,.b],[],fun n l2 l1 z6 z7 b8=>Nd n l1 l2 z6 z7 b8⟩]⟩
noncomputable def yO:BX:=⟨63,Tryz.f63,[.q 15,.q 15],[],⟨.one (.b),[],[]⟩,Bool,inferInstance,fP,[]⟩
theorem vW:Cv Tryz.prog inv (OG [vS,vT,vU,vV,yO]):=gr [oH,vR,oG,vO] ⟨⟨Tryz.func141,by kernel_rfl,by kernel_rfl,by kernel_rfl⟩,⟨Tryz.func140,by kernel_rfl,by kernel_rfl,by kernel_rfl⟩,⟨Tryz.func120,by kernel_rfl,by kernel_rfl,by kernel_rfl⟩,⟨Tryz.func119,by kernel_rfl,by kernel_rfl,by kernel_rfl⟩,⟨Tryz.func63,by kernel_rfl,by kernel_rfl,by kernel_rfl⟩,trivial⟩
noncomputable def k63:Kz:=⟨yO.c,vW.2.2.2.2.1⟩
def rU (n:Nat) (s1:BA) (z2:Int) (s3:BA) (l4:LD) (s5:BA) (z6:Int) (s7:BA) (l8:LD):Option (Bool):=
 (if s1=s5 then bO1 (cN n z2 s3 l4 z6 s7 l8) fun b9=>some b9 else some false)
noncomputable def X65:BX:=⟨65,Tryz.f65,[.agg [.str,.y,.str,.q 3],.agg [.str,.y,.str,.q 3]],[],⟨.one (.b),[],[]⟩,Bool,inferInstance,rU,[]⟩
noncomputable def k65:Kz:=sg X65 [vO] Tryz.func65 (by kernel_rfl) (by kernel_rfl) (by kernel_rfl)
mutual
def PX:Nat->LD->LD->Int->Int->Option (Bool)
 | 0,_,_,_,_=>none
 | n+1,l1,l2,z6,z7=>
  (if z7<z6 then S5 n l1 l2 z6 z7 true else S5 n l1 l2 z6 z7 false)
def S5:Nat->LD->LD->Int->Int->Bool->Option (Bool)
 | 0,_,_,_,_,_=>none
 | n+1,l1,l2,z6,z7,b8=>
  (if b8=true then Ap l1 z7 fun x9=>Bv x9 fun s10 z11 s12 l13=>Ap l2 z7 fun x14=>Bv x14 fun s15 z16 s17 l18=>bO1 (rU n s10 z11 s12 l13 s15 z16 s17 l18) fun b19=>AL (!b19) fun b20=>(if b20=true then some false else AJ (IntKind.wrap .i64 (z7+1)) fun z21=>PX n l1 l2 z6 z21)else some true)
end
def S6:Nat->LD->LD->Bool->Option (Bool)
 | 0,_,_,_=>none
 | n+1,l1,l2,b5=>
  (if b5=true then some false else AE l1 fun z6=>PX n l1 l2 z6 (0:Int))
def oL (n:Nat) (l1:LD) (l2:LD):Option (Bool):=
 AE l1 fun z3=>AE l2 fun z4=>(if z3=z4 then S6 n l1 l2 false else S6 n l1 l2 true)
noncomputable def X64:BX:=⟨64,Tryz.f64,[.q 4,.q 4,.one (.fn 65 [])],[],⟨.one (.b),[],[]⟩,Bool,inferInstance,oL,[⟨13,[0,1,2,6,14],[],192,[.q 4,.q 4,.one (.fn 65 []),.one (.cb false),.b],[],fun n l1 l2 b5=>S6 n l1 l2 b5⟩,
 ⟨58,[1,2,6,15,16,17],[],288,[.q 4,.one (.fn 65 []),.one (.cb false),.q 4,.z,.z],[],fun n l2 l1 z6 z7=>PX n l1 l2 z6 z7⟩,
 ⟨233,[1,2,6,15,16,17,18],[],320,[.q 4,.one (.fn 65 []),.one (.cb false),.q 4,.z,.z,.b],[],fun n l2 l1 z6 z7 b8=>S5 n l1 l2 z6 z7 b8⟩]⟩
noncomputable def k64:Kz:=sg X64 [k65] Tryz.func64 (by kernel_rfl) (by kernel_rfl) (by kernel_rfl)
def rV (n:Nat) (z1:Int) (s2:BA) (l3:LD) (z4:Int) (s5:BA) (l6:LD) (l7:LD) (z8:Int) (z9:Int) (s10:BA) (s11:BA) (s12:BA) (l13:LD) (l14:LD) (z15:Int) (z16:Int) (z17:Int) (s18:BA) (l19:LD) (z20:Int) (s21:BA) (l22:LD) (l23:LD) (z24:Int) (z25:Int) (s26:BA) (s27:BA) (s28:BA) (l29:LD) (l30:LD) (z31:Int) (z32:Int):Option (Bool):=
 (if z1=z17 then (if s2=s18 then bO1 (cN n z4 s5 l6 z20 s21 l22) fun b33=>(if b33=true then bO1 (T1 n z8 z9 s10 s11 s12 l13 l14 z15 z24 z25 s26 s27 s28 l29 l30 z31) fun b34=>(if b34=true then bO1 (fP n l7 l23) fun b35=>(if b35=true then bO1 (oL n l3 l19) fun b36=>some b36 else some false)else some false)else some false)else some false)else some false)
noncomputable def X60:BX:=⟨60,Tryz.f60,[.agg [.y,.str,.q 4,.y,.str,.q 3,.q 15,.y,.z,.str,.str,.str,.f 1,.q 8,.z,.z],.agg [.y,.str,.q 4,.y,.str,.q 3,.q 15,.y,.z,.str,.str,.str,.f 1,.q 8,.z,.z]],[],⟨.one (.b),[],[]⟩,Bool,inferInstance,rV,[]⟩
noncomputable def k60:Kz:=sg X60 [vO,yN,k63,k64] Tryz.func60 (by kernel_rfl) (by kernel_rfl) (by kernel_rfl)
mutual
def PY:Nat->LD->LD->Int->Int->Option (Bool)
 | 0,_,_,_,_=>none
 | n+1,l1,l2,z6,z7=>
  (if z7<z6 then S7 n l1 l2 z6 z7 true else S7 n l1 l2 z6 z7 false)
def S7:Nat->LD->LD->Int->Int->Bool->Option (Bool)
 | 0,_,_,_,_,_=>none
 | n+1,l1,l2,z6,z7,b8=>
  (if b8=true then Ap l1 z7 fun x9=>BU x9 fun z10 s11 l12 z13 s14 l15 l16 z17 z18 s19 s20 s21 l22 l23 z24 z25=>Ap l2 z7 fun x26=>BU x26 fun z27 s28 l29 z30 s31 l32 l33 z34 z35 s36 s37 s38 l39 l40 z41 z42=>bO1 (rV n z10 s11 l12 z13 s14 l15 l16 z17 z18 s19 s20 s21 l22 l23 z24 z25 z27 s28 l29 z30 s31 l32 l33 z34 z35 s36 s37 s38 l39 l40 z41 z42) fun b43=>AL (!b43) fun b44=>(if b44=true then some false else AJ (IntKind.wrap .i64 (z7+1)) fun z45=>PY n l1 l2 z6 z45)else some true)
end
def S8:Nat->LD->LD->Bool->Option (Bool)
 | 0,_,_,_=>none
 | n+1,l1,l2,b5=>
  (if b5=true then some false else AE l1 fun z6=>PY n l1 l2 z6 (0:Int))
def rX (n:Nat) (l1:LD) (l2:LD):Option (Bool):=
 AE l1 fun z3=>AE l2 fun z4=>(if z3=z4 then S8 n l1 l2 false else S8 n l1 l2 true)
noncomputable def X59:BX:=⟨59,Tryz.f59,[.q 16,.q 16,.one (.fn 60 [])],[],⟨.one (.b),[],[]⟩,Bool,inferInstance,rX,[⟨13,[0,1,2,6,14],[],192,[.q 16,.q 16,.one (.fn 60 []),.one (.cb false),.b],[],fun n l1 l2 b5=>S8 n l1 l2 b5⟩,
 ⟨58,[1,2,6,15,16,17],[],288,[.q 16,.one (.fn 60 []),.one (.cb false),.q 16,.z,.z],[],fun n l2 l1 z6 z7=>PY n l1 l2 z6 z7⟩,
 ⟨233,[1,2,6,15,16,17,18],[],320,[.q 16,.one (.fn 60 []),.one (.cb false),.q 16,.z,.z,.b],[],fun n l2 l1 z6 z7 b8=>S7 n l1 l2 z6 z7 b8⟩]⟩
noncomputable def k59:Kz:=sg X59 [k60] Tryz.func59 (by kernel_rfl) (by kernel_rfl) (by kernel_rfl)
def XJ (n:Nat) (l1:LD) (l2:LD):Option (Bool):=
 bO1 (rX n l1 l2) fun b3=>some b3
noncomputable def X25:BX:=⟨25,Tryz.f25,[.agg [.q 16],.agg [.q 16]],[],⟨.one (.b),[],[]⟩,Bool,inferInstance,XJ,[]⟩
noncomputable def yP:Kz:=sg X25 [k59] Tryz.func25 (by kernel_rfl) (by kernel_rfl) (by kernel_rfl)
theorem T25 (n:Nat):∀⦃l1 l2 r1⦄,XJ n l1 l2=some r1->
  Ah Tryz.prog inv 25 [.d (.agg [.list true 16 l1]),.d (.agg [.list true 16 l2])] [] (.v (.d (.bool r1))) [] []:=fun l1 l2 r1 h=>yP.ok n [.L l1,.L l2] _ h _ _ _ _ _ _ rfl rfl rfl rfl _ rfl
end Go.Proofs.YtjmofeakajdbiaaGreatDoor
end
set_option linter.unusedVariables false
noncomputable section
namespace Go.Proofs.YtjmofeakajdbiaaGreatDoor
open Go Go.AM
def BV (A:Nat→Option Bool) (P:Prop):Prop:=∃b,Ev A b∧(b=true↔P)
theorem BV.iff {A:Nat→Option Bool}{P Q:Prop}(h:BV A P) (hq:P↔Q):BV A Q:=h.imp fun _ h=>⟨h.1,h.2.trans hq⟩
theorem BV.ite {A:Nat→Option Bool}{P c:Prop} [Decidable c] (h:c→BV A P):BV (fun n=>if c then A n else some false) (c∧P):=by
 by_cases hc:c
 ·obtain⟨b,h1,h2⟩:=h hc
  exact⟨b,by simp only[if_pos hc];exact h1,h2.trans ⟨fun p=>⟨hc,p⟩,fun p=>p.2⟩⟩
 ·exact⟨false,by simp only[if_neg hc];exact .ret,by simp[hc]⟩
theorem BV.bO1 {A B:Nat→Option Bool}{P Q:Prop}(h:BV A P) (hB:P→BV B Q):BV (fun n=>AM.bO1 (A n) fun b=>if b=true then B n else some false) (P∧Q):=by
 obtain⟨b,h1,h2⟩:=h
 cases b with
 | true=>
  have p:=h2.1 rfl
  obtain⟨c,h3,h4⟩:=hB p
  exact⟨c,Ev.bO1 h1 (by simp only[if_true];exact h3),h4.trans ⟨fun x=>⟨p,x⟩,fun x=>x.2⟩⟩
 | false=>exact⟨false,Ev.bO1 h1 (by simp only[Bool.false_eq_true,if_false];exact .ret),by simp only[Bool.false_eq_true,false_iff];exact fun x=>by have:=h2.2 x.1;cases this⟩
theorem BV.last {A:Nat→Option Bool}{P:Prop}(h:BV A P):BV (fun n=>AM.bO1 (A n) fun b=>some b) P:=h.imp fun b h=>⟨Ev.bO1 h.1 .ret,h.2⟩
theorem BV.succ {A:Nat→Option Bool}{P:Prop}(h:BV (fun n=>A (n+1)) P):BV A P:=h.imp fun b h=>⟨.succ h.1,h.2⟩
theorem PZ {G:Nat→Int→Option Bool}{P:Nat→Prop}(N:Nat) (h0:Ev (fun n=>G n ((N:Nat):Int)) true) (hs:∀i,i<N→∃b:Bool,(b=true↔P i)∧(b=true→∀{r:Bool},Ev (fun n=>G n ((i+1:Nat):Int)) r→Ev (fun n=>G n (i:Int)) r)∧(b=false→Ev (fun n=>G n (i:Int)) false)):∀i,i≤N→BV (fun n=>G n (i:Int)) (∀j,i≤j→j<N→P j):=by
 refine down N ⟨true,h0,by simp only[true_iff];intro j h1 h2;omega⟩ fun i hi ih=>?_
 obtain⟨b,b1,b2,b3⟩:=hs i hi
 cases b with
 | true=>
  obtain⟨c,c1,c2⟩:=ih
  refine⟨c,b2 rfl c1,c2.trans ⟨fun h j h1 h2=>?_,fun h j h1 h2=>h j (by omega) h2⟩⟩
  by_cases e:j=i
  ·subst e;exact b1.1 rfl
  ·exact h j (by omega) h2
 | false=>exact⟨false,b3 rfl,by simp only[Bool.false_eq_true,false_iff];exact fun h=>by have:=b1.2 (h i (Nat.le_refl _) hi);cases this⟩
theorem all_eq {l r q:List D}(h1:r.length=l.length) (h2:q.length=l.length):(∀j,0≤j→j<l.length→r[j]?=q[j]?)↔r=q:=by
 constructor
 ·intro h
  refine List.ext_getElem? fun j=>?_
  by_cases c:j<l.length
  ·exact h j (Nat.zero_le _) c
  ·rw[List.getElem?_eq_none (by omega),List.getElem?_eq_none (by omega)]
 ·rintro rfl;intros;rfl
theorem K8 {l m r q:List D}(hr:r.length=l.length) (hq:q.length=m.length) {G1:Nat→Bool→Option Bool}{G2:Nat→Int→Option Bool}(s1:∀b,Ev (fun n=>G2 n ((0:Nat):Int)) b→Ev (fun n=>G1 n false) b) (s2:Ev (fun n=>G1 n true) false) (s3:Ev (fun n=>G2 n (l.length:Int)) true) (hrow:∀i,i<l.length→i<m.length→∃b:Bool,(b=true↔r[i]?=q[i]?)∧∀R,(b=true→Ev (fun n=>G2 n ((i+1:Nat):Int)) R)→Ev (fun n=>G2 n (i:Int)) (b&&R)):BV (fun n=>if (l.length:Int)=(m.length:Int)then G1 n false else G1 n true) (r=q):=by
 by_cases c:l.length=m.length
 ·have cc:(l.length:Int)=(m.length:Int):=by omega
  obtain⟨b,h1,h2⟩:=PZ (G:=G2) (P:=fun j=>r[j]?=q[j]?) l.length s3 (fun i hi=>by
   obtain⟨b,b1,b2⟩:=hrow i hi (by omega)
   refine⟨b,b1,fun hb {R} hE=>?_,fun hb=>?_⟩
   ·have:=b2 R fun _=>hE;rw[hb,Bool.true_and]at this;exact this
   ·have:=b2 true fun h=>by rw[hb]at h;cases h
    rw[hb,Bool.false_and]at this;exact this) 0 (Nat.zero_le _)
  simp only[if_pos cc]
  exact⟨b,s1 b h1,h2.trans (all_eq hr (hq.trans c.symm))⟩
 ·have cc:¬(l.length:Int)=(m.length:Int):=by omega
  simp only[if_neg cc]
  exact⟨false,s2,by simp only[Bool.false_eq_true,false_iff];intro e;exact c (by rw[←hr,←hq,e])⟩
theorem oM {l m r q:List D}(hl:l.length≤maxLen) (hr:r.length=l.length) (hq:q.length=m.length) (hrow:∀(i:Nat) (x y:D),l[i]?=some x→m[i]?=some y→∃(a0:Int) (a1:Int) (a2:ByteArray) (a3:ByteArray) (a4:ByteArray) (a5:List D) (a6:List D) (a7:Int) (b0:Int) (b1:Int) (b2:ByteArray) (b3:ByteArray) (b4:ByteArray) (b5:List D) (b6:List D) (b7:Int),x= .agg [.int .u8 a0,.int .i64 a1,.str a2,.str a3,.str a4,.list false 1 a5,.list true 8 a6,.int .i64 a7]∧y= .agg [.int .u8 b0,.int .i64 b1,.str b2,.str b3,.str b4,.list false 1 b5,.list true 8 b6,.int .i64 b7]∧BV (fun n=>T1 n a0 a1 a2 a3 a4 a5 a6 a7 b0 b1 b2 b3 b4 b5 b6 b7) (r[i]?=q[i]?)):BV (fun n=>Lv n l m) (r=q):=by
 refine BV.succ ?_
 simp only[Lv,AE]
 refine K8 (G2:=fun n i=>Fw n l m (l.length:Int) i) hr hq (fun _ h=>.succ (by simp only[Fv,Bool.false_eq_true,if_false,AE];exact h)) (.succ (by simp only[Fv,if_true];exact .ret)) (.succ (by simp only[Fw,Int.lt_irrefl,if_false];exact .succ (by simp only[Gk,Bool.false_eq_true,if_false];exact .ret))) fun i hi h2=>?_
 obtain⟨a0,a1,a2,a3,a4,a5,a6,a7,b0,b1,b2,b3,b4,b5,b6,b7,e1,e2,b,e3,e4⟩:=hrow i _ _ (List.getElem?_eq_getElem hi) (List.getElem?_eq_getElem h2)
 refine⟨b,e4,fun R hE=>.succ ?_⟩
 simp only[Fw,if_pos (Cn hi)]
 refine .succ ?_
 simp only[Gk,if_true,AH (List.getElem?_eq_getElem hi),e1,BD,AH (List.getElem?_eq_getElem h2),e2]
 refine Ev.bO1 e3 ?_
 cases b with
 | true=>simp only[AL,Bool.not_true,Bool.false_eq_true,if_false,AJ,AG hi hl,Bool.true_and];exact hE rfl
 | false=>simp only[AL,Bool.not_false,if_true,Bool.false_and];exact .ret
theorem oO {l m r q:List D}(hl:l.length≤maxLen) (hr:r.length=l.length) (hq:q.length=m.length) (hrow:∀(i:Nat) (x y:D),l[i]?=some x→m[i]?=some y→∃(a0:Int) (a1:ByteArray) (a2:List D) (b0:Int) (b1:ByteArray) (b2:List D),x= .agg [.int .u8 a0,.str a1,.list true 3 a2]∧y= .agg [.int .u8 b0,.str b1,.list true 3 b2]∧BV (fun n=>cN n a0 a1 a2 b0 b1 b2) (r[i]?=q[i]?)):BV (fun n=>XI n l m) (r=q):=by
 refine BV.succ ?_
 simp only[XI,AE]
 refine K8 (G2:=fun n i=>K5 n l m (l.length:Int) i) hr hq (fun _ h=>.succ (by simp only[NX,Bool.false_eq_true,if_false,AE];exact h)) (.succ (by simp only[NX,if_true];exact .ret)) (.succ (by simp only[K5,Int.lt_irrefl,if_false];exact .succ (by simp only[NY,Bool.false_eq_true,if_false];exact .ret))) fun i hi h2=>?_
 obtain⟨a0,a1,a2,b0,b1,b2,e1,e2,b,e3,e4⟩:=hrow i _ _ (List.getElem?_eq_getElem hi) (List.getElem?_eq_getElem h2)
 refine⟨b,e4,fun R hE=>.succ ?_⟩
 simp only[K5,if_pos (Cn hi)]
 refine .succ ?_
 simp only[NY,if_true,AH (List.getElem?_eq_getElem hi),e1,Cf,AH (List.getElem?_eq_getElem h2),e2]
 refine Ev.bO1 e3 ?_
 cases b with
 | true=>simp only[AL,Bool.not_true,Bool.false_eq_true,if_false,AJ,AG hi hl,Bool.true_and];exact hE rfl
 | false=>simp only[AL,Bool.not_false,if_true,Bool.false_and];exact .ret
theorem oP {l m r q:List D}(hl:l.length≤maxLen) (hr:r.length=l.length) (hq:q.length=m.length) (hrow:∀(i:Nat) (x y:D),l[i]?=some x→m[i]?=some y→∃(a0:ByteArray) (a1:ByteArray) (a2:List D) (b0:ByteArray) (b1:ByteArray) (b2:List D),x= .agg [.str a0,.str a1,.list true 15 a2]∧y= .agg [.str b0,.str b1,.list true 15 b2]∧BV (fun n=>cO n a0 a1 a2 b0 b1 b2) (r[i]?=q[i]?)):BV (fun n=>ZQ n l m) (r=q):=by
 refine BV.succ ?_
 simp only[ZQ,AE]
 refine K8 (G2:=fun n i=>K6 n l m (l.length:Int) i) hr hq (fun _ h=>.succ (by simp only[Na,Bool.false_eq_true,if_false,AE];exact h)) (.succ (by simp only[Na,if_true];exact .ret)) (.succ (by simp only[K6,Int.lt_irrefl,if_false];exact .succ (by simp only[Nb,Bool.false_eq_true,if_false];exact .ret))) fun i hi h2=>?_
 obtain⟨a0,a1,a2,b0,b1,b2,e1,e2,b,e3,e4⟩:=hrow i _ _ (List.getElem?_eq_getElem hi) (List.getElem?_eq_getElem h2)
 refine⟨b,e4,fun R hE=>.succ ?_⟩
 simp only[K6,if_pos (Cn hi)]
 refine .succ ?_
 simp only[Nb,if_true,AH (List.getElem?_eq_getElem hi),e1,Bf,AH (List.getElem?_eq_getElem h2),e2]
 refine Ev.bO1 e3 ?_
 cases b with
 | true=>simp only[AL,Bool.not_true,Bool.false_eq_true,if_false,AJ,AG hi hl,Bool.true_and];exact hE rfl
 | false=>simp only[AL,Bool.not_false,if_true,Bool.false_and];exact .ret
theorem oQ {l m r q:List D}(hl:l.length≤maxLen) (hr:r.length=l.length) (hq:q.length=m.length) (hrow:∀(i:Nat) (x y:D),l[i]?=some x→m[i]?=some y→∃(a0:Int) (a1:ByteArray) (a2:ByteArray) (a3:List D) (a4:Int) (a5:ByteArray) (a6:List D) (a7:Int) (a8:ByteArray) (a9:List D) (a10:List D) (a11:List D) (a12:List D) (a13:List D) (a14:Int) (b0:Int) (b1:ByteArray) (b2:ByteArray) (b3:List D) (b4:Int) (b5:ByteArray) (b6:List D) (b7:Int) (b8:ByteArray) (b9:List D) (b10:List D) (b11:List D) (b12:List D) (b13:List D) (b14:Int),x= .agg [.int .u8 a0,.str a1,.str a2,.list false 1 a3,.int .u8 a4,.str a5,.list true 3 a6,.int .i64 a7,.str a8,.list false 1 a9,.list true 8 a10,.list true 15 a11,.list true 15 a12,.list true 3 a13,.int .i64 a14]∧y= .agg [.int .u8 b0,.str b1,.str b2,.list false 1 b3,.int .u8 b4,.str b5,.list true 3 b6,.int .i64 b7,.str b8,.list false 1 b9,.list true 8 b10,.list true 15 b11,.list true 15 b12,.list true 3 b13,.int .i64 b14]∧BV (fun n=>cQ n a0 a1 a2 a3 a4 a5 a6 a7 a8 a9 a10 a11 a12 a13 a14 b0 b1 b2 b3 b4 b5 b6 b7 b8 b9 b10 b11 b12 b13 b14) (r[i]?=q[i]?)):BV (fun n=>cS n l m) (r=q):=by
 refine BV.succ ?_
 simp only[cS,AE]
 refine K8 (G2:=fun n i=>K7 n l m (l.length:Int) i) hr hq (fun _ h=>.succ (by simp only[Nc,Bool.false_eq_true,if_false,AE];exact h)) (.succ (by simp only[Nc,if_true];exact .ret)) (.succ (by simp only[K7,Int.lt_irrefl,if_false];exact .succ (by simp only[Nd,Bool.false_eq_true,if_false];exact .ret))) fun i hi h2=>?_
 obtain⟨a0,a1,a2,a3,a4,a5,a6,a7,a8,a9,a10,a11,a12,a13,a14,b0,b1,b2,b3,b4,b5,b6,b7,b8,b9,b10,b11,b12,b13,b14,e1,e2,b,e3,e4⟩:=hrow i _ _ (List.getElem?_eq_getElem hi) (List.getElem?_eq_getElem h2)
 refine⟨b,e4,fun R hE=>.succ ?_⟩
 simp only[K7,if_pos (Cn hi)]
 refine .succ ?_
 simp only[Nd,if_true,AH (List.getElem?_eq_getElem hi),e1,BJ,AH (List.getElem?_eq_getElem h2),e2]
 refine Ev.bO1 e3 ?_
 cases b with
 | true=>simp only[AL,Bool.not_true,Bool.false_eq_true,if_false,AJ,AG hi hl,Bool.true_and];exact hE rfl
 | false=>simp only[AL,Bool.not_false,if_true,Bool.false_and];exact .ret
theorem vX {l m r q:List D}(hl:l.length≤maxLen) (hr:r.length=l.length) (hq:q.length=m.length) (hrow:∀(i:Nat) (x y:D),l[i]?=some x→m[i]?=some y→∃(a0:ByteArray) (a1:Int) (a2:ByteArray) (a3:List D) (b0:ByteArray) (b1:Int) (b2:ByteArray) (b3:List D),x= .agg [.str a0,.int .u8 a1,.str a2,.list true 3 a3]∧y= .agg [.str b0,.int .u8 b1,.str b2,.list true 3 b3]∧BV (fun n=>rU n a0 a1 a2 a3 b0 b1 b2 b3) (r[i]?=q[i]?)):BV (fun n=>oL n l m) (r=q):=by
 skip
 simp only[oL,AE]
 refine K8 (G2:=fun n i=>PX n l m (l.length:Int) i) hr hq (fun _ h=>.succ (by simp only[S6,Bool.false_eq_true,if_false,AE];exact h)) (.succ (by simp only[S6,if_true];exact .ret)) (.succ (by simp only[PX,Int.lt_irrefl,if_false];exact .succ (by simp only[S5,Bool.false_eq_true,if_false];exact .ret))) fun i hi h2=>?_
 obtain⟨a0,a1,a2,a3,b0,b1,b2,b3,e1,e2,b,e3,e4⟩:=hrow i _ _ (List.getElem?_eq_getElem hi) (List.getElem?_eq_getElem h2)
 refine⟨b,e4,fun R hE=>.succ ?_⟩
 simp only[PX,if_pos (Cn hi)]
 refine .succ ?_
 simp only[S5,if_true,AH (List.getElem?_eq_getElem hi),e1,Bv,AH (List.getElem?_eq_getElem h2),e2]
 refine Ev.bO1 e3 ?_
 cases b with
 | true=>simp only[AL,Bool.not_true,Bool.false_eq_true,if_false,AJ,AG hi hl,Bool.true_and];exact hE rfl
 | false=>simp only[AL,Bool.not_false,if_true,Bool.false_and];exact .ret
theorem vY {l m r q:List D}(hl:l.length≤maxLen) (hr:r.length=l.length) (hq:q.length=m.length) (hrow:∀(i:Nat) (x y:D),l[i]?=some x→m[i]?=some y→∃(a0:Int) (a1:ByteArray) (a2:List D) (a3:Int) (a4:ByteArray) (a5:List D) (a6:List D) (a7:Int) (a8:Int) (a9:ByteArray) (a10:ByteArray) (a11:ByteArray) (a12:List D) (a13:List D) (a14:Int) (a15:Int) (b0:Int) (b1:ByteArray) (b2:List D) (b3:Int) (b4:ByteArray) (b5:List D) (b6:List D) (b7:Int) (b8:Int) (b9:ByteArray) (b10:ByteArray) (b11:ByteArray) (b12:List D) (b13:List D) (b14:Int) (b15:Int),x= .agg [.int .u8 a0,.str a1,.list true 4 a2,.int .u8 a3,.str a4,.list true 3 a5,.list true 15 a6,.int .u8 a7,.int .i64 a8,.str a9,.str a10,.str a11,.list false 1 a12,.list true 8 a13,.int .i64 a14,.int .i64 a15]∧y= .agg [.int .u8 b0,.str b1,.list true 4 b2,.int .u8 b3,.str b4,.list true 3 b5,.list true 15 b6,.int .u8 b7,.int .i64 b8,.str b9,.str b10,.str b11,.list false 1 b12,.list true 8 b13,.int .i64 b14,.int .i64 b15]∧BV (fun n=>rV n a0 a1 a2 a3 a4 a5 a6 a7 a8 a9 a10 a11 a12 a13 a14 a15 b0 b1 b2 b3 b4 b5 b6 b7 b8 b9 b10 b11 b12 b13 b14 b15) (r[i]?=q[i]?)):BV (fun n=>rX n l m) (r=q):=by
 skip
 simp only[rX,AE]
 refine K8 (G2:=fun n i=>PY n l m (l.length:Int) i) hr hq (fun _ h=>.succ (by simp only[S8,Bool.false_eq_true,if_false,AE];exact h)) (.succ (by simp only[S8,if_true];exact .ret)) (.succ (by simp only[PY,Int.lt_irrefl,if_false];exact .succ (by simp only[S7,Bool.false_eq_true,if_false];exact .ret))) fun i hi h2=>?_
 obtain⟨a0,a1,a2,a3,a4,a5,a6,a7,a8,a9,a10,a11,a12,a13,a14,a15,b0,b1,b2,b3,b4,b5,b6,b7,b8,b9,b10,b11,b12,b13,b14,b15,e1,e2,b,e3,e4⟩:=hrow i _ _ (List.getElem?_eq_getElem hi) (List.getElem?_eq_getElem h2)
 refine⟨b,e4,fun R hE=>.succ ?_⟩
 simp only[PY,if_pos (Cn hi)]
 refine .succ ?_
 simp only[S7,if_true,AH (List.getElem?_eq_getElem hi),e1,BU,AH (List.getElem?_eq_getElem h2),e2]
 refine Ev.bO1 e3 ?_
 cases b with
 | true=>simp only[AL,Bool.not_true,Bool.false_eq_true,if_false,AJ,AG hi hl,Bool.true_and];exact hE rfl
 | false=>simp only[AL,Bool.not_false,if_true,Bool.false_and];exact .ret
theorem Nf {l m:List D}(hl:AD AI 9 l) (hm:AD AI 9 m):BV (fun n=>S4 n l m) (l=m):=by
 by_cases c:l.length=m.length
 ·have main:BV (fun n=>Gi n l m (l.length:Int) ((0:Nat):Int)) (∀j,0≤j→j<l.length→l[j]?=m[j]?):=by
   refine PZ (G:=fun n i=>Gi n l m (l.length:Int) i) l.length ?_ (fun i hi=>?_) 0 (Nat.zero_le _)
   ·refine .succ ?_
    simp only[Gi,Int.lt_irrefl,if_false]
    exact .succ (by simp only[JO,Bool.false_eq_true,if_false];exact .ret)
   ·have h2:i<m.length:=by omega
    obtain⟨x,hx,_,hr⟩:=hl.get hi
    obtain⟨y,hy,_,hr2⟩:=hm.get h2
    obtain⟨s,rfl,_⟩:=Z7 hr
    obtain⟨t,rfl,_⟩:=Z7 hr2
    by_cases e:s=t
    ·refine⟨true,by simp only[true_iff];rw[hx,hy,e],fun _ {R} hE=>?_,fun h=>by cases h⟩
     refine .succ ?_
     simp only[Gi,if_pos (Cn hi)]
     refine .succ ?_
     simp only[JO,if_true,AH hx,Bj,AH hy,if_pos e]
     refine .succ ?_
     simp only[NZ,Bool.false_eq_true,if_false,AJ,AG hi hl.1]
     exact hE
    ·refine⟨false,by simp only[Bool.false_eq_true,false_iff];rw[hx,hy];intro h;cases h;exact e rfl,(fun h=>by cases h),fun _=>?_⟩
     refine .succ ?_
     simp only[Gi,if_pos (Cn hi)]
     refine .succ ?_
     simp only[JO,if_true,AH hx,Bj,AH hy,if_neg e]
     exact .succ (by simp only[NZ,if_true];exact .ret)
  obtain⟨b,h1,h2⟩:=main
  refine⟨b,?_,h2.trans (all_eq rfl c.symm)⟩
  have cc:(l.length:Int)=(m.length:Int):=by omega
  have fin:Ev (fun n=>Gj n l m false) b:=.succ (by simp only[Gj,Bool.false_eq_true,if_false,AE];exact h1)
  simp only[S4,AE,if_pos cc]
  exact fin
 ·refine⟨false,?_,by simp only[Bool.false_eq_true,false_iff];intro e;exact c (by rw[e])⟩
  have cc:¬(l.length:Int)=(m.length:Int):=by omega
  have fin:Ev (fun n=>Gj n l m true) false:=.succ (by simp only[Gj,if_true];exact .ret)
  simp only[S4,AE,if_neg cc]
  exact fin
theorem JP {l m:List D}(hl:AD AI 9 l) (hm:AD AI 9 m) (s t:ByteArray):BV (fun n=>U6 n s l t m) (s=t∧l=m):=by
 unfold U6
 exact .ite fun _=>(Nf hl hm).last
theorem cT (l:List D):AD AI 33 l→∀m,AD AI 33 m→BV (fun n=>XI n l m) (l=m):=by
 refine Ba (P:=fun l=>AD AI 33 l→∀m,AD AI 33 m→BV (fun n=>XI n l m) (l=m)) (fun l ih hl m hm=>?_) l
 refine oO hl.1 rfl rfl fun i x y hx hy=>?_
 have hx':=List.mem_of_getElem? hx
 obtain⟨a0,a1,a2,rfl,w0,w1,w2⟩:=U4 (hl.2 _ hx')
 obtain⟨b0,b1,b2,rfl,v0,v1,v2⟩:=U4 (hm.2 _ (List.mem_of_getElem? hy))
 refine⟨a0,a1,a2,b0,b1,b2,rfl,rfl,.succ ?_⟩
 simp only[cN]
 refine (BV.ite fun _=>BV.ite fun _=>(ih a2 (Af (ag:=true) (sz:=3) hx' (by simp)) w2 b2 v2).last).iff ?_
 rw[hx,hy]
 simp
theorem Ng {a2 b2:List D}(w2:AD AI 33 a2) (v2:AD AI 33 b2) (a0 b0:Int) (a1 b1:ByteArray):BV (fun n=>cN n a0 a1 a2 b0 b1 b2) (a0=b0∧a1=b1∧a2=b2):=by
 refine .succ ?_
 simp only[cN]
 exact BV.ite fun _=>BV.ite fun _=>(cT a2 w2 b2 v2).last
theorem V7 (l:List D):AD AI 39 l→∀m r q,AD AI 39 m→Gc l r→Gc m q→BV (fun n=>Lv n l m) (r=q):=by
 refine Ba (P:=fun l=>AD AI 39 l→∀m r q,AD AI 39 m→Gc l r→Gc m q→BV (fun n=>Lv n l m) (r=q)) (fun l ih hl m r q hm e1 e2=>?_) l
 refine oM hl.1 e1.len e2.len fun i x y hx hy=>?_
 have hx':=List.mem_of_getElem? hx
 obtain⟨a0,a1,a2,a3,a4,a5,a6,u,a7,rfl,p1,p2⟩:=e1.get hx
 obtain⟨b0,b1,b2,b3,b4,b5,b6,v,b7,rfl,q1,q2⟩:=e2.get hy
 obtain⟨_,_,_,_,_,_,_,_,hh,w0,w1,w2,w3,w4,w5,w6,w7⟩:=Jz (hl.2 _ hx')
 cases hh
 obtain⟨_,_,_,_,_,_,_,_,hh,v0,v1,v2,v3,v4,v5,v6,v7⟩:=Jz (hm.2 _ (List.mem_of_getElem? hy))
 cases hh
 refine⟨a0,a1,a2,a3,a4,a5,a6,a7,b0,b1,b2,b3,b4,b5,b6,b7,rfl,rfl,.succ ?_⟩
 simp only[T1]
 refine (BV.ite fun _=>BV.ite fun _=>BV.ite fun _=>BV.ite fun _=>(JP w5 v5 a4 b4).bO1 fun _=>(ih a6 (Af (ag:=true) (sz:=8) hx' (by simp)) w6 b6 u v v6 p2 q2).last).iff ?_
 rw[p1,q1]
 simp[and_assoc]
theorem ZR {a6 b6 u v a5 b5:List D}(w6:AD AI 39 a6) (v6:AD AI 39 b6) (w5:AD AI 9 a5) (v5:AD AI 9 b5) (p:Gc a6 u) (q:Gc b6 v) (a0 a1 b0 b1:Int) (a2 a3 a4 b2 b3 b4:ByteArray) (a7 b7:Int):BV (fun n=>T1 n a0 a1 a2 a3 a4 a5 a6 a7 b0 b1 b2 b3 b4 b5 b6 b7) (a0=b0∧a1=b1∧a2=b2∧a3=b3∧(a4=b4∧a5=b5)∧u=v):=by
 refine .succ ?_
 simp only[T1]
 exact BV.ite fun _=>BV.ite fun _=>BV.ite fun _=>BV.ite fun _=>(JP w5 v5 a4 b4).bO1 fun _=>(V7 a6 w6 b6 u v v6 p q).last
theorem cU (l:List D):AD AI 50 l→∀m r q,AD AI 50 m→Fo l r→Fo m q→BV (fun n=>fP n l m) (r=q):=by
 refine Ba (P:=fun l=>AD AI 50 l→∀m r q,AD AI 50 m→Fo l r→Fo m q→BV (fun n=>fP n l m) (r=q)) (fun l ih hl m r q hm e1 e2=>?_) l
 refine .succ ?_
 simp only[fP]
 refine BV.last (oQ hl.1 e1.len e2.len fun i x y hx hy=>?_)
 have hx':=List.mem_of_getElem? hx
 obtain⟨a0,a1,a2,a3,a4,a5,a6,a7,a8,a9,a10,a11,a12,a13,ue,uu,uv,uk,a14,rfl,p1,p2,p3,p4,p5⟩:=e1.get hx
 obtain⟨b0,b1,b2,b3,b4,b5,b6,b7,b8,b9,b10,b11,b12,b13,ve,vu,vv,vk,b14,rfl,q1,q2,q3,q4,q5⟩:=e2.get hy
 obtain⟨_,_,_,_,_,_,_,_,_,_,_,_,_,_,_,hh,w0,w1,w2,w3,w4,w5,w6,w7,w8,w9,w10,w11,w12,w13,w14⟩:=Hx (hl.2 _ hx')
 cases hh
 obtain⟨_,_,_,_,_,_,_,_,_,_,_,_,_,_,_,hh,v0,v1,v2,v3,v4,v5,v6,v7,v8,v9,v10,v11,v12,v13,v14⟩:=Hx (hm.2 _ (List.mem_of_getElem? hy))
 cases hh
 have arms:BV (fun n=>ZQ n a13 b13) (uk=vk):=by
  refine oP w13.1 p5.len q5.len fun j x y hx2 hy2=>?_
  have hx3:=List.mem_of_getElem? hx2
  obtain⟨t1,t2,t,t',rfl,g1,g2⟩:=p5.get hx2
  obtain⟨s1,s2,s,s',rfl,k1,k2⟩:=q5.get hy2
  obtain⟨_,_,_,hh,z0,z1,z2⟩:=J0 (w13.2 _ hx3)
  cases hh
  obtain⟨_,_,_,hh,y0,y1,y2⟩:=J0 (v13.2 _ (List.mem_of_getElem? hy2))
  cases hh
  refine⟨t1,t2,t,s1,s2,s,rfl,rfl,.succ ?_⟩
  simp only[cO]
  refine (BV.ite fun _=>BV.ite fun _=>(ih t (Nat.lt_trans (Af (ag:=true) (sz:=15) hx3 (by simp)) (Af (ag:=true) (sz:=3) hx' (by simp))) z2 s t' s' y2 g2 k2).last).iff ?_
  rw[g1,k1]
  simp
 refine⟨a0,a1,a2,a3,a4,a5,a6,a7,a8,a9,a10,a11,a12,a13,a14,b0,b1,b2,b3,b4,b5,b6,b7,b8,b9,b10,b11,b12,b13,b14,rfl,rfl,.succ ?_⟩
 simp only[cQ]
 refine (BV.ite fun _=>BV.ite fun _=>BV.ite fun _=>(Nf w3 v3).bO1 fun _=>(Ng w6 v6 a4 b4 a5 b5).bO1 fun _=>BV.ite fun _=>(JP w9 v9 a8 b8).bO1 fun _=>(V7 a10 w10 b10 ue ve v10 p2 q2).bO1 fun _=>(ih a11 (Af (ag:=true) (sz:=15) hx' (by simp)) w11 b11 uu vu v11 p3 q3).bO1 fun _=>(ih a12 (Af (ag:=true) (sz:=15) hx' (by simp)) w12 b12 uv vv v12 p4 q4).bO1 fun _=>arms.last).iff ?_
 rw[p1,q1]
 simp[and_assoc]
theorem XK {l m:List D}(hl:AD AI 74 l) (hm:AD AI 74 m):BV (fun n=>oL n l m) (l=m):=by
 refine vX hl.1 rfl rfl fun i x y hx hy=>?_
 obtain⟨a0,a1,a2,a3,rfl,w0,w1,w2,w3⟩:=Q4 (hl.2 _ (List.mem_of_getElem? hx))
 obtain⟨b0,b1,b2,b3,rfl,v0,v1,v2,v3⟩:=Q4 (hm.2 _ (List.mem_of_getElem? hy))
 refine⟨a0,a1,a2,a3,b0,b1,b2,b3,rfl,rfl,?_⟩
 unfold rU
 refine (BV.ite fun _=>(Ng w3 v3 a1 b1 a2 b2).last).iff ?_
 rw[hx,hy]
 simp
theorem Ia {l m r q:List D}(hl:AD AI 45 l) (hm:AD AI 45 m) (e1:Q7 l r) (e2:Q7 m q):BV (fun n=>XJ n l m) (r=q):=by
 unfold XJ
 refine BV.last (vY hl.1 e1.len e2.len fun i x y hx hy=>?_)
 obtain⟨a0,a1,a2,a3,a4,a5,a6,a7,a8,a9,a10,a11,a12,a13,uu,ue,a14,a15,rfl,p1,p2,p3⟩:=e1.get hx
 obtain⟨b0,b1,b2,b3,b4,b5,b6,b7,b8,b9,b10,b11,b12,b13,vu,ve,b14,b15,rfl,q1,q2,q3⟩:=e2.get hy
 obtain⟨_,_,_,_,_,_,_,_,_,_,_,_,_,_,_,_,hh,w0,w1,w2,w3,w4,w5,w6,w7,w8,w9,w10,w11,w12,w13,w14,w15⟩:=OH (hl.2 _ (List.mem_of_getElem? hx))
 cases hh
 obtain⟨_,_,_,_,_,_,_,_,_,_,_,_,_,_,_,_,hh,v0,v1,v2,v3,v4,v5,v6,v7,v8,v9,v10,v11,v12,v13,v14,v15⟩:=OH (hm.2 _ (List.mem_of_getElem? hy))
 cases hh
 refine⟨a0,a1,a2,a3,a4,a5,a6,a7,a8,a9,a10,a11,a12,a13,a14,a15,b0,b1,b2,b3,b4,b5,b6,b7,b8,b9,b10,b11,b12,b13,b14,b15,rfl,rfl,?_⟩
 unfold rV
 refine (BV.ite fun _=>BV.ite fun _=>(Ng w5 v5 a3 b3 a4 b4).bO1 fun _=>(ZR w13 v13 w12 v12 p3 q3 a7 a8 b7 b8 a9 a10 a11 b9 b10 b11 a14 b14).bO1 fun _=>(cU a6 w6 b6 uu vu v6 p2 q2).bO1 fun _=>(XK w2 v2).last).iff ?_
 rw[p1,q1]
 simp only[Option.some.injEq,D.agg.injEq,List.cons.injEq,D.int.injEq,D.str.injEq,D.list.injEq,true_and,and_true]
 constructor
 ·rintro⟨h1,h2,⟨h3,h4,h5⟩,⟨h6,h7,h8,h9,⟨h10,h11⟩,h12⟩,h13,h14⟩
  exact⟨h1,h2,h14,h3,h4,h5,h13,h6,h7,h8,h9,h10,h11,h12⟩
 ·rintro⟨h1,h2,h14,h3,h4,h5,h13,h6,h7,h8,h9,h10,h11,h12⟩
  exact⟨h1,h2,⟨h3,h4,h5⟩,⟨h6,h7,h8,h9,⟨h10,h11⟩,h12⟩,h13,h14⟩
end Go.Proofs.YtjmofeakajdbiaaGreatDoor
end
set_option linter.unusedVariables false
noncomputable section
namespace Go.Proofs.YtjmofeakajdbiaaGreatDoor
open Go Go.AM
def U7 (n:Nat) (z1:Int) (z2:Int) (s3:BA) (s4:BA) (s5:BA) (l6:LD) (l7:LD) (z8:Int):Option (Bool):=
 (if z1=(5:Int)then some true else (if z1=(6:Int)then some true else some false))
noncomputable def X53:BX:=⟨53,Tryz.f53,[.agg [.y,.z,.str,.str,.str,.f 1,.q 8,.z]],[],⟨.one (.b),[],[]⟩,Bool,inferInstance,U7,[]⟩
noncomputable def vZ:Kz:=sg X53 [] Tryz.func53 (by kernel_rfl) (by kernel_rfl) (by kernel_rfl)
theorem lV (n:Nat):∀⦃z1 z2 s3 s4 s5 l6 l7 z8 r1⦄,U7 n z1 z2 s3 s4 s5 l6 l7 z8=some r1->
  Ah Tryz.prog inv 53 [.d (.agg [.int .u8 z1,.int .i64 z2,.str s3,.str s4,.str s5,.list false 1 l6,.list true 8 l7,.int .i64 z8])] [] (.v (.d (.bool r1))) [] []:=fun z1 z2 s3 s4 s5 l6 l7 z8 r1 h=>vZ.ok n [.I z1,.I z2,.S s3,.S s4,.S s5,.L l6,.L l7,.I z8] _ h _ _ _ _ _ _ rfl rfl rfl rfl _ rfl
def ZS (n:Nat) (z1:Int) (s2:BA) (l3:LD):Option (Bool):=
 (if z1=(0:Int)then (if s2=ByteArray.empty then AE l3 fun z4=>(if z4=(0:Int)then some true else some false)else some false)else some false)
noncomputable def X72:BX:=⟨72,Tryz.f72,[.agg [.y,.str,.q 3]],[],⟨.one (.b),[],[]⟩,Bool,inferInstance,ZS,[]⟩
noncomputable def yQ:Kz:=sg X72 [] Tryz.func72 (by kernel_rfl) (by kernel_rfl) (by kernel_rfl)
theorem wA (n:Nat):∀⦃z1 s2 l3 r1⦄,ZS n z1 s2 l3=some r1->
  Ah Tryz.prog inv 72 [.d (.agg [.int .u8 z1,.str s2,.list true 3 l3])] [] (.v (.d (.bool r1))) [] []:=fun z1 s2 l3 r1 h=>yQ.ok n [.I z1,.S s2,.L l3] _ h _ _ _ _ _ _ rfl rfl rfl rfl _ rfl
def lW (n:Nat) (s1:BA) (z2:Int) (s3:BA) (l4:LD) (b5:Bool) (z6:Int):Option (Bool×Bool×Int):=
 bO1 (U3 n s1) fun b7=>(if b7=true then (if b5=true then bO1 (ZS n z2 s3 l4) fun b8=>(if b8=true then some (true,true,z6)else AJ (IntKind.wrap .i64 (z6 - 1)) fun z9=>bO1 (PM n z2 s3 l4 z9) fun b10=>some (b10,true,z6))else AJ (IntKind.wrap .i64 (z6 - 1)) fun z11=>bO1 (PM n z2 s3 l4 z11) fun b12=>some (b12,false,z6))else some (false,b5,z6))
theorem T71 (n:Nat):∀⦃s1 z2 s3 l4 b5 z6 r1 r2 r3⦄,lW n s1 z2 s3 l4 b5 z6=some (r1,r2,r3)->
    Ah Tryz.prog inv 71 [.d (.agg [.str s1,.int .u8 z2,.str s3,.list true 3 l4]),.c (.ptr (.ext 0) 0),.c (.ptr (.ext 1) 0),.c (.ptr (.ext 2) 0)] [.cells [.fn 74 []],.cells [.d (.bool b5)],.cells [.d (.int .i64 z6)]] (.v (.d (.bool r1))) [.cells [.fn 74 []],.cells [.d (.bool r2)],.cells [.d (.int .i64 r3)]] []:=by
 intro s1 z2 s3 l4 b5 z6 r1 r2 r3 h
 unfold lW at h
 refine Ah.of BI Ao Fi Tryz.func71 rfl (by kernel_rfl) rfl rfl rfl (fun M hM hI=>?_)
 try cbv
 refine AB ?_
 try cbv
 refine AB ?_
 try cbv
 replace h:=AU h
 obtain⟨b7,hr,h⟩:=h
 refine AZ rfl rfl ?_
 try cbv
 refine AQ hM hI (xQ _ hr) rfl ?_
 clear hr
 try cbv
 cases b7
 ·replace h:=Bp h
  try cbv
  obtain⟨rfl,rfl,rfl⟩:=Mv h
  refine AR ?_
  try cbv
  exact⟨[],rfl,rfl,⟨rfl,⟨rfl,⟨rfl,trivial⟩⟩⟩,trivial,trivial⟩
 replace h:=Bo h
 try cbv
 cases b5
 ·replace h:=Bp h
  try cbv
  replace h:=Ac h
  obtain⟨z11,hz,h⟩:=h
  refine⟨z11,hz,?_⟩
  clear hz
  try cbv
  replace h:=AU h
  obtain⟨b12,hr,h⟩:=h
  refine AZ rfl rfl ?_
  try cbv
  refine AQ hM hI (lQ _ hr) rfl ?_
  clear hr
  try cbv
  obtain⟨rfl,rfl,rfl⟩:=Mv h
  refine AR ?_
  try cbv
  exact⟨[],rfl,rfl,⟨rfl,⟨rfl,⟨rfl,trivial⟩⟩⟩,trivial,trivial⟩
 replace h:=Bo h
 try cbv
 replace h:=AU h
 obtain⟨b8,hr,h⟩:=h
 refine AZ rfl rfl ?_
 try cbv
 refine AQ hM hI (wA _ hr) rfl ?_
 clear hr
 try cbv
 cases b8
 ·replace h:=Bp h
  try cbv
  replace h:=Ac h
  obtain⟨z9,hz,h⟩:=h
  refine⟨z9,hz,?_⟩
  clear hz
  try cbv
  replace h:=AU h
  obtain⟨b10,hr,h⟩:=h
  refine AZ rfl rfl ?_
  try cbv
  refine AQ hM hI (lQ _ hr) rfl ?_
  clear hr
  try cbv
  obtain⟨rfl,rfl,rfl⟩:=Mv h
  refine AR ?_
  try cbv
  exact⟨[],rfl,rfl,⟨rfl,⟨rfl,⟨rfl,trivial⟩⟩⟩,trivial,trivial⟩
 replace h:=Bo h
 try cbv
 obtain⟨rfl,rfl,rfl⟩:=Mv h
 refine AR ?_
 try cbv
 exact⟨[],rfl,rfl,⟨rfl,⟨rfl,⟨rfl,trivial⟩⟩⟩,trivial,trivial⟩
noncomputable def c71:BQ:=⟨71,[.agg [.str,.y,.str,.q 3],.p (.ext 0) 0,.p (.ext 1) 0,.p (.ext 2) 0],[[.fn 74 []],[.bool],[.z]],[⟨.one (.b),[[.fn 74 []],[.bool],[.z]],[]⟩],Bool×Bool×Int,inferInstance,lW⟩
noncomputable def k71:Kz:=⟨c71,fun n=>Cm fun s1 z2 s3 l4 b5 z6 p h w1 w2 w4 w3 l1 l2 e1 e2 e5 e3 xs e4=>by cases e1;cases e2;cases e4;cases e5;cases e3;exact T71 n h⟩
mutual
def Pa:Nat->LD->Int->Int->Bool->Int->Option (Bool×Bool×Int)
 | 0,_,_,_,_,_=>none
 | n+1,l1,z2,z5,b6,z7=>
  AE l1 fun z8=>(if z5<z8 then (if z5<z2 then Nh n l1 z2 z5 b6 z7 true else Nh n l1 z2 z5 b6 z7 false)else Nh n l1 z2 z5 b6 z7 false)
def Nh:Nat->LD->Int->Int->Bool->Int->Bool->Option (Bool×Bool×Int)
 | 0,_,_,_,_,_,_=>none
 | n+1,l1,z2,z5,b6,z7,b9=>
  (if b9=true then Ap l1 z5 fun x10=>Bv x10 fun s11 z12 s13 l14=>bO3 (lW n s11 z12 s13 l14 b6 z7) fun b15 b16 z17=>AL (!b15) fun b18=>(if b18=true then some (false,b16,z17)else AJ (IntKind.wrap .i64 (z5+1)) fun z19=>Pa n l1 z2 z19 b16 z17)else AE l1 fun z20=>(if z20<=z2 then some (true,b6,z7)else some (false,b6,z7)))
end
def oS (n:Nat) (l1:LD) (z2:Int) (b3:Bool) (z4:Int):Option (Bool×Bool×Int):=
 Pa n l1 z2 (0:Int) b3 z4
noncomputable def X70:BX:=⟨70,Tryz.f70,[.q 4,.z,.one (.fn 71 [.ext 0,.ext 1,.ext 2])],[[.fn 74 []],[.bool],[.z]],⟨.one (.b),[[.fn 74 []],[.bool],[.z]],[]⟩,Bool×Bool×Int,inferInstance,oS,[⟨26,[0,1,2,6,7],[.ext 0,.ext 1,.ext 2],64,[.q 4,.z,.one (.fn 71 [.ext 0,.ext 1,.ext 2]),.one (.cb false),.z],[[.fn 74 []],[.bool],[.z]],fun n l1 z2 z5 b6 z7=>Pa n l1 z2 z5 b6 z7⟩,
 ⟨209,[0,1,2,6,7,16],[.ext 0,.ext 1,.ext 2],352,[.q 4,.z,.one (.fn 71 [.ext 0,.ext 1,.ext 2]),.one (.cb false),.z,.b],[[.fn 74 []],[.bool],[.z]],fun n l1 z2 z5 b9 b6 z7=>Nh n l1 z2 z5 b6 z7 b9⟩]⟩
noncomputable def k70:Kz:=sg X70 [k71] Tryz.func70 (by kernel_rfl) (by kernel_rfl) (by kernel_rfl)
def fQ (n:Nat) (b1:Bool) (z2:Int) (s3:BA) (l4:LD) (z5:Int) (s6:BA) (l7:LD) (l8:LD) (z9:Int) (z10:Int) (s11:BA) (s12:BA) (s13:BA) (l14:LD) (l15:LD) (z16:Int) (z17:Int) (z18:Int):Option (Bool×Int×BA×LD×Int×BA×LD×LD×Int×Int×BA×BA×BA×LD×LD×Int×Int×Int):=
 bO3 (oS n l4 (6:Int) b1 z18) fun b19 b20 z21=>some (b19,z2,s3,l4,z5,s6,l7,l8,z9,z10,s11,s12,s13,l14,l15,z16,z17,z21)
noncomputable def X69:BX:=⟨69,Tryz.f69,[.one (.fn 74 []),.b,.p (.ext 0) 0,.p (.ext 1) 0],[[.y,.str,.q 4,.y,.str,.q 3,.q 15,.y,.z,.str,.str,.str,.f 1,.q 8,.z,.z],[.z]],⟨.one (.b),[[.y,.str,.q 4,.y,.str,.q 3,.q 15,.y,.z,.str,.str,.str,.f 1,.q 8,.z,.z],[.z]],[]⟩,Bool×Int×BA×LD×Int×BA×LD×LD×Int×Int×BA×BA×BA×LD×LD×Int×Int×Int,inferInstance,fQ,[]⟩
noncomputable def k69:Kz:=sg X69 [k70] Tryz.func69 (by kernel_rfl) (by kernel_rfl) (by kernel_rfl)
theorem yR (n:Nat):∀⦃b1 z2 s3 l4 z5 s6 l7 l8 z9 z10 s11 s12 s13 l14 l15 z16 z17 z18 r1 r2 r3 r4 r5 r6 r7 r8 r9 r10 r11 r12 r13 r14 r15 r16 r17 r18⦄,fQ n b1 z2 s3 l4 z5 s6 l7 l8 z9 z10 s11 s12 s13 l14 l15 z16 z17 z18=some (r1,r2,r3,r4,r5,r6,r7,r8,r9,r10,r11,r12,r13,r14,r15,r16,r17,r18)->
  Ah Tryz.prog inv 69 [.c (.fn 74 []),.d (.bool b1),.c (.ptr (.ext 0) 0),.c (.ptr (.ext 1) 0)] [.cells [.d (.int .u8 z2),.d (.str s3),.d (.list true 4 l4),.d (.int .u8 z5),.d (.str s6),.d (.list true 3 l7),.d (.list true 15 l8),.d (.int .u8 z9),.d (.int .i64 z10),.d (.str s11),.d (.str s12),.d (.str s13),.d (.list false 1 l14),.d (.list true 8 l15),.d (.int .i64 z16),.d (.int .i64 z17)],.cells [.d (.int .i64 z18)]] (.v (.d (.bool r1))) [.cells [.d (.int .u8 r2),.d (.str r3),.d (.list true 4 r4),.d (.int .u8 r5),.d (.str r6),.d (.list true 3 r7),.d (.list true 15 r8),.d (.int .u8 r9),.d (.int .i64 r10),.d (.str r11),.d (.str r12),.d (.str r13),.d (.list false 1 r14),.d (.list true 8 r15),.d (.int .i64 r16),.d (.int .i64 r17)],.cells [.d (.int .i64 r18)]] []:=fun b1 z2 s3 l4 z5 s6 l7 l8 z9 z10 s11 s12 s13 l14 l15 z16 z17 z18 r1 r2 r3 r4 r5 r6 r7 r8 r9 r10 r11 r12 r13 r14 r15 r16 r17 r18 h=>k69.ok n [.B b1,.I z2,.S s3,.L l4,.I z5,.S s6,.L l7,.L l8,.I z9,.I z10,.S s11,.S s12,.S s13,.L l14,.L l15,.I z16,.I z17,.I z18] _ h _ _ _ _ _ _ rfl rfl rfl rfl _ rfl
def Pb (n:Nat) (s1:BA) (z2:Int) (s3:BA) (l4:LD) (b5:Bool) (z6:Int):Option (Bool×Bool×Int):=
 bO1 (XE n s1) fun b7=>(if b7=true then (if b5=true then bO1 (ZS n z2 s3 l4) fun b8=>(if b8=true then some (true,true,z6)else AJ (IntKind.wrap .i64 (z6 - 1)) fun z9=>bO1 (PM n z2 s3 l4 z9) fun b10=>some (b10,true,z6))else AJ (IntKind.wrap .i64 (z6 - 1)) fun z11=>bO1 (PM n z2 s3 l4 z11) fun b12=>some (b12,false,z6))else some (false,b5,z6))
theorem oT (n:Nat):∀⦃s1 z2 s3 l4 b5 z6 r1 r2 r3⦄,Pb n s1 z2 s3 l4 b5 z6=some (r1,r2,r3)->
    Ah Tryz.prog inv 71 [.d (.agg [.str s1,.int .u8 z2,.str s3,.list true 3 l4]),.c (.ptr (.ext 0) 0),.c (.ptr (.ext 1) 0),.c (.ptr (.ext 2) 0)] [.cells [.fn 73 []],.cells [.d (.bool b5)],.cells [.d (.int .i64 z6)]] (.v (.d (.bool r1))) [.cells [.fn 73 []],.cells [.d (.bool r2)],.cells [.d (.int .i64 r3)]] []:=by
 intro s1 z2 s3 l4 b5 z6 r1 r2 r3 h
 unfold Pb at h
 refine Ah.of BI Ao Fi Tryz.func71 rfl (by kernel_rfl) rfl rfl rfl (fun M hM hI=>?_)
 try cbv
 refine AB ?_
 try cbv
 refine AB ?_
 try cbv
 replace h:=AU h
 obtain⟨b7,hr,h⟩:=h
 refine AZ rfl rfl ?_
 try cbv
 refine AQ hM hI (tT _ hr) rfl ?_
 clear hr
 try cbv
 cases b7
 ·replace h:=Bp h
  try cbv
  obtain⟨rfl,rfl,rfl⟩:=Mv h
  refine AR ?_
  try cbv
  exact⟨[],rfl,rfl,⟨rfl,⟨rfl,⟨rfl,trivial⟩⟩⟩,trivial,trivial⟩
 replace h:=Bo h
 try cbv
 cases b5
 ·replace h:=Bp h
  try cbv
  replace h:=Ac h
  obtain⟨z11,hz,h⟩:=h
  refine⟨z11,hz,?_⟩
  clear hz
  try cbv
  replace h:=AU h
  obtain⟨b12,hr,h⟩:=h
  refine AZ rfl rfl ?_
  try cbv
  refine AQ hM hI (lQ _ hr) rfl ?_
  clear hr
  try cbv
  obtain⟨rfl,rfl,rfl⟩:=Mv h
  refine AR ?_
  try cbv
  exact⟨[],rfl,rfl,⟨rfl,⟨rfl,⟨rfl,trivial⟩⟩⟩,trivial,trivial⟩
 replace h:=Bo h
 try cbv
 replace h:=AU h
 obtain⟨b8,hr,h⟩:=h
 refine AZ rfl rfl ?_
 try cbv
 refine AQ hM hI (wA _ hr) rfl ?_
 clear hr
 try cbv
 cases b8
 ·replace h:=Bp h
  try cbv
  replace h:=Ac h
  obtain⟨z9,hz,h⟩:=h
  refine⟨z9,hz,?_⟩
  clear hz
  try cbv
  replace h:=AU h
  obtain⟨b10,hr,h⟩:=h
  refine AZ rfl rfl ?_
  try cbv
  refine AQ hM hI (lQ _ hr) rfl ?_
  clear hr
  try cbv
  obtain⟨rfl,rfl,rfl⟩:=Mv h
  refine AR ?_
  try cbv
  exact⟨[],rfl,rfl,⟨rfl,⟨rfl,⟨rfl,trivial⟩⟩⟩,trivial,trivial⟩
 replace h:=Bo h
 try cbv
 obtain⟨rfl,rfl,rfl⟩:=Mv h
 refine AR ?_
 try cbv
 exact⟨[],rfl,rfl,⟨rfl,⟨rfl,⟨rfl,trivial⟩⟩⟩,trivial,trivial⟩
noncomputable def oU:BQ:=⟨71,[.agg [.str,.y,.str,.q 3],.p (.ext 0) 0,.p (.ext 1) 0,.p (.ext 2) 0],[[.fn 73 []],[.bool],[.z]],[⟨.one (.b),[[.fn 73 []],[.bool],[.z]],[]⟩],Bool×Bool×Int,inferInstance,Pb⟩
noncomputable def oV:Kz:=⟨oU,fun n=>Cm fun s1 z2 s3 l4 b5 z6 p h w1 w2 w4 w3 l1 l2 e1 e2 e5 e3 xs e4=>by cases e1;cases e2;cases e4;cases e5;cases e3;exact oT n h⟩
mutual
def Ib:Nat->LD->Int->Int->Bool->Int->Option (Bool×Bool×Int)
 | 0,_,_,_,_,_=>none
 | n+1,l1,z2,z5,b6,z7=>
  AE l1 fun z8=>(if z5<z8 then (if z5<z2 then Gl n l1 z2 z5 b6 z7 true else Gl n l1 z2 z5 b6 z7 false)else Gl n l1 z2 z5 b6 z7 false)
def Gl:Nat->LD->Int->Int->Bool->Int->Bool->Option (Bool×Bool×Int)
 | 0,_,_,_,_,_,_=>none
 | n+1,l1,z2,z5,b6,z7,b9=>
  (if b9=true then Ap l1 z5 fun x10=>Bv x10 fun s11 z12 s13 l14=>bO3 (Pb n s11 z12 s13 l14 b6 z7) fun b15 b16 z17=>AL (!b15) fun b18=>(if b18=true then some (false,b16,z17)else AJ (IntKind.wrap .i64 (z5+1)) fun z19=>Ib n l1 z2 z19 b16 z17)else AE l1 fun z20=>(if z20<=z2 then some (true,b6,z7)else some (false,b6,z7)))
end
def S9 (n:Nat) (l1:LD) (z2:Int) (b3:Bool) (z4:Int):Option (Bool×Bool×Int):=
 Ib n l1 z2 (0:Int) b3 z4
noncomputable def oW:BX:=⟨70,Tryz.f70,[.q 4,.z,.one (.fn 71 [.ext 0,.ext 1,.ext 2])],[[.fn 73 []],[.bool],[.z]],⟨.one (.b),[[.fn 73 []],[.bool],[.z]],[]⟩,Bool×Bool×Int,inferInstance,S9,[⟨26,[0,1,2,6,7],[.ext 0,.ext 1,.ext 2],64,[.q 4,.z,.one (.fn 71 [.ext 0,.ext 1,.ext 2]),.one (.cb false),.z],[[.fn 73 []],[.bool],[.z]],fun n l1 z2 z5 b6 z7=>Ib n l1 z2 z5 b6 z7⟩,
 ⟨209,[0,1,2,6,7,16],[.ext 0,.ext 1,.ext 2],352,[.q 4,.z,.one (.fn 71 [.ext 0,.ext 1,.ext 2]),.one (.cb false),.z,.b],[[.fn 73 []],[.bool],[.z]],fun n l1 z2 z5 b9 b6 z7=>Gl n l1 z2 z5 b6 z7 b9⟩]⟩
noncomputable def oX:Kz:=sg oW [oV] Tryz.func70 (by kernel_rfl) (by kernel_rfl) (by kernel_rfl)
def Ni (n:Nat) (b1:Bool) (z2:Int) (s3:BA) (l4:LD) (z5:Int) (s6:BA) (l7:LD) (l8:LD) (z9:Int) (z10:Int) (s11:BA) (s12:BA) (s13:BA) (l14:LD) (l15:LD) (z16:Int) (z17:Int) (z18:Int):Option (Bool×Int×BA×LD×Int×BA×LD×LD×Int×Int×BA×BA×BA×LD×LD×Int×Int×Int):=
 bO3 (S9 n l4 (6:Int) b1 z18) fun b19 b20 z21=>some (b19,z2,s3,l4,z5,s6,l7,l8,z9,z10,s11,s12,s13,l14,l15,z16,z17,z21)
noncomputable def oY:BX:=⟨69,Tryz.f69,[.one (.fn 73 []),.b,.p (.ext 0) 0,.p (.ext 1) 0],[[.y,.str,.q 4,.y,.str,.q 3,.q 15,.y,.z,.str,.str,.str,.f 1,.q 8,.z,.z],[.z]],⟨.one (.b),[[.y,.str,.q 4,.y,.str,.q 3,.q 15,.y,.z,.str,.str,.str,.f 1,.q 8,.z,.z],[.z]],[]⟩,Bool×Int×BA×LD×Int×BA×LD×LD×Int×Int×BA×BA×BA×LD×LD×Int×Int×Int,inferInstance,Ni,[]⟩
noncomputable def oZ:Kz:=sg oY [oX] Tryz.func69 (by kernel_rfl) (by kernel_rfl) (by kernel_rfl)
theorem pA (n:Nat):∀⦃b1 z2 s3 l4 z5 s6 l7 l8 z9 z10 s11 s12 s13 l14 l15 z16 z17 z18 r1 r2 r3 r4 r5 r6 r7 r8 r9 r10 r11 r12 r13 r14 r15 r16 r17 r18⦄,Ni n b1 z2 s3 l4 z5 s6 l7 l8 z9 z10 s11 s12 s13 l14 l15 z16 z17 z18=some (r1,r2,r3,r4,r5,r6,r7,r8,r9,r10,r11,r12,r13,r14,r15,r16,r17,r18)->
  Ah Tryz.prog inv 69 [.c (.fn 73 []),.d (.bool b1),.c (.ptr (.ext 0) 0),.c (.ptr (.ext 1) 0)] [.cells [.d (.int .u8 z2),.d (.str s3),.d (.list true 4 l4),.d (.int .u8 z5),.d (.str s6),.d (.list true 3 l7),.d (.list true 15 l8),.d (.int .u8 z9),.d (.int .i64 z10),.d (.str s11),.d (.str s12),.d (.str s13),.d (.list false 1 l14),.d (.list true 8 l15),.d (.int .i64 z16),.d (.int .i64 z17)],.cells [.d (.int .i64 z18)]] (.v (.d (.bool r1))) [.cells [.d (.int .u8 r2),.d (.str r3),.d (.list true 4 r4),.d (.int .u8 r5),.d (.str r6),.d (.list true 3 r7),.d (.list true 15 r8),.d (.int .u8 r9),.d (.int .i64 r10),.d (.str r11),.d (.str r12),.d (.str r13),.d (.list false 1 r14),.d (.list true 8 r15),.d (.int .i64 r16),.d (.int .i64 r17)],.cells [.d (.int .i64 r18)]] []:=fun b1 z2 s3 l4 z5 s6 l7 l8 z9 z10 s11 s12 s13 l14 l15 z16 z17 z18 r1 r2 r3 r4 r5 r6 r7 r8 r9 r10 r11 r12 r13 r14 r15 r16 r17 r18 h=>oZ.ok n [.B b1,.I z2,.S s3,.L l4,.I z5,.S s6,.L l7,.L l8,.I z9,.I z10,.S s11,.S s12,.S s13,.L l14,.L l15,.I z16,.I z17,.I z18] _ h _ _ _ _ _ _ rfl rfl rfl rfl _ rfl
def Ep:Nat->Bool->Option (((Int×Int×Bool×Bool×Bool×Bool×Bool) ⊕ ((Int×Bool×Bool×Bool) ⊕ ((Unit) ⊕ ((Unit) ⊕ (Unit))))))
 | 0,_=>none
 | n+1,b29=>
  (if b29=true then some (.inr (.inr (.inr (.inr ()))))else some (.inl ((0:Int),(0:Int),false,false,false,false,false)))
def Er:Nat->Int->Bool->Option (((Int×Int×Bool×Bool×Bool×Bool×Bool) ⊕ ((Int×Bool×Bool×Bool) ⊕ ((Unit) ⊕ ((Unit) ⊕ (Unit))))))
 | 0,_,_=>none
 | n+1,z1,b28=>
  (if b28=true then some (.inr (.inl ((0:Int),true,true,false)))else (if z1=(12:Int)then Ep n true else Ep n false))
def Et:Nat->Int->LD->Bool->Option (((Int×Int×Bool×Bool×Bool×Bool×Bool) ⊕ ((Int×Bool×Bool×Bool) ⊕ ((Unit) ⊕ ((Unit) ⊕ (Unit))))))
 | 0,_,_,_=>none
 | n+1,z1,l4,b26=>
  (if b26=true then AE l4 fun z27=>some (.inl ((6:Int),z27,false,true,false,true,true))else (if z1=(11:Int)then Er n z1 true else Er n z1 false))
def EH:Nat->Int->LD->Bool->Option (((Int×Int×Bool×Bool×Bool×Bool×Bool) ⊕ ((Int×Bool×Bool×Bool) ⊕ ((Unit) ⊕ ((Unit) ⊕ (Unit))))))
 | 0,_,_,_=>none
 | n+1,z1,l4,b25=>
  (if b25=true then some (.inl ((0:Int),(0:Int),false,true,false,false,true))else (if z1=(10:Int)then Et n z1 l4 true else Et n z1 l4 false))
def Gm:Nat->Int->LD->Bool->Option (((Int×Int×Bool×Bool×Bool×Bool×Bool) ⊕ ((Int×Bool×Bool×Bool) ⊕ ((Unit) ⊕ ((Unit) ⊕ (Unit))))))
 | 0,_,_,_=>none
 | n+1,z1,l4,b24=>
  (if b24=true then EH n z1 l4 true else (if z1=(13:Int)then EH n z1 l4 true else EH n z1 l4 false))
def Gn:Nat->Int->LD->Bool->Option (((Int×Int×Bool×Bool×Bool×Bool×Bool) ⊕ ((Int×Bool×Bool×Bool) ⊕ ((Unit) ⊕ ((Unit) ⊕ (Unit))))))
 | 0,_,_,_=>none
 | n+1,z1,l4,b23=>
  (if b23=true then some (.inr (.inr (.inr (.inl ()))))else (if z1=(9:Int)then Gm n z1 l4 true else Gm n z1 l4 false))
def Gp:Nat->Int->LD->Bool->Option (((Int×Int×Bool×Bool×Bool×Bool×Bool) ⊕ ((Int×Bool×Bool×Bool) ⊕ ((Unit) ⊕ ((Unit) ⊕ (Unit))))))
 | 0,_,_,_=>none
 | n+1,z1,l4,b22=>
  (if b22=true then some (.inl ((0:Int),(1:Int),false,true,false,false,true))else (if z1=(8:Int)then Gn n z1 l4 true else Gn n z1 l4 false))
def Gq:Nat->Int->LD->Bool->Option (((Int×Int×Bool×Bool×Bool×Bool×Bool) ⊕ ((Int×Bool×Bool×Bool) ⊕ ((Unit) ⊕ ((Unit) ⊕ (Unit))))))
 | 0,_,_,_=>none
 | n+1,z1,l4,b21=>
  (if b21=true then some (.inl ((0:Int),(1:Int),false,true,true,false,true))else (if z1=(7:Int)then Gp n z1 l4 true else Gp n z1 l4 false))
def Gr:Nat->Int->LD->Bool->Option (((Int×Int×Bool×Bool×Bool×Bool×Bool) ⊕ ((Int×Bool×Bool×Bool) ⊕ ((Unit) ⊕ ((Unit) ⊕ (Unit))))))
 | 0,_,_,_=>none
 | n+1,z1,l4,b20=>
  (if b20=true then some (.inr (.inl ((0:Int),false,false,false)))else (if z1=(6:Int)then Gq n z1 l4 true else Gq n z1 l4 false))
def Gs:Nat->Int->LD->Bool->Option (((Int×Int×Bool×Bool×Bool×Bool×Bool) ⊕ ((Int×Bool×Bool×Bool) ⊕ ((Unit) ⊕ ((Unit) ⊕ (Unit))))))
 | 0,_,_,_=>none
 | n+1,z1,l4,b19=>
  (if b19=true then some (.inl ((0:Int),(1:Int),false,false,false,false,true))else (if z1=(5:Int)then Gr n z1 l4 true else Gr n z1 l4 false))
def Gt:Nat->Int->LD->Bool->Option (((Int×Int×Bool×Bool×Bool×Bool×Bool) ⊕ ((Int×Bool×Bool×Bool) ⊕ ((Unit) ⊕ ((Unit) ⊕ (Unit))))))
 | 0,_,_,_=>none
 | n+1,z1,l4,b18=>
  (if b18=true then some (.inl ((0:Int),(1:Int),true,false,false,false,true))else (if z1=(4:Int)then Gs n z1 l4 true else Gs n z1 l4 false))
def Gu:Nat->Int->LD->Bool->Option (((Int×Int×Bool×Bool×Bool×Bool×Bool) ⊕ ((Int×Bool×Bool×Bool) ⊕ ((Unit) ⊕ ((Unit) ⊕ (Unit))))))
 | 0,_,_,_=>none
 | n+1,z1,l4,b17=>
  (if b17=true then some (.inr (.inr (.inl ())))else (if z1=(3:Int)then Gt n z1 l4 true else Gt n z1 l4 false))
def Gv:Nat->Int->LD->Bool->Option (((Int×Int×Bool×Bool×Bool×Bool×Bool) ⊕ ((Int×Bool×Bool×Bool) ⊕ ((Unit) ⊕ ((Unit) ⊕ (Unit))))))
 | 0,_,_,_=>none
 | n+1,z1,l4,b16=>
  (if b16=true then some (.inr (.inl ((1:Int),false,false,true)))else (if z1=(2:Int)then Gu n z1 l4 true else Gu n z1 l4 false))
def RC (n:Nat) (z1:Int) (s2:BA) (s3:BA) (l4:LD) (z5:Int) (s6:BA) (l7:LD) (z8:Int) (s9:BA) (l10:LD) (l11:LD) (l12:LD) (l13:LD) (l14:LD) (z15:Int):Option (((Int×Int×Bool×Bool×Bool×Bool×Bool) ⊕ ((Int×Bool×Bool×Bool) ⊕ ((Unit) ⊕ ((Unit) ⊕ (Unit)))))):=
 (if z1=(1:Int)then Gv n z1 l4 true else Gv n z1 l4 false)
theorem wB (n:Nat):∀⦃z1 s2 s3 l4 z5 s6 l7 z8 s9 l10 l11 l12 l13 l14 z15 r⦄,RC n z1 s2 s3 l4 z5 s6 l7 z8 s9 l10 l11 l12 l13 l14 z15=some r->∀Q:AV->List AF->List AF->Prop,(match r with | .inl (r1,r2,r3,r4,r5,r6,r7)=>Q (.t [.agg [.d (.int .i64 r1),.d (.int .i64 r2),.d (.bool false),.d (.bool r3),.d (.bool r4),.d (.bool r5),.d (.bool false),.d (.bool r6),.fn 145 [],.fn 145 []],.d (.bool r7)]) [] [] | .inr (.inl (r1,r2,r3,r4))=>Q (.t [.agg [.d (.int .i64 0),.d (.int .i64 r1),.d (.bool false),.d (.bool r2),.d (.bool r3),.d (.bool false),.d (.bool false),.d (.bool r4),.fn 74 [],.fn 145 []],.d (.bool true)]) [] [] | .inr (.inr (.inl _))=>Q (.t [.agg [.d (.int .i64 6),.d (.int .i64 1),.d (.bool false),.d (.bool false),.d (.bool false),.d (.bool false),.d (.bool false),.d (.bool false),.fn 73 [],.fn 145 []],.d (.bool true)]) [] [] | .inr (.inr (.inr (.inl _)))=>Q (.t [.agg [.d (.int .i64 0),.d (.int .i64 0),.d (.bool false),.d (.bool false),.d (.bool false),.d (.bool false),.d (.bool true),.d (.bool false),.fn 74 [],.fn 73 []],.d (.bool true)]) [] [] | .inr (.inr (.inr (.inr _)))=>Q (.t [.agg [.d (.int .i64 0),.d (.int .i64 0),.d (.bool true),.d (.bool false),.d (.bool false),.d (.bool false),.d (.bool false),.d (.bool false),.fn 74 [],.fn 74 []],.d (.bool true)]) [] [])->
    Du Tryz.prog inv 124 [.d (.agg [.int .u8 z1,.str s2,.str s3,.list false 1 l4,.int .u8 z5,.str s6,.list true 3 l7,.int .i64 z8,.str s9,.list false 1 l10,.list true 8 l11,.list true 15 l12,.list true 15 l13,.list true 3 l14,.int .i64 z15])] [] Q:=by
 intro z1 s2 s3 l4 z5 s6 l7 z8 s9 l10 l11 l12 l13 l14 z15 r h Q hQ
 unfold RC at h
 refine Du.of BI Ao Fi Tryz.func124 rfl (by kernel_rfl) rfl rfl rfl (fun M hM hI=>?_)
 try cbv
 refine AB ?_
 try cbv
 refine AB ?_
 try cbv
 refine AB ?_
 try cbv
 refine AB ?_
 try cbv
 refine AK 9 [1,2,3,4,7,9] [.loc 0,.loc 32,.loc 128] 320 (fun m b=>m<=n/\Gv m z1 l4 b=some r) ?_ ?_
 ·try cbv
  refine Av (fun e=>?_) (fun e=>?_)
  ·replace h:=Aj e h
   clear e
   try cbv
   exact AA (n,true) [1,2,3,4,7,9] [.loc 0,.loc 32,.loc 128] 320 ⟨by omega,h⟩ (by cbv)
  replace h:=Ak e h
  clear e
  try cbv
  exact AA (n,false) [1,2,3,4,7,9] [.loc 0,.loc 32,.loc 128] 320 ⟨by omega,h⟩ (by cbv)
 clear h
 rintro⟨m1,b16⟩ ⟨hm1,h⟩
 try cbv
 replace hm1:m1<=n:=hm1
 obtain _ | m1:=m1
 ·replace h:Gv 0 z1 l4 b16=some r:=h
  rw[Gv]at h
  cases h
 replace h:Gv (m1+1) z1 l4 b16=some r:=h
 rw[Gv]at h
 try cbv
 cases b16
 rotate_left
 ·replace h:=Bo h
  try cbv
  refine AB ?_
  try cbv
  obtain rfl:=Option.some.inj h
  refine C7 hQ ?_
  try cbv
  exact⟨[],by trivial⟩
 replace h:=Bp h
 try cbv
 refine AK 14 [1,2,3,4,7,14] [.loc 0,.loc 32,.loc 128] 384 (fun m b=>m<=m1/\Gu m z1 l4 b=some r) ?_ ?_
 ·try cbv
  refine Av (fun e=>?_) (fun e=>?_)
  ·replace h:=Aj e h
   clear e
   try cbv
   exact AA (m1,true) [1,2,3,4,7,14] [.loc 0,.loc 32,.loc 128] 384 ⟨by omega,h⟩ (by cbv)
  replace h:=Ak e h
  clear e
  try cbv
  exact AA (m1,false) [1,2,3,4,7,14] [.loc 0,.loc 32,.loc 128] 384 ⟨by omega,h⟩ (by cbv)
 clear h
 rintro⟨m2,b17⟩ ⟨hm2,h⟩
 try cbv
 replace hm2:m2<=m1:=hm2
 obtain _ | m2:=m2
 ·replace h:Gu 0 z1 l4 b17=some r:=h
  rw[Gu]at h
  cases h
 replace h:Gu (m2+1) z1 l4 b17=some r:=h
 rw[Gu]at h
 try cbv
 cases b17
 rotate_left
 ·replace h:=Bo h
  try cbv
  refine AB ?_
  try cbv
  obtain rfl:=Option.some.inj h
  refine C7 hQ ?_
  try cbv
  exact⟨[],by trivial⟩
 replace h:=Bp h
 try cbv
 refine AK 19 [1,2,3,4,7,19] [.loc 0,.loc 32,.loc 128] 448 (fun m b=>m<=m2/\Gt m z1 l4 b=some r) ?_ ?_
 ·try cbv
  refine Av (fun e=>?_) (fun e=>?_)
  ·replace h:=Aj e h
   clear e
   try cbv
   exact AA (m2,true) [1,2,3,4,7,19] [.loc 0,.loc 32,.loc 128] 448 ⟨by omega,h⟩ (by cbv)
  replace h:=Ak e h
  clear e
  try cbv
  exact AA (m2,false) [1,2,3,4,7,19] [.loc 0,.loc 32,.loc 128] 448 ⟨by omega,h⟩ (by cbv)
 clear h
 rintro⟨m3,b18⟩ ⟨hm3,h⟩
 try cbv
 replace hm3:m3<=m2:=hm3
 obtain _ | m3:=m3
 ·replace h:Gt 0 z1 l4 b18=some r:=h
  rw[Gt]at h
  cases h
 replace h:Gt (m3+1) z1 l4 b18=some r:=h
 rw[Gt]at h
 try cbv
 cases b18
 rotate_left
 ·replace h:=Bo h
  try cbv
  refine AB ?_
  try cbv
  obtain rfl:=Option.some.inj h
  refine C7 hQ ?_
  try cbv
  exact⟨[],by trivial⟩
 replace h:=Bp h
 try cbv
 refine AK 23 [1,2,3,4,7,23] [.loc 0,.loc 32,.loc 128] 512 (fun m b=>m<=m3/\Gs m z1 l4 b=some r) ?_ ?_
 ·try cbv
  refine Av (fun e=>?_) (fun e=>?_)
  ·replace h:=Aj e h
   clear e
   try cbv
   exact AA (m3,true) [1,2,3,4,7,23] [.loc 0,.loc 32,.loc 128] 512 ⟨by omega,h⟩ (by cbv)
  replace h:=Ak e h
  clear e
  try cbv
  exact AA (m3,false) [1,2,3,4,7,23] [.loc 0,.loc 32,.loc 128] 512 ⟨by omega,h⟩ (by cbv)
 clear h
 rintro⟨m4,b19⟩ ⟨hm4,h⟩
 try cbv
 replace hm4:m4<=m3:=hm4
 obtain _ | m4:=m4
 ·replace h:Gs 0 z1 l4 b19=some r:=h
  rw[Gs]at h
  cases h
 replace h:Gs (m4+1) z1 l4 b19=some r:=h
 rw[Gs]at h
 try cbv
 cases b19
 rotate_left
 ·replace h:=Bo h
  try cbv
  refine AB ?_
  try cbv
  obtain rfl:=Option.some.inj h
  refine C7 hQ ?_
  try cbv
  exact⟨[],by trivial⟩
 replace h:=Bp h
 try cbv
 refine AK 26 [1,2,3,4,7,26] [.loc 0,.loc 32,.loc 128] 576 (fun m b=>m<=m4/\Gr m z1 l4 b=some r) ?_ ?_
 ·try cbv
  refine Av (fun e=>?_) (fun e=>?_)
  ·replace h:=Aj e h
   clear e
   try cbv
   exact AA (m4,true) [1,2,3,4,7,26] [.loc 0,.loc 32,.loc 128] 576 ⟨by omega,h⟩ (by cbv)
  replace h:=Ak e h
  clear e
  try cbv
  exact AA (m4,false) [1,2,3,4,7,26] [.loc 0,.loc 32,.loc 128] 576 ⟨by omega,h⟩ (by cbv)
 clear h
 rintro⟨m5,b20⟩ ⟨hm5,h⟩
 try cbv
 replace hm5:m5<=m4:=hm5
 obtain _ | m5:=m5
 ·replace h:Gr 0 z1 l4 b20=some r:=h
  rw[Gr]at h
  cases h
 replace h:Gr (m5+1) z1 l4 b20=some r:=h
 rw[Gr]at h
 try cbv
 cases b20
 rotate_left
 ·replace h:=Bo h
  try cbv
  refine AB ?_
  try cbv
  obtain rfl:=Option.some.inj h
  refine C7 hQ ?_
  try cbv
  exact⟨[],by trivial⟩
 replace h:=Bp h
 try cbv
 refine AK 29 [1,2,3,4,7,29] [.loc 0,.loc 32,.loc 128] 640 (fun m b=>m<=m5/\Gq m z1 l4 b=some r) ?_ ?_
 ·try cbv
  refine Av (fun e=>?_) (fun e=>?_)
  ·replace h:=Aj e h
   clear e
   try cbv
   exact AA (m5,true) [1,2,3,4,7,29] [.loc 0,.loc 32,.loc 128] 640 ⟨by omega,h⟩ (by cbv)
  replace h:=Ak e h
  clear e
  try cbv
  exact AA (m5,false) [1,2,3,4,7,29] [.loc 0,.loc 32,.loc 128] 640 ⟨by omega,h⟩ (by cbv)
 clear h
 rintro⟨m6,b21⟩ ⟨hm6,h⟩
 try cbv
 replace hm6:m6<=m5:=hm6
 obtain _ | m6:=m6
 ·replace h:Gq 0 z1 l4 b21=some r:=h
  rw[Gq]at h
  cases h
 replace h:Gq (m6+1) z1 l4 b21=some r:=h
 rw[Gq]at h
 try cbv
 cases b21
 rotate_left
 ·replace h:=Bo h
  try cbv
  refine AB ?_
  try cbv
  obtain rfl:=Option.some.inj h
  refine C7 hQ ?_
  try cbv
  exact⟨[],by trivial⟩
 replace h:=Bp h
 try cbv
 refine AK 34 [1,2,3,4,7,34] [.loc 0,.loc 32,.loc 128] 704 (fun m b=>m<=m6/\Gp m z1 l4 b=some r) ?_ ?_
 ·try cbv
  refine Av (fun e=>?_) (fun e=>?_)
  ·replace h:=Aj e h
   clear e
   try cbv
   exact AA (m6,true) [1,2,3,4,7,34] [.loc 0,.loc 32,.loc 128] 704 ⟨by omega,h⟩ (by cbv)
  replace h:=Ak e h
  clear e
  try cbv
  exact AA (m6,false) [1,2,3,4,7,34] [.loc 0,.loc 32,.loc 128] 704 ⟨by omega,h⟩ (by cbv)
 clear h
 rintro⟨m7,b22⟩ ⟨hm7,h⟩
 try cbv
 replace hm7:m7<=m6:=hm7
 obtain _ | m7:=m7
 ·replace h:Gp 0 z1 l4 b22=some r:=h
  rw[Gp]at h
  cases h
 replace h:Gp (m7+1) z1 l4 b22=some r:=h
 rw[Gp]at h
 try cbv
 cases b22
 rotate_left
 ·replace h:=Bo h
  try cbv
  refine AB ?_
  try cbv
  obtain rfl:=Option.some.inj h
  refine C7 hQ ?_
  try cbv
  exact⟨[],by trivial⟩
 replace h:=Bp h
 try cbv
 refine AK 38 [1,2,3,4,7,38] [.loc 0,.loc 32,.loc 128] 768 (fun m b=>m<=m7/\Gn m z1 l4 b=some r) ?_ ?_
 ·try cbv
  refine Av (fun e=>?_) (fun e=>?_)
  ·replace h:=Aj e h
   clear e
   try cbv
   exact AA (m7,true) [1,2,3,4,7,38] [.loc 0,.loc 32,.loc 128] 768 ⟨by omega,h⟩ (by cbv)
  replace h:=Ak e h
  clear e
  try cbv
  exact AA (m7,false) [1,2,3,4,7,38] [.loc 0,.loc 32,.loc 128] 768 ⟨by omega,h⟩ (by cbv)
 clear h
 rintro⟨m8,b23⟩ ⟨hm8,h⟩
 try cbv
 replace hm8:m8<=m7:=hm8
 obtain _ | m8:=m8
 ·replace h:Gn 0 z1 l4 b23=some r:=h
  rw[Gn]at h
  cases h
 replace h:Gn (m8+1) z1 l4 b23=some r:=h
 rw[Gn]at h
 try cbv
 cases b23
 rotate_left
 ·replace h:=Bo h
  try cbv
  refine AB ?_
  try cbv
  obtain rfl:=Option.some.inj h
  refine C7 hQ ?_
  try cbv
  exact⟨[],by trivial⟩
 replace h:=Bp h
 try cbv
 refine AK 43 [1,2,3,4,7,43] [.loc 0,.loc 32,.loc 128] 896 (fun m b=>m<=m8/\EH m z1 l4 b=some r) ?_ ?_
 ·try cbv
  refine AK 43 [1,2,3,4,7,43] [.loc 0,.loc 32,.loc 128] 832 (fun m b=>m<=m8/\Gm m z1 l4 b=some r) ?_ ?_
  ·try cbv
   refine Av (fun e=>?_) (fun e=>?_)
   ·replace h:=Aj e h
    clear e
    try cbv
    exact AA (m8,true) [1,2,3,4,7,43] [.loc 0,.loc 32,.loc 128] 832 ⟨by omega,h⟩ (by cbv)
   replace h:=Ak e h
   clear e
   try cbv
   exact AA (m8,false) [1,2,3,4,7,43] [.loc 0,.loc 32,.loc 128] 832 ⟨by omega,h⟩ (by cbv)
  clear h
  rintro⟨m9,b24⟩ ⟨hm9,h⟩
  try cbv
  replace hm9:m9<=m8:=hm9
  obtain _ | m9:=m9
  ·replace h:Gm 0 z1 l4 b24=some r:=h
   rw[Gm]at h
   cases h
  replace h:Gm (m9+1) z1 l4 b24=some r:=h
  rw[Gm]at h
  try cbv
  cases b24
  ·replace h:=Bp h
   try cbv
   refine Av (fun e=>?_) (fun e=>?_)
   ·replace h:=Aj e h
    clear e
    try cbv
    exact AA (m9,true) [1,2,3,4,7,43] [.loc 0,.loc 32,.loc 128] 896 ⟨by omega,h⟩ (by cbv)
   replace h:=Ak e h
   clear e
   try cbv
   exact AA (m9,false) [1,2,3,4,7,43] [.loc 0,.loc 32,.loc 128] 896 ⟨by omega,h⟩ (by cbv)
  replace h:=Bo h
  try cbv
  exact AA (m9,true) [1,2,3,4,7,43] [.loc 0,.loc 32,.loc 128] 896 ⟨by omega,h⟩ (by cbv)
 clear h
 rintro⟨m10,b25⟩ ⟨hm10,h⟩
 try cbv
 replace hm10:m10<=m8:=hm10
 obtain _ | m10:=m10
 ·replace h:EH 0 z1 l4 b25=some r:=h
  rw[EH]at h
  cases h
 replace h:EH (m10+1) z1 l4 b25=some r:=h
 rw[EH]at h
 try cbv
 cases b25
 rotate_left
 ·replace h:=Bo h
  try cbv
  refine AB ?_
  try cbv
  obtain rfl:=Option.some.inj h
  refine C7 hQ ?_
  try cbv
  exact⟨[],by trivial⟩
 replace h:=Bp h
 try cbv
 refine AK 47 [1,2,3,4,7,47] [.loc 0,.loc 32,.loc 128] 960 (fun m b=>m<=m10/\Et m z1 l4 b=some r) ?_ ?_
 ·try cbv
  refine Av (fun e=>?_) (fun e=>?_)
  ·replace h:=Aj e h
   clear e
   try cbv
   exact AA (m10,true) [1,2,3,4,7,47] [.loc 0,.loc 32,.loc 128] 960 ⟨by omega,h⟩ (by cbv)
  replace h:=Ak e h
  clear e
  try cbv
  exact AA (m10,false) [1,2,3,4,7,47] [.loc 0,.loc 32,.loc 128] 960 ⟨by omega,h⟩ (by cbv)
 clear h
 rintro⟨m11,b26⟩ ⟨hm11,h⟩
 try cbv
 replace hm11:m11<=m10:=hm11
 obtain _ | m11:=m11
 ·replace h:Et 0 z1 l4 b26=some r:=h
  rw[Et]at h
  cases h
 replace h:Et (m11+1) z1 l4 b26=some r:=h
 rw[Et]at h
 try cbv
 cases b26
 rotate_left
 ·replace h:=Bo h
  try cbv
  replace h:=BL M h
  obtain⟨z27,hz,h⟩:=h
  refine⟨z27,hz,?_⟩
  clear hz
  try cbv
  refine drawn ?_ ?_
  ·show _=true
   kernel_rfl
  try cbv
  refine AB ?_
  try cbv
  obtain rfl:=Option.some.inj h
  refine C7 hQ ?_
  try cbv
  exact⟨[],by trivial⟩
 replace h:=Bp h
 try cbv
 refine AK 56 [2,3,4,7,56] [.loc 32,.loc 128] 1024 (fun m b=>m<=m11/\Er m z1 b=some r) ?_ ?_
 ·try cbv
  refine Av (fun e=>?_) (fun e=>?_)
  ·replace h:=Aj e h
   clear e
   try cbv
   exact AA (m11,true) [2,3,4,7,56] [.loc 32,.loc 128] 1024 ⟨by omega,h⟩ (by cbv)
  replace h:=Ak e h
  clear e
  try cbv
  exact AA (m11,false) [2,3,4,7,56] [.loc 32,.loc 128] 1024 ⟨by omega,h⟩ (by cbv)
 clear h
 rintro⟨m12,b28⟩ ⟨hm12,h⟩
 try cbv
 replace hm12:m12<=m11:=hm12
 obtain _ | m12:=m12
 ·replace h:Er 0 z1 b28=some r:=h
  rw[Er]at h
  cases h
 replace h:Er (m12+1) z1 b28=some r:=h
 rw[Er]at h
 try cbv
 cases b28
 rotate_left
 ·replace h:=Bo h
  try cbv
  refine AB ?_
  try cbv
  obtain rfl:=Option.some.inj h
  refine C7 hQ ?_
  try cbv
  exact⟨[],by trivial⟩
 replace h:=Bp h
 try cbv
 refine AK 61 [2,3,4,61] [.loc 32,.loc 128] 1088 (fun m b=>m<=m12/\Ep m b=some r) ?_ ?_
 ·try cbv
  refine Av (fun e=>?_) (fun e=>?_)
  ·replace h:=Aj e h
   clear e
   try cbv
   exact AA (m12,true) [2,3,4,61] [.loc 32,.loc 128] 1088 ⟨by omega,h⟩ (by cbv)
  replace h:=Ak e h
  clear e
  try cbv
  exact AA (m12,false) [2,3,4,61] [.loc 32,.loc 128] 1088 ⟨by omega,h⟩ (by cbv)
 clear h
 rintro⟨m13,b29⟩ ⟨hm13,h⟩
 try cbv
 replace hm13:m13<=m12:=hm13
 obtain _ | m13:=m13
 ·replace h:Ep 0 b29=some r:=h
  rw[Ep]at h
  cases h
 replace h:Ep (m13+1) b29=some r:=h
 rw[Ep]at h
 try cbv
 cases b29
 ·replace h:=Bp h
  try cbv
  refine AB ?_
  try cbv
  obtain rfl:=Option.some.inj h
  refine C7 hQ ?_
  try cbv
  exact⟨[],by trivial⟩
 replace h:=Bo h
 try cbv
 refine AB ?_
 try cbv
 obtain rfl:=Option.some.inj h
 refine C7 hQ ?_
 try cbv
 exact⟨[],by trivial⟩
noncomputable def wC:BQ:=⟨124,[.agg [.y,.str,.str,.f 1,.y,.str,.q 3,.z,.str,.f 1,.q 8,.q 15,.q 15,.q 3,.z]],[],[⟨.tup [.mix [.z,.z,.cb false,.bool,.bool,.bool,.cb false,.bool,.fn 145 [],.fn 145 []],.b],[],[]⟩,⟨.tup [.mix [.k 0,.z,.cb false,.bool,.bool,.cb false,.cb false,.bool,.fn 74 [],.fn 145 []],.one (.cb true)],[],[]⟩,⟨.tup [.mix [.k 6,.k 1,.cb false,.cb false,.cb false,.cb false,.cb false,.cb false,.fn 73 [],.fn 145 []],.one (.cb true)],[],[]⟩,⟨.tup [.mix [.k 0,.k 0,.cb false,.cb false,.cb false,.cb false,.cb true,.cb false,.fn 74 [],.fn 73 []],.one (.cb true)],[],[]⟩,⟨.tup [.mix [.k 0,.k 0,.cb true,.cb false,.cb false,.cb false,.cb false,.cb false,.fn 74 [],.fn 74 []],.one (.cb true)],[],[]⟩],((Int×Int×Bool×Bool×Bool×Bool×Bool) ⊕ ((Int×Bool×Bool×Bool) ⊕ ((Unit) ⊕ ((Unit) ⊕ (Unit))))),inferInstance,RC⟩
noncomputable def wE:Kz:=⟨wC,fun n=>Cm fun z1 s2 s3 l4 z5 s6 l7 z8 s9 l10 l11 l12 l13 l14 z15 p h w1 w2 w4 w3 l1 l2 e1 e2 e5 e3 xs e4=>by cases e1;cases e2;cases e4;rcases p with⟨r1,r2,r3,r4,r5,r6,r7⟩ | ⟨r1,r2,r3,r4⟩ | _ | _ | _<;>(cases e5;cases e3;exact wB n h _ ⟨rfl,rfl,rfl⟩)⟩
def Nj:Nat->Int->Bool->Option (Bool)
 | 0,_,_=>none
 | n+1,z8,b16=>
  (if b16=true then (if (1:Int)<=z8 then (if z8<=(8:Int)then some true else some false)else some false)else (if z8=(0:Int)then some true else some false))
def Nk (n:Nat) (z1:Int) (s2:BA) (s3:BA) (l4:LD) (z5:Int) (s6:BA) (l7:LD) (z8:Int) (s9:BA) (l10:LD) (l11:LD) (l12:LD) (l13:LD) (l14:LD) (z15:Int):Option (Bool):=
 (if z1=(12:Int)then Nj n z8 true else Nj n z8 false)
noncomputable def wF:BX:=⟨125,Tryz.f125,[.agg [.y,.str,.str,.f 1,.y,.str,.q 3,.z,.str,.f 1,.q 8,.q 15,.q 15,.q 3,.z]],[],⟨.one (.b),[],[]⟩,Bool,inferInstance,Nk,[⟨13,[1,2,5],[.loc 0],160,[.p (.loc 0) 0,.one (.cb false),.b],[[.y,.str,.str,.f 1,.y,.str,.q 3,.z,.str,.f 1,.q 8,.q 15,.q 15,.q 3,.z]],fun n b16 _ _ _ _ _ _ _ z8 _ _ _ _ _ _ _=>Nj n z8 b16⟩]⟩
noncomputable def wG:Kz:=sg wF [] Tryz.func125 (by kernel_rfl) (by kernel_rfl) (by kernel_rfl)
def RD (n:Nat) (s1:BA) (l2:LD):Option (Bool):=
 (if s1=ByteArray.empty then AE l2 fun z3=>(if z3=(0:Int)then some true else some false)else some false)
noncomputable def wH:BX:=⟨126,Tryz.f126,[.agg [.str,.f 1]],[],⟨.one (.b),[],[]⟩,Bool,inferInstance,RD,[]⟩
noncomputable def pC:Kz:=sg wH [] Tryz.func126 (by kernel_rfl) (by kernel_rfl) (by kernel_rfl)
def U8 (n:Nat) (s1:BA):Option (Bool):=
 (if s1=ByteArray.empty then some true else some false)
noncomputable def wI:BX:=⟨145,Tryz.f145,[.s],[],⟨.one (.b),[],[]⟩,Bool,inferInstance,U8,[]⟩
noncomputable def wJ:Kz:=sg wI [] Tryz.func145 (by kernel_rfl) (by kernel_rfl) (by kernel_rfl)
def rY (n:Nat) (s1:BA):Option (Bool):=
 (if s1=hH then some true else bO1 (U3 n s1) fun b2=>some b2)
noncomputable def X94:BX:=⟨94,Tryz.f94,[.s],[],⟨.one (.b),[],[]⟩,Bool,inferInstance,rY,[]⟩
noncomputable def k94:Kz:=sg X94 [lP] Tryz.func94 (by kernel_rfl) (by kernel_rfl) (by kernel_rfl)
mutual
def J3:Nat->LD->Int->Int->Option (Bool)
 | 0,_,_,_=>none
 | n+1,l1,z2,z3=>
  AE l1 fun z4=>(if z3<z4 then (if z3<z2 then Lb n l1 z2 z3 true else Lb n l1 z2 z3 false)else Lb n l1 z2 z3 false)
def Lb:Nat->LD->Int->Int->Bool->Option (Bool)
 | 0,_,_,_,_=>none
 | n+1,l1,z2,z3,b5=>
  (if b5=true then Ap l1 z3 fun x6=>Bj x6 fun s7=>bO1 (rY n s7) fun b8=>AL (!b8) fun b9=>(if b9=true then some false else AJ (IntKind.wrap .i64 (z3+1)) fun z10=>J3 n l1 z2 z10)else AE l1 fun z11=>(if z11<=z2 then some true else some false))
end
def pD (n:Nat) (l1:LD) (z2:Int):Option (Bool):=
 J3 n l1 z2 (0:Int)
noncomputable def X93:BX:=⟨93,Tryz.f93,[.f 1,.z,.one (.fn 94 [])],[],⟨.one (.b),[],[]⟩,Bool,inferInstance,pD,[⟨26,[0,1,2,6,7],[],64,[.f 1,.z,.one (.fn 94 []),.one (.cb false),.z],[],fun n l1 z2 z3=>J3 n l1 z2 z3⟩,
 ⟨209,[0,1,2,6,7,16],[],352,[.f 1,.z,.one (.fn 94 []),.one (.cb false),.z,.b],[],fun n l1 z2 z3 b5=>Lb n l1 z2 z3 b5⟩]⟩
noncomputable def k93:Kz:=sg X93 [k94] Tryz.func93 (by kernel_rfl) (by kernel_rfl) (by kernel_rfl)
def U9 (n:Nat) (s1:BA) (l2:LD):Option (Bool):=
 bO1 (U3 n s1) fun b3=>(if b3=true then bO1 (pD n l2 (40:Int)) fun b4=>some b4 else some false)
noncomputable def X52:BX:=⟨52,Tryz.f52,[.agg [.str,.f 1]],[],⟨.one (.b),[],[]⟩,Bool,inferInstance,U9,[]⟩
noncomputable def wK:Kz:=sg X52 [lP,k93] Tryz.func52 (by kernel_rfl) (by kernel_rfl) (by kernel_rfl)
theorem yS (n:Nat):∀⦃s1 l2 r1⦄,U9 n s1 l2=some r1->
  Ah Tryz.prog inv 52 [.d (.agg [.str s1,.list false 1 l2])] [] (.v (.d (.bool r1))) [] []:=fun s1 l2 r1 h=>wK.ok n [.S s1,.L l2] _ h _ _ _ _ _ _ rfl rfl rfl rfl _ rfl
mutual
def Ic:Nat->LD->Int->Int->Option (Bool)
 | 0,_,_,_=>none
 | n+1,l1,z2,z3=>
  AE l1 fun z4=>(if z3<z4 then (if z3<z2 then Gw n l1 z2 z3 true else Gw n l1 z2 z3 false)else Gw n l1 z2 z3 false)
def Gw:Nat->LD->Int->Int->Bool->Option (Bool)
 | 0,_,_,_,_=>none
 | n+1,l1,z2,z3,b5=>
  (if b5=true then Ap l1 z3 fun x6=>Bj x6 fun s7=>bO1 (U3 n s7) fun b8=>AL (!b8) fun b9=>(if b9=true then some false else AJ (IntKind.wrap .i64 (z3+1)) fun z10=>Ic n l1 z2 z10)else AE l1 fun z11=>(if z11<=z2 then some true else some false))
end
def Ix (n:Nat) (l1:LD) (z2:Int):Option (Bool):=
 Ic n l1 z2 (0:Int)
noncomputable def pE:BX:=⟨93,Tryz.f93,[.f 1,.z,.one (.fn 74 [])],[],⟨.one (.b),[],[]⟩,Bool,inferInstance,Ix,[⟨26,[0,1,2,6,7],[],64,[.f 1,.z,.one (.fn 74 []),.one (.cb false),.z],[],fun n l1 z2 z3=>Ic n l1 z2 z3⟩,
 ⟨209,[0,1,2,6,7,16],[],352,[.f 1,.z,.one (.fn 74 []),.one (.cb false),.z,.b],[],fun n l1 z2 z3 b5=>Gw n l1 z2 z3 b5⟩]⟩
noncomputable def fR:Kz:=sg pE [lP] Tryz.func93 (by kernel_rfl) (by kernel_rfl) (by kernel_rfl)
def Cy:Nat->Int->Bool->Option (Bool×Int×Int×Bool)
 | 0,_,_=>none
 | n+1,z1,b27=>
  (if b27=true then some (false,(2:Int),(2:Int),true)else (if (1:Int)<=z1 then (if z1<=(36:Int)then some (false,(1:Int),(1:Int),true)else some (false,(1:Int),(1:Int),false))else some (false,(1:Int),(1:Int),false)))
def Gx:Nat->Int->Bool->Option (Bool×Int×Int×Bool)
 | 0,_,_=>none
 | n+1,z1,b26=>
  (if b26=true then Cy n z1 true else (if z1=(17:Int)then Cy n z1 true else Cy n z1 false))
def Gy:Nat->Int->Bool->Option (Bool×Int×Int×Bool)
 | 0,_,_=>none
 | n+1,z1,b25=>
  (if b25=true then Cy n z1 true else (if z1=(16:Int)then Gx n z1 true else Gx n z1 false))
def Gz:Nat->Int->Bool->Option (Bool×Int×Int×Bool)
 | 0,_,_=>none
 | n+1,z1,b24=>
  (if b24=true then Cy n z1 true else (if z1=(15:Int)then Gy n z1 true else Gy n z1 false))
def G0:Nat->Int->Bool->Option (Bool×Int×Int×Bool)
 | 0,_,_=>none
 | n+1,z1,b23=>
  (if b23=true then Cy n z1 true else (if z1=(14:Int)then Gz n z1 true else Gz n z1 false))
def G3:Nat->Int->Bool->Option (Bool×Int×Int×Bool)
 | 0,_,_=>none
 | n+1,z1,b22=>
  (if b22=true then Cy n z1 true else (if z1=(13:Int)then G0 n z1 true else G0 n z1 false))
def G4:Nat->Int->Bool->Option (Bool×Int×Int×Bool)
 | 0,_,_=>none
 | n+1,z1,b21=>
  (if b21=true then Cy n z1 true else (if z1=(12:Int)then G3 n z1 true else G3 n z1 false))
def G5:Nat->Int->Bool->Option (Bool×Int×Int×Bool)
 | 0,_,_=>none
 | n+1,z1,b20=>
  (if b20=true then Cy n z1 true else (if z1=(11:Int)then G4 n z1 true else G4 n z1 false))
def G6:Nat->Int->Bool->Option (Bool×Int×Int×Bool)
 | 0,_,_=>none
 | n+1,z1,b19=>
  (if b19=true then Cy n z1 true else (if z1=(10:Int)then G5 n z1 true else G5 n z1 false))
def G7:Nat->Int->Bool->Option (Bool×Int×Int×Bool)
 | 0,_,_=>none
 | n+1,z1,b18=>
  (if b18=true then some (false,(0:Int),(1:Int),true)else (if z1=(9:Int)then G6 n z1 true else G6 n z1 false))
def Fx:Nat->Int->Bool->Option (Bool×Int×Int×Bool)
 | 0,_,_=>none
 | n+1,z1,b17=>
  (if b17=true then some (false,(0:Int),(6:Int),true)else (if z1=(20:Int)then G7 n z1 true else G7 n z1 false))
def G8:Nat->Int->Bool->Option (Bool×Int×Int×Bool)
 | 0,_,_=>none
 | n+1,z1,b16=>
  (if b16=true then Fx n z1 true else (if z1=(19:Int)then Fx n z1 true else Fx n z1 false))
def EY:Nat->Int->Bool->Option (Bool×Int×Int×Bool)
 | 0,_,_=>none
 | n+1,z1,b15=>
  (if b15=true then some (true,(1:Int),(1:Int),true)else (if z1=(18:Int)then G8 n z1 true else G8 n z1 false))
def G9:Nat->Int->Bool->Option (Bool×Int×Int×Bool)
 | 0,_,_=>none
 | n+1,z1,b14=>
  (if b14=true then EY n z1 true else (if z1=(35:Int)then EY n z1 true else EY n z1 false))
def HA:Nat->Int->Bool->Option (Bool×Int×Int×Bool)
 | 0,_,_=>none
 | n+1,z1,b13=>
  (if b13=true then EY n z1 true else (if z1=(34:Int)then G9 n z1 true else G9 n z1 false))
def HB:Nat->Int->Bool->Option (Bool×Int×Int×Bool)
 | 0,_,_=>none
 | n+1,z1,b12=>
  (if b12=true then EY n z1 true else (if z1=(33:Int)then HA n z1 true else HA n z1 false))
def DW:Nat->Int->Bool->Option (Bool×Int×Int×Bool)
 | 0,_,_=>none
 | n+1,z1,b11=>
  (if b11=true then some (true,(0:Int),(0:Int),true)else (if z1=(25:Int)then HB n z1 true else HB n z1 false))
def J4:Nat->Int->Bool->Option (Bool×Int×Int×Bool)
 | 0,_,_=>none
 | n+1,z1,b10=>
  (if b10=true then DW n z1 true else (if z1=(36:Int)then DW n z1 true else DW n z1 false))
def J5:Nat->Int->Bool->Option (Bool×Int×Int×Bool)
 | 0,_,_=>none
 | n+1,z1,b9=>
  (if b9=true then DW n z1 true else (if z1=(32:Int)then J4 n z1 true else J4 n z1 false))
def J6:Nat->Int->Bool->Option (Bool×Int×Int×Bool)
 | 0,_,_=>none
 | n+1,z1,b8=>
  (if b8=true then DW n z1 true else (if z1=(28:Int)then J5 n z1 true else J5 n z1 false))
def J7:Nat->Int->Bool->Option (Bool×Int×Int×Bool)
 | 0,_,_=>none
 | n+1,z1,b7=>
  (if b7=true then DW n z1 true else (if z1=(24:Int)then J6 n z1 true else J6 n z1 false))
def J8:Nat->Int->Bool->Option (Bool×Int×Int×Bool)
 | 0,_,_=>none
 | n+1,z1,b6=>
  (if b6=true then DW n z1 true else (if z1=(6:Int)then J7 n z1 true else J7 n z1 false))
def J9:Nat->Int->Bool->Option (Bool×Int×Int×Bool)
 | 0,_,_=>none
 | n+1,z1,b5=>
  (if b5=true then DW n z1 true else (if z1=(5:Int)then J8 n z1 true else J8 n z1 false))
def H7:Nat->Int->Bool->Option (Bool×Int×Int×Bool)
 | 0,_,_=>none
 | n+1,z1,b4=>
  (if b4=true then some (false,(0:Int),(0:Int),true)else (if z1=(4:Int)then J9 n z1 true else J9 n z1 false))
def KA:Nat->Int->Bool->Option (Bool×Int×Int×Bool)
 | 0,_,_=>none
 | n+1,z1,b3=>
  (if b3=true then H7 n z1 true else (if z1=(3:Int)then H7 n z1 true else H7 n z1 false))
def KB:Nat->Int->Bool->Option (Bool×Int×Int×Bool)
 | 0,_,_=>none
 | n+1,z1,b2=>
  (if b2=true then H7 n z1 true else (if z1=(2:Int)then KA n z1 true else KA n z1 false))
def jX (n:Nat) (z1:Int):Option (Bool×Int×Int×Bool):=
 (if z1=(1:Int)then KB n z1 true else KB n z1 false)
theorem T95 (n:Nat):∀⦃z1 r1 r2 r3 r4⦄,jX n z1=some (r1,r2,r3,r4)->
    Ah Tryz.prog inv 95 [.d (.int .u8 z1)] [] (.t [.d (.agg [.bool r1,.int .i64 r2,.int .i64 r3]),.d (.bool r4)]) [] []:=by
 intro z1 r1 r2 r3 r4 h
 unfold jX at h
 refine Ah.of BI Ao Fi Tryz.func95 rfl (by kernel_rfl) rfl rfl rfl (fun M hM hI=>?_)
 try cbv
 refine AB ?_
 try cbv
 refine AB ?_
 try cbv
 refine AB ?_
 try cbv
 refine AK 5 [0,2,3,4,5] [.loc 0] 288 (fun m b=>m<=n/\H7 m z1 b=some (r1,r2,r3,r4)) ?_ ?_
 ·try cbv
  refine AK 5 [0,2,3,4,5] [.loc 0] 160 (fun m b=>m<=n/\KB m z1 b=some (r1,r2,r3,r4)) ?_ ?_
  ·try cbv
   refine Av (fun e=>?_) (fun e=>?_)
   ·replace h:=Aj e h
    clear e
    try cbv
    exact AA (n,true) [0,2,3,4,5] [.loc 0] 160 ⟨by omega,h⟩ (by cbv)
   replace h:=Ak e h
   clear e
   try cbv
   exact AA (n,false) [0,2,3,4,5] [.loc 0] 160 ⟨by omega,h⟩ (by cbv)
  clear h
  rintro⟨m1,b2⟩ ⟨hm1,h⟩
  try cbv
  replace hm1:m1<=n:=hm1
  obtain _ | m1:=m1
  ·replace h:KB 0 z1 b2=some (r1,r2,r3,r4):=h
   rw[KB]at h
   cases h
  replace h:KB (m1+1) z1 b2=some (r1,r2,r3,r4):=h
  rw[KB]at h
  try cbv
  cases b2
  rotate_left
  ·replace h:=Bo h
   try cbv
   exact AA (m1,true) [0,2,3,4,5] [.loc 0] 288 ⟨by omega,h⟩ (by cbv)
  replace h:=Bp h
  try cbv
  refine AK 5 [0,2,3,4,5] [.loc 0] 224 (fun m b=>m<=m1/\KA m z1 b=some (r1,r2,r3,r4)) ?_ ?_
  ·try cbv
   refine Av (fun e=>?_) (fun e=>?_)
   ·replace h:=Aj e h
    clear e
    try cbv
    exact AA (m1,true) [0,2,3,4,5] [.loc 0] 224 ⟨by omega,h⟩ (by cbv)
   replace h:=Ak e h
   clear e
   try cbv
   exact AA (m1,false) [0,2,3,4,5] [.loc 0] 224 ⟨by omega,h⟩ (by cbv)
  clear h
  rintro⟨m2,b3⟩ ⟨hm2,h⟩
  try cbv
  replace hm2:m2<=m1:=hm2
  obtain _ | m2:=m2
  ·replace h:KA 0 z1 b3=some (r1,r2,r3,r4):=h
   rw[KA]at h
   cases h
  replace h:KA (m2+1) z1 b3=some (r1,r2,r3,r4):=h
  rw[KA]at h
  try cbv
  cases b3
  ·replace h:=Bp h
   try cbv
   refine Av (fun e=>?_) (fun e=>?_)
   ·replace h:=Aj e h
    clear e
    try cbv
    exact AA (m2,true) [0,2,3,4,5] [.loc 0] 288 ⟨by omega,h⟩ (by cbv)
   replace h:=Ak e h
   clear e
   try cbv
   exact AA (m2,false) [0,2,3,4,5] [.loc 0] 288 ⟨by omega,h⟩ (by cbv)
  replace h:=Bo h
  try cbv
  exact AA (m2,true) [0,2,3,4,5] [.loc 0] 288 ⟨by omega,h⟩ (by cbv)
 clear h
 rintro⟨m3,b4⟩ ⟨hm3,h⟩
 try cbv
 replace hm3:m3<=n:=hm3
 obtain _ | m3:=m3
 ·replace h:H7 0 z1 b4=some (r1,r2,r3,r4):=h
  rw[H7]at h
  cases h
 replace h:H7 (m3+1) z1 b4=some (r1,r2,r3,r4):=h
 rw[H7]at h
 try cbv
 cases b4
 rotate_left
 ·replace h:=Bo h
  try cbv
  refine AB ?_
  try cbv
  obtain⟨rfl,rfl,rfl,rfl⟩:=QT h
  refine AR ?_
  try cbv
  exact⟨[],by trivial⟩
 replace h:=Bp h
 try cbv
 refine AK 10 [0,2,3,4,10] [.loc 0] 736 (fun m b=>m<=m3/\DW m z1 b=some (r1,r2,r3,r4)) ?_ ?_
 ·try cbv
  refine AK 10 [0,2,3,4,10] [.loc 0] 352 (fun m b=>m<=m3/\J9 m z1 b=some (r1,r2,r3,r4)) ?_ ?_
  ·try cbv
   refine Av (fun e=>?_) (fun e=>?_)
   ·replace h:=Aj e h
    clear e
    try cbv
    exact AA (m3,true) [0,2,3,4,10] [.loc 0] 352 ⟨by omega,h⟩ (by cbv)
   replace h:=Ak e h
   clear e
   try cbv
   exact AA (m3,false) [0,2,3,4,10] [.loc 0] 352 ⟨by omega,h⟩ (by cbv)
  clear h
  rintro⟨m4,b5⟩ ⟨hm4,h⟩
  try cbv
  replace hm4:m4<=m3:=hm4
  obtain _ | m4:=m4
  ·replace h:J9 0 z1 b5=some (r1,r2,r3,r4):=h
   rw[J9]at h
   cases h
  replace h:J9 (m4+1) z1 b5=some (r1,r2,r3,r4):=h
  rw[J9]at h
  try cbv
  cases b5
  rotate_left
  ·replace h:=Bo h
   try cbv
   exact AA (m4,true) [0,2,3,4,10] [.loc 0] 736 ⟨by omega,h⟩ (by cbv)
  replace h:=Bp h
  try cbv
  refine AK 10 [0,2,3,4,10] [.loc 0] 416 (fun m b=>m<=m4/\J8 m z1 b=some (r1,r2,r3,r4)) ?_ ?_
  ·try cbv
   refine Av (fun e=>?_) (fun e=>?_)
   ·replace h:=Aj e h
    clear e
    try cbv
    exact AA (m4,true) [0,2,3,4,10] [.loc 0] 416 ⟨by omega,h⟩ (by cbv)
   replace h:=Ak e h
   clear e
   try cbv
   exact AA (m4,false) [0,2,3,4,10] [.loc 0] 416 ⟨by omega,h⟩ (by cbv)
  clear h
  rintro⟨m5,b6⟩ ⟨hm5,h⟩
  try cbv
  replace hm5:m5<=m4:=hm5
  obtain _ | m5:=m5
  ·replace h:J8 0 z1 b6=some (r1,r2,r3,r4):=h
   rw[J8]at h
   cases h
  replace h:J8 (m5+1) z1 b6=some (r1,r2,r3,r4):=h
  rw[J8]at h
  try cbv
  cases b6
  rotate_left
  ·replace h:=Bo h
   try cbv
   exact AA (m5,true) [0,2,3,4,10] [.loc 0] 736 ⟨by omega,h⟩ (by cbv)
  replace h:=Bp h
  try cbv
  refine AK 10 [0,2,3,4,10] [.loc 0] 480 (fun m b=>m<=m5/\J7 m z1 b=some (r1,r2,r3,r4)) ?_ ?_
  ·try cbv
   refine Av (fun e=>?_) (fun e=>?_)
   ·replace h:=Aj e h
    clear e
    try cbv
    exact AA (m5,true) [0,2,3,4,10] [.loc 0] 480 ⟨by omega,h⟩ (by cbv)
   replace h:=Ak e h
   clear e
   try cbv
   exact AA (m5,false) [0,2,3,4,10] [.loc 0] 480 ⟨by omega,h⟩ (by cbv)
  clear h
  rintro⟨m6,b7⟩ ⟨hm6,h⟩
  try cbv
  replace hm6:m6<=m5:=hm6
  obtain _ | m6:=m6
  ·replace h:J7 0 z1 b7=some (r1,r2,r3,r4):=h
   rw[J7]at h
   cases h
  replace h:J7 (m6+1) z1 b7=some (r1,r2,r3,r4):=h
  rw[J7]at h
  try cbv
  cases b7
  rotate_left
  ·replace h:=Bo h
   try cbv
   exact AA (m6,true) [0,2,3,4,10] [.loc 0] 736 ⟨by omega,h⟩ (by cbv)
  replace h:=Bp h
  try cbv
  refine AK 10 [0,2,3,4,10] [.loc 0] 544 (fun m b=>m<=m6/\J6 m z1 b=some (r1,r2,r3,r4)) ?_ ?_
  ·try cbv
   refine Av (fun e=>?_) (fun e=>?_)
   ·replace h:=Aj e h
    clear e
    try cbv
    exact AA (m6,true) [0,2,3,4,10] [.loc 0] 544 ⟨by omega,h⟩ (by cbv)
   replace h:=Ak e h
   clear e
   try cbv
   exact AA (m6,false) [0,2,3,4,10] [.loc 0] 544 ⟨by omega,h⟩ (by cbv)
  clear h
  rintro⟨m7,b8⟩ ⟨hm7,h⟩
  try cbv
  replace hm7:m7<=m6:=hm7
  obtain _ | m7:=m7
  ·replace h:J6 0 z1 b8=some (r1,r2,r3,r4):=h
   rw[J6]at h
   cases h
  replace h:J6 (m7+1) z1 b8=some (r1,r2,r3,r4):=h
  rw[J6]at h
  try cbv
  cases b8
  rotate_left
  ·replace h:=Bo h
   try cbv
   exact AA (m7,true) [0,2,3,4,10] [.loc 0] 736 ⟨by omega,h⟩ (by cbv)
  replace h:=Bp h
  try cbv
  refine AK 10 [0,2,3,4,10] [.loc 0] 608 (fun m b=>m<=m7/\J5 m z1 b=some (r1,r2,r3,r4)) ?_ ?_
  ·try cbv
   refine Av (fun e=>?_) (fun e=>?_)
   ·replace h:=Aj e h
    clear e
    try cbv
    exact AA (m7,true) [0,2,3,4,10] [.loc 0] 608 ⟨by omega,h⟩ (by cbv)
   replace h:=Ak e h
   clear e
   try cbv
   exact AA (m7,false) [0,2,3,4,10] [.loc 0] 608 ⟨by omega,h⟩ (by cbv)
  clear h
  rintro⟨m8,b9⟩ ⟨hm8,h⟩
  try cbv
  replace hm8:m8<=m7:=hm8
  obtain _ | m8:=m8
  ·replace h:J5 0 z1 b9=some (r1,r2,r3,r4):=h
   rw[J5]at h
   cases h
  replace h:J5 (m8+1) z1 b9=some (r1,r2,r3,r4):=h
  rw[J5]at h
  try cbv
  cases b9
  rotate_left
  ·replace h:=Bo h
   try cbv
   exact AA (m8,true) [0,2,3,4,10] [.loc 0] 736 ⟨by omega,h⟩ (by cbv)
  replace h:=Bp h
  try cbv
  refine AK 10 [0,2,3,4,10] [.loc 0] 672 (fun m b=>m<=m8/\J4 m z1 b=some (r1,r2,r3,r4)) ?_ ?_
  ·try cbv
   refine Av (fun e=>?_) (fun e=>?_)
   ·replace h:=Aj e h
    clear e
    try cbv
    exact AA (m8,true) [0,2,3,4,10] [.loc 0] 672 ⟨by omega,h⟩ (by cbv)
   replace h:=Ak e h
   clear e
   try cbv
   exact AA (m8,false) [0,2,3,4,10] [.loc 0] 672 ⟨by omega,h⟩ (by cbv)
  clear h
  rintro⟨m9,b10⟩ ⟨hm9,h⟩
  try cbv
  replace hm9:m9<=m8:=hm9
  obtain _ | m9:=m9
  ·replace h:J4 0 z1 b10=some (r1,r2,r3,r4):=h
   rw[J4]at h
   cases h
  replace h:J4 (m9+1) z1 b10=some (r1,r2,r3,r4):=h
  rw[J4]at h
  try cbv
  cases b10
  ·replace h:=Bp h
   try cbv
   refine Av (fun e=>?_) (fun e=>?_)
   ·replace h:=Aj e h
    clear e
    try cbv
    exact AA (m9,true) [0,2,3,4,10] [.loc 0] 736 ⟨by omega,h⟩ (by cbv)
   replace h:=Ak e h
   clear e
   try cbv
   exact AA (m9,false) [0,2,3,4,10] [.loc 0] 736 ⟨by omega,h⟩ (by cbv)
  replace h:=Bo h
  try cbv
  exact AA (m9,true) [0,2,3,4,10] [.loc 0] 736 ⟨by omega,h⟩ (by cbv)
 clear h
 rintro⟨m10,b11⟩ ⟨hm10,h⟩
 try cbv
 replace hm10:m10<=m3:=hm10
 obtain _ | m10:=m10
 ·replace h:DW 0 z1 b11=some (r1,r2,r3,r4):=h
  rw[DW]at h
  cases h
 replace h:DW (m10+1) z1 b11=some (r1,r2,r3,r4):=h
 rw[DW]at h
 try cbv
 cases b11
 rotate_left
 ·replace h:=Bo h
  try cbv
  refine AB ?_
  try cbv
  obtain⟨rfl,rfl,rfl,rfl⟩:=QT h
  refine AR ?_
  try cbv
  exact⟨[],by trivial⟩
 replace h:=Bp h
 try cbv
 refine AK 19 [0,2,3,4,19] [.loc 0] 992 (fun m b=>m<=m10/\EY m z1 b=some (r1,r2,r3,r4)) ?_ ?_
 ·try cbv
  refine AK 19 [0,2,3,4,19] [.loc 0] 800 (fun m b=>m<=m10/\HB m z1 b=some (r1,r2,r3,r4)) ?_ ?_
  ·try cbv
   refine Av (fun e=>?_) (fun e=>?_)
   ·replace h:=Aj e h
    clear e
    try cbv
    exact AA (m10,true) [0,2,3,4,19] [.loc 0] 800 ⟨by omega,h⟩ (by cbv)
   replace h:=Ak e h
   clear e
   try cbv
   exact AA (m10,false) [0,2,3,4,19] [.loc 0] 800 ⟨by omega,h⟩ (by cbv)
  clear h
  rintro⟨m11,b12⟩ ⟨hm11,h⟩
  try cbv
  replace hm11:m11<=m10:=hm11
  obtain _ | m11:=m11
  ·replace h:HB 0 z1 b12=some (r1,r2,r3,r4):=h
   rw[HB]at h
   cases h
  replace h:HB (m11+1) z1 b12=some (r1,r2,r3,r4):=h
  rw[HB]at h
  try cbv
  cases b12
  rotate_left
  ·replace h:=Bo h
   try cbv
   exact AA (m11,true) [0,2,3,4,19] [.loc 0] 992 ⟨by omega,h⟩ (by cbv)
  replace h:=Bp h
  try cbv
  refine AK 19 [0,2,3,4,19] [.loc 0] 864 (fun m b=>m<=m11/\HA m z1 b=some (r1,r2,r3,r4)) ?_ ?_
  ·try cbv
   refine Av (fun e=>?_) (fun e=>?_)
   ·replace h:=Aj e h
    clear e
    try cbv
    exact AA (m11,true) [0,2,3,4,19] [.loc 0] 864 ⟨by omega,h⟩ (by cbv)
   replace h:=Ak e h
   clear e
   try cbv
   exact AA (m11,false) [0,2,3,4,19] [.loc 0] 864 ⟨by omega,h⟩ (by cbv)
  clear h
  rintro⟨m12,b13⟩ ⟨hm12,h⟩
  try cbv
  replace hm12:m12<=m11:=hm12
  obtain _ | m12:=m12
  ·replace h:HA 0 z1 b13=some (r1,r2,r3,r4):=h
   rw[HA]at h
   cases h
  replace h:HA (m12+1) z1 b13=some (r1,r2,r3,r4):=h
  rw[HA]at h
  try cbv
  cases b13
  rotate_left
  ·replace h:=Bo h
   try cbv
   exact AA (m12,true) [0,2,3,4,19] [.loc 0] 992 ⟨by omega,h⟩ (by cbv)
  replace h:=Bp h
  try cbv
  refine AK 19 [0,2,3,4,19] [.loc 0] 928 (fun m b=>m<=m12/\G9 m z1 b=some (r1,r2,r3,r4)) ?_ ?_
  ·try cbv
   refine Av (fun e=>?_) (fun e=>?_)
   ·replace h:=Aj e h
    clear e
    try cbv
    exact AA (m12,true) [0,2,3,4,19] [.loc 0] 928 ⟨by omega,h⟩ (by cbv)
   replace h:=Ak e h
   clear e
   try cbv
   exact AA (m12,false) [0,2,3,4,19] [.loc 0] 928 ⟨by omega,h⟩ (by cbv)
  clear h
  rintro⟨m13,b14⟩ ⟨hm13,h⟩
  try cbv
  replace hm13:m13<=m12:=hm13
  obtain _ | m13:=m13
  ·replace h:G9 0 z1 b14=some (r1,r2,r3,r4):=h
   rw[G9]at h
   cases h
  replace h:G9 (m13+1) z1 b14=some (r1,r2,r3,r4):=h
  rw[G9]at h
  try cbv
  cases b14
  ·replace h:=Bp h
   try cbv
   refine Av (fun e=>?_) (fun e=>?_)
   ·replace h:=Aj e h
    clear e
    try cbv
    exact AA (m13,true) [0,2,3,4,19] [.loc 0] 992 ⟨by omega,h⟩ (by cbv)
   replace h:=Ak e h
   clear e
   try cbv
   exact AA (m13,false) [0,2,3,4,19] [.loc 0] 992 ⟨by omega,h⟩ (by cbv)
  replace h:=Bo h
  try cbv
  exact AA (m13,true) [0,2,3,4,19] [.loc 0] 992 ⟨by omega,h⟩ (by cbv)
 clear h
 rintro⟨m14,b15⟩ ⟨hm14,h⟩
 try cbv
 replace hm14:m14<=m10:=hm14
 obtain _ | m14:=m14
 ·replace h:EY 0 z1 b15=some (r1,r2,r3,r4):=h
  rw[EY]at h
  cases h
 replace h:EY (m14+1) z1 b15=some (r1,r2,r3,r4):=h
 rw[EY]at h
 try cbv
 cases b15
 rotate_left
 ·replace h:=Bo h
  try cbv
  refine AB ?_
  try cbv
  obtain⟨rfl,rfl,rfl,rfl⟩:=QT h
  refine AR ?_
  try cbv
  exact⟨[],by trivial⟩
 replace h:=Bp h
 try cbv
 refine AK 25 [0,2,3,4,25] [.loc 0] 1120 (fun m b=>m<=m14/\Fx m z1 b=some (r1,r2,r3,r4)) ?_ ?_
 ·try cbv
  refine AK 25 [0,2,3,4,25] [.loc 0] 1056 (fun m b=>m<=m14/\G8 m z1 b=some (r1,r2,r3,r4)) ?_ ?_
  ·try cbv
   refine Av (fun e=>?_) (fun e=>?_)
   ·replace h:=Aj e h
    clear e
    try cbv
    exact AA (m14,true) [0,2,3,4,25] [.loc 0] 1056 ⟨by omega,h⟩ (by cbv)
   replace h:=Ak e h
   clear e
   try cbv
   exact AA (m14,false) [0,2,3,4,25] [.loc 0] 1056 ⟨by omega,h⟩ (by cbv)
  clear h
  rintro⟨m15,b16⟩ ⟨hm15,h⟩
  try cbv
  replace hm15:m15<=m14:=hm15
  obtain _ | m15:=m15
  ·replace h:G8 0 z1 b16=some (r1,r2,r3,r4):=h
   rw[G8]at h
   cases h
  replace h:G8 (m15+1) z1 b16=some (r1,r2,r3,r4):=h
  rw[G8]at h
  try cbv
  cases b16
  ·replace h:=Bp h
   try cbv
   refine Av (fun e=>?_) (fun e=>?_)
   ·replace h:=Aj e h
    clear e
    try cbv
    exact AA (m15,true) [0,2,3,4,25] [.loc 0] 1120 ⟨by omega,h⟩ (by cbv)
   replace h:=Ak e h
   clear e
   try cbv
   exact AA (m15,false) [0,2,3,4,25] [.loc 0] 1120 ⟨by omega,h⟩ (by cbv)
  replace h:=Bo h
  try cbv
  exact AA (m15,true) [0,2,3,4,25] [.loc 0] 1120 ⟨by omega,h⟩ (by cbv)
 clear h
 rintro⟨m16,b17⟩ ⟨hm16,h⟩
 try cbv
 replace hm16:m16<=m14:=hm16
 obtain _ | m16:=m16
 ·replace h:Fx 0 z1 b17=some (r1,r2,r3,r4):=h
  rw[Fx]at h
  cases h
 replace h:Fx (m16+1) z1 b17=some (r1,r2,r3,r4):=h
 rw[Fx]at h
 try cbv
 cases b17
 rotate_left
 ·replace h:=Bo h
  try cbv
  refine AB ?_
  try cbv
  obtain⟨rfl,rfl,rfl,rfl⟩:=QT h
  refine AR ?_
  try cbv
  exact⟨[],by trivial⟩
 replace h:=Bp h
 try cbv
 refine AK 29 [0,2,3,4,29] [.loc 0] 1184 (fun m b=>m<=m16/\G7 m z1 b=some (r1,r2,r3,r4)) ?_ ?_
 ·try cbv
  refine Av (fun e=>?_) (fun e=>?_)
  ·replace h:=Aj e h
   clear e
   try cbv
   exact AA (m16,true) [0,2,3,4,29] [.loc 0] 1184 ⟨by omega,h⟩ (by cbv)
  replace h:=Ak e h
  clear e
  try cbv
  exact AA (m16,false) [0,2,3,4,29] [.loc 0] 1184 ⟨by omega,h⟩ (by cbv)
 clear h
 rintro⟨m17,b18⟩ ⟨hm17,h⟩
 try cbv
 replace hm17:m17<=m16:=hm17
 obtain _ | m17:=m17
 ·replace h:G7 0 z1 b18=some (r1,r2,r3,r4):=h
  rw[G7]at h
  cases h
 replace h:G7 (m17+1) z1 b18=some (r1,r2,r3,r4):=h
 rw[G7]at h
 try cbv
 cases b18
 rotate_left
 ·replace h:=Bo h
  try cbv
  refine AB ?_
  try cbv
  obtain⟨rfl,rfl,rfl,rfl⟩:=QT h
  refine AR ?_
  try cbv
  exact⟨[],by trivial⟩
 replace h:=Bp h
 try cbv
 refine AK 32 [0,2,3,32] [.loc 0] 1760 (fun m b=>m<=m17/\Cy m z1 b=some (r1,r2,r3,r4)) ?_ ?_
 rotate_left
 ·clear h
  rintro⟨m26,b27⟩ ⟨hm26,h⟩
  try cbv
  replace hm26:m26<=m17:=hm26
  obtain _ | m26:=m26
  ·replace h:Cy 0 z1 b27=some (r1,r2,r3,r4):=h
   rw[Cy]at h
   cases h
  replace h:Cy (m26+1) z1 b27=some (r1,r2,r3,r4):=h
  rw[Cy]at h
  try cbv
  cases b27
  rotate_left
  ·replace h:=Bo h
   try cbv
   refine AB ?_
   try cbv
   obtain⟨rfl,rfl,rfl,rfl⟩:=QT h
   refine AR ?_
   try cbv
   exact⟨[],by trivial⟩
  replace h:=Bp h
  try cbv
  refine AB ?_
  try cbv
  refine Jk (fun e=>?_) (fun e=>?_)
  ·replace h:=Aj e h
   clear e
   try cbv
   refine Jk (fun e=>?_) (fun e=>?_)
   ·replace h:=Aj e h
    clear e
    try cbv
    obtain⟨rfl,rfl,rfl,rfl⟩:=QT h
    refine AR ?_
    try cbv
    exact⟨[],by trivial⟩
   replace h:=Ak (Int.not_le.2 e) h
   clear e
   try cbv
   obtain⟨rfl,rfl,rfl,rfl⟩:=QT h
   refine AR ?_
   try cbv
   exact⟨[],by trivial⟩
  replace h:=Ak (Int.not_le.2 e) h
  clear e
  try cbv
  obtain⟨rfl,rfl,rfl,rfl⟩:=QT h
  refine AR ?_
  try cbv
  exact⟨[],by trivial⟩
 try cbv
 refine AK 32 [0,2,3,4,32] [.loc 0] 1248 (fun m b=>m<=m17/\G6 m z1 b=some (r1,r2,r3,r4)) ?_ ?_
 ·try cbv
  refine Av (fun e=>?_) (fun e=>?_)
  ·replace h:=Aj e h
   clear e
   try cbv
   exact AA (m17,true) [0,2,3,4,32] [.loc 0] 1248 ⟨by omega,h⟩ (by cbv)
  replace h:=Ak e h
  clear e
  try cbv
  exact AA (m17,false) [0,2,3,4,32] [.loc 0] 1248 ⟨by omega,h⟩ (by cbv)
 clear h
 rintro⟨m18,b19⟩ ⟨hm18,h⟩
 try cbv
 replace hm18:m18<=m17:=hm18
 obtain _ | m18:=m18
 ·replace h:G6 0 z1 b19=some (r1,r2,r3,r4):=h
  rw[G6]at h
  cases h
 replace h:G6 (m18+1) z1 b19=some (r1,r2,r3,r4):=h
 rw[G6]at h
 try cbv
 cases b19
 rotate_left
 ·replace h:=Bo h
  try cbv
  exact AA (m18,true) [0,2,3,32] [.loc 0] 1760 ⟨by omega,h⟩ (by cbv)
 replace h:=Bp h
 try cbv
 refine AK 32 [0,2,3,4,32] [.loc 0] 1312 (fun m b=>m<=m18/\G5 m z1 b=some (r1,r2,r3,r4)) ?_ ?_
 ·try cbv
  refine Av (fun e=>?_) (fun e=>?_)
  ·replace h:=Aj e h
   clear e
   try cbv
   exact AA (m18,true) [0,2,3,4,32] [.loc 0] 1312 ⟨by omega,h⟩ (by cbv)
  replace h:=Ak e h
  clear e
  try cbv
  exact AA (m18,false) [0,2,3,4,32] [.loc 0] 1312 ⟨by omega,h⟩ (by cbv)
 clear h
 rintro⟨m19,b20⟩ ⟨hm19,h⟩
 try cbv
 replace hm19:m19<=m18:=hm19
 obtain _ | m19:=m19
 ·replace h:G5 0 z1 b20=some (r1,r2,r3,r4):=h
  rw[G5]at h
  cases h
 replace h:G5 (m19+1) z1 b20=some (r1,r2,r3,r4):=h
 rw[G5]at h
 try cbv
 cases b20
 rotate_left
 ·replace h:=Bo h
  try cbv
  exact AA (m19,true) [0,2,3,32] [.loc 0] 1760 ⟨by omega,h⟩ (by cbv)
 replace h:=Bp h
 try cbv
 refine AK 32 [0,2,3,4,32] [.loc 0] 1376 (fun m b=>m<=m19/\G4 m z1 b=some (r1,r2,r3,r4)) ?_ ?_
 ·try cbv
  refine Av (fun e=>?_) (fun e=>?_)
  ·replace h:=Aj e h
   clear e
   try cbv
   exact AA (m19,true) [0,2,3,4,32] [.loc 0] 1376 ⟨by omega,h⟩ (by cbv)
  replace h:=Ak e h
  clear e
  try cbv
  exact AA (m19,false) [0,2,3,4,32] [.loc 0] 1376 ⟨by omega,h⟩ (by cbv)
 clear h
 rintro⟨m20,b21⟩ ⟨hm20,h⟩
 try cbv
 replace hm20:m20<=m19:=hm20
 obtain _ | m20:=m20
 ·replace h:G4 0 z1 b21=some (r1,r2,r3,r4):=h
  rw[G4]at h
  cases h
 replace h:G4 (m20+1) z1 b21=some (r1,r2,r3,r4):=h
 rw[G4]at h
 try cbv
 cases b21
 rotate_left
 ·replace h:=Bo h
  try cbv
  exact AA (m20,true) [0,2,3,32] [.loc 0] 1760 ⟨by omega,h⟩ (by cbv)
 replace h:=Bp h
 try cbv
 refine AK 32 [0,2,3,4,32] [.loc 0] 1440 (fun m b=>m<=m20/\G3 m z1 b=some (r1,r2,r3,r4)) ?_ ?_
 ·try cbv
  refine Av (fun e=>?_) (fun e=>?_)
  ·replace h:=Aj e h
   clear e
   try cbv
   exact AA (m20,true) [0,2,3,4,32] [.loc 0] 1440 ⟨by omega,h⟩ (by cbv)
  replace h:=Ak e h
  clear e
  try cbv
  exact AA (m20,false) [0,2,3,4,32] [.loc 0] 1440 ⟨by omega,h⟩ (by cbv)
 clear h
 rintro⟨m21,b22⟩ ⟨hm21,h⟩
 try cbv
 replace hm21:m21<=m20:=hm21
 obtain _ | m21:=m21
 ·replace h:G3 0 z1 b22=some (r1,r2,r3,r4):=h
  rw[G3]at h
  cases h
 replace h:G3 (m21+1) z1 b22=some (r1,r2,r3,r4):=h
 rw[G3]at h
 try cbv
 cases b22
 rotate_left
 ·replace h:=Bo h
  try cbv
  exact AA (m21,true) [0,2,3,32] [.loc 0] 1760 ⟨by omega,h⟩ (by cbv)
 replace h:=Bp h
 try cbv
 refine AK 32 [0,2,3,4,32] [.loc 0] 1504 (fun m b=>m<=m21/\G0 m z1 b=some (r1,r2,r3,r4)) ?_ ?_
 ·try cbv
  refine Av (fun e=>?_) (fun e=>?_)
  ·replace h:=Aj e h
   clear e
   try cbv
   exact AA (m21,true) [0,2,3,4,32] [.loc 0] 1504 ⟨by omega,h⟩ (by cbv)
  replace h:=Ak e h
  clear e
  try cbv
  exact AA (m21,false) [0,2,3,4,32] [.loc 0] 1504 ⟨by omega,h⟩ (by cbv)
 clear h
 rintro⟨m22,b23⟩ ⟨hm22,h⟩
 try cbv
 replace hm22:m22<=m21:=hm22
 obtain _ | m22:=m22
 ·replace h:G0 0 z1 b23=some (r1,r2,r3,r4):=h
  rw[G0]at h
  cases h
 replace h:G0 (m22+1) z1 b23=some (r1,r2,r3,r4):=h
 rw[G0]at h
 try cbv
 cases b23
 rotate_left
 ·replace h:=Bo h
  try cbv
  exact AA (m22,true) [0,2,3,32] [.loc 0] 1760 ⟨by omega,h⟩ (by cbv)
 replace h:=Bp h
 try cbv
 refine AK 32 [0,2,3,4,32] [.loc 0] 1568 (fun m b=>m<=m22/\Gz m z1 b=some (r1,r2,r3,r4)) ?_ ?_
 ·try cbv
  refine Av (fun e=>?_) (fun e=>?_)
  ·replace h:=Aj e h
   clear e
   try cbv
   exact AA (m22,true) [0,2,3,4,32] [.loc 0] 1568 ⟨by omega,h⟩ (by cbv)
  replace h:=Ak e h
  clear e
  try cbv
  exact AA (m22,false) [0,2,3,4,32] [.loc 0] 1568 ⟨by omega,h⟩ (by cbv)
 clear h
 rintro⟨m23,b24⟩ ⟨hm23,h⟩
 try cbv
 replace hm23:m23<=m22:=hm23
 obtain _ | m23:=m23
 ·replace h:Gz 0 z1 b24=some (r1,r2,r3,r4):=h
  rw[Gz]at h
  cases h
 replace h:Gz (m23+1) z1 b24=some (r1,r2,r3,r4):=h
 rw[Gz]at h
 try cbv
 cases b24
 rotate_left
 ·replace h:=Bo h
  try cbv
  exact AA (m23,true) [0,2,3,32] [.loc 0] 1760 ⟨by omega,h⟩ (by cbv)
 replace h:=Bp h
 try cbv
 refine AK 32 [0,2,3,4,32] [.loc 0] 1632 (fun m b=>m<=m23/\Gy m z1 b=some (r1,r2,r3,r4)) ?_ ?_
 ·try cbv
  refine Av (fun e=>?_) (fun e=>?_)
  ·replace h:=Aj e h
   clear e
   try cbv
   exact AA (m23,true) [0,2,3,4,32] [.loc 0] 1632 ⟨by omega,h⟩ (by cbv)
  replace h:=Ak e h
  clear e
  try cbv
  exact AA (m23,false) [0,2,3,4,32] [.loc 0] 1632 ⟨by omega,h⟩ (by cbv)
 clear h
 rintro⟨m24,b25⟩ ⟨hm24,h⟩
 try cbv
 replace hm24:m24<=m23:=hm24
 obtain _ | m24:=m24
 ·replace h:Gy 0 z1 b25=some (r1,r2,r3,r4):=h
  rw[Gy]at h
  cases h
 replace h:Gy (m24+1) z1 b25=some (r1,r2,r3,r4):=h
 rw[Gy]at h
 try cbv
 cases b25
 rotate_left
 ·replace h:=Bo h
  try cbv
  exact AA (m24,true) [0,2,3,32] [.loc 0] 1760 ⟨by omega,h⟩ (by cbv)
 replace h:=Bp h
 try cbv
 refine AK 32 [0,2,3,4,32] [.loc 0] 1696 (fun m b=>m<=m24/\Gx m z1 b=some (r1,r2,r3,r4)) ?_ ?_
 ·try cbv
  refine Av (fun e=>?_) (fun e=>?_)
  ·replace h:=Aj e h
   clear e
   try cbv
   exact AA (m24,true) [0,2,3,4,32] [.loc 0] 1696 ⟨by omega,h⟩ (by cbv)
  replace h:=Ak e h
  clear e
  try cbv
  exact AA (m24,false) [0,2,3,4,32] [.loc 0] 1696 ⟨by omega,h⟩ (by cbv)
 clear h
 rintro⟨m25,b26⟩ ⟨hm25,h⟩
 try cbv
 replace hm25:m25<=m24:=hm25
 obtain _ | m25:=m25
 ·replace h:Gx 0 z1 b26=some (r1,r2,r3,r4):=h
  rw[Gx]at h
  cases h
 replace h:Gx (m25+1) z1 b26=some (r1,r2,r3,r4):=h
 rw[Gx]at h
 try cbv
 cases b26
 ·replace h:=Bp h
  try cbv
  refine Av (fun e=>?_) (fun e=>?_)
  ·replace h:=Aj e h
   clear e
   try cbv
   exact AA (m25,true) [0,2,3,32] [.loc 0] 1760 ⟨by omega,h⟩ (by cbv)
  replace h:=Ak e h
  clear e
  try cbv
  exact AA (m25,false) [0,2,3,32] [.loc 0] 1760 ⟨by omega,h⟩ (by cbv)
 replace h:=Bo h
 try cbv
 exact AA (m25,true) [0,2,3,32] [.loc 0] 1760 ⟨by omega,h⟩ (by cbv)
noncomputable def c95:BQ:=⟨95,[.y],[],[⟨.tup [.agg [.bool,.z,.z],.b],[],[]⟩],Bool×Int×Int×Bool,inferInstance,jX⟩
noncomputable def k95:Kz:=⟨c95,fun n=>Cm fun z1 p h w1 w2 w4 w3 l1 l2 e1 e2 e5 e3 xs e4=>by cases e1;cases e2;cases e4;cases e5;cases e3;exact T95 n h⟩
def HN:Nat->Bool->Bool->Bool->Option (Bool)
 | 0,_,_,_=>none
 | n+1,b21,b22,b23=>
  (if b21=true then (if b22=true then some b23 else some false)else some false)
def TA:Nat->BA->BA->Bool->Bool->Bool->Bool->Option (Bool)
 | 0,_,_,_,_,_,_=>none
 | n+1,s3,s4,b9,b10,b11,b18=>
  (if b18=true then bO1 (XE n s3) fun b19=>bO1 (XE n s4) fun b20=>HN n b19 b20 b11 else HN n b9 b10 b11)
def TB:Nat->Int->BA->BA->Bool->Bool->Bool->Bool->Option (Bool)
 | 0,_,_,_,_,_,_,_=>none
 | n+1,z1,s3,s4,b9,b10,b11,b16=>
  (if b16=true then bO1 (XE n s3) fun b17=>HN n b17 b10 b11 else (if z1=(20:Int)then TA n s3 s4 b9 b10 b11 true else TA n s3 s4 b9 b10 b11 false))
def TC:Nat->Int->BA->BA->Bool->Bool->Bool->Bool->Option (Bool)
 | 0,_,_,_,_,_,_,_=>none
 | n+1,z1,s3,s4,b9,b10,b11,b14=>
  (if b14=true then bO1 (U3 n s3) fun b15=>HN n b15 b10 b11 else (if z1=(19:Int)then TB n z1 s3 s4 b9 b10 b11 true else TB n z1 s3 s4 b9 b10 b11 false))
def TD:Nat->Int->Int->BA->BA->Bool->Bool->Bool->Bool->Option (Bool)
 | 0,_,_,_,_,_,_,_,_=>none
 | n+1,z1,z2,s3,s4,b9,b10,b11,b13=>
  (if b13=true then (if z2=(0:Int)then HN n b9 b10 true else (if z2=(1:Int)then HN n b9 b10 true else HN n b9 b10 false))else (if z1=(18:Int)then TC n z1 s3 s4 b9 b10 b11 true else TC n z1 s3 s4 b9 b10 b11 false))
def TE:Nat->Int->Int->BA->BA->Bool->Bool->Bool->Bool->Option (Bool)
 | 0,_,_,_,_,_,_,_,_=>none
 | n+1,z1,z2,s3,s4,b9,b10,b11,b12=>
  (if b12=true then (if (0:Int)<=z2 then HN n b9 b10 true else HN n b9 b10 false)else (if z1=(2:Int)then TD n z1 z2 s3 s4 b9 b10 b11 true else TD n z1 z2 s3 s4 b9 b10 b11 false))
def H8:Nat->Int->Int->BA->BA->Bool->Bool->Bool->Option (Bool)
 | 0,_,_,_,_,_,_,_=>none
 | n+1,z1,z2,s3,s4,b9,b10,b11=>
  (if z1=(1:Int)then TE n z1 z2 s3 s4 b9 b10 b11 true else TE n z1 z2 s3 s4 b9 b10 b11 false)
def jY (n:Nat) (z1:Int) (z2:Int) (s3:BA) (s4:BA) (s5:BA) (l6:LD) (l7:LD) (z8:Int):Option (Bool):=
 (if s3=ByteArray.empty then (if s4=ByteArray.empty then (if z2=(0:Int)then H8 n z1 z2 s3 s4 true true true else H8 n z1 z2 s3 s4 true true false)else (if z2=(0:Int)then H8 n z1 z2 s3 s4 true false true else H8 n z1 z2 s3 s4 true false false))else (if s4=ByteArray.empty then (if z2=(0:Int)then H8 n z1 z2 s3 s4 false true true else H8 n z1 z2 s3 s4 false true false)else (if z2=(0:Int)then H8 n z1 z2 s3 s4 false false true else H8 n z1 z2 s3 s4 false false false)))
noncomputable def X96:BX:=⟨96,Tryz.f96,[.agg [.y,.z,.str,.str,.str,.f 1,.q 8,.z]],[],⟨.one (.b),[],[]⟩,Bool,inferInstance,jY,[⟨7,[1,2,3,4,5],[.loc 0],448,[.p (.loc 0) 0,.one (.cb false),.b,.b,.b],[[.y,.z,.str,.str,.str,.f 1,.q 8,.z]],fun n b9 b10 b11 z1 z2 s3 s4 _ _ _ _=>H8 n z1 z2 s3 s4 b9 b10 b11⟩,
 ⟨117,[1,2,3,4,5,16,17],[.loc 0],576,[.p (.loc 0) 0,.one (.cb false),.b,.b,.b,.y,.b],[[.y,.z,.str,.str,.str,.f 1,.q 8,.z]],fun n b9 b10 b11 z1 b12 _ z2 s3 s4 _ _ _ _=>TE n z1 z2 s3 s4 b9 b10 b11 b12⟩,
 ⟨471,[1,2,3,4,5,16,22],[.loc 0],640,[.p (.loc 0) 0,.one (.cb false),.b,.b,.b,.y,.b],[[.y,.z,.str,.str,.str,.f 1,.q 8,.z]],fun n b9 b10 b11 z1 b13 _ z2 s3 s4 _ _ _ _=>TD n z1 z2 s3 s4 b9 b10 b11 b13⟩,
 ⟨1887,[1,2,3,4,5,16,32],[.loc 0],704,[.p (.loc 0) 0,.one (.cb false),.b,.b,.b,.y,.b],[[.y,.z,.str,.str,.str,.f 1,.q 8,.z]],fun n b9 b10 b11 z1 b14 _ _ s3 s4 _ _ _ _=>TC n z1 s3 s4 b9 b10 b11 b14⟩,
 ⟨7551,[1,2,3,4,5,16,37],[.loc 0],768,[.p (.loc 0) 0,.one (.cb false),.b,.b,.b,.y,.b],[[.y,.z,.str,.str,.str,.f 1,.q 8,.z]],fun n b9 b10 b11 z1 b16 _ _ s3 s4 _ _ _ _=>TB n z1 s3 s4 b9 b10 b11 b16⟩,
 ⟨30207,[1,2,3,4,5,42],[.loc 0],832,[.p (.loc 0) 0,.one (.cb false),.b,.b,.b,.b],[[.y,.z,.str,.str,.str,.f 1,.q 8,.z]],fun n b9 b10 b11 b18 _ _ s3 s4 _ _ _ _=>TA n s3 s4 b9 b10 b11 b18⟩,
 ⟨15,[2,3,4,5],[],1088,[.one (.cb false),.b,.b,.b],[],fun n b21 b22 b23=>HN n b21 b22 b23⟩]⟩
noncomputable def k96:Kz:=sg X96 [tR,lP] Tryz.func96 (by kernel_rfl) (by kernel_rfl) (by kernel_rfl)
def Lc:Nat->BA->LD->LD->Bool->Option (Bool)
 | 0,_,_,_,_=>none
 | n+1,s5,l6,l7,b11=>
  (if b11=true then (if s5=ByteArray.empty then AE l6 fun z12=>AE l7 fun z13=>(if z12=z13 then bO1 (Ix n l6 (6:Int)) fun b14=>some b14 else some false)else some false)else bO1 (RD n s5 l6) fun b15=>some b15)
def jZ (n:Nat) (z1:Int) (z2:Int) (s3:BA) (s4:BA) (s5:BA) (l6:LD) (l7:LD) (z8:Int) (b9:Bool):Option (Bool):=
 (if b9=true then bO1 (U9 n s5 l6) fun b10=>some b10 else (if z1=(19:Int)then Lc n s5 l6 l7 true else Lc n s5 l6 l7 false))
noncomputable def X97:BX:=⟨97,Tryz.f97,[.agg [.y,.z,.str,.str,.str,.f 1,.q 8,.z],.b],[],⟨.one (.b),[],[]⟩,Bool,inferInstance,jZ,[⟨103,[2,4,10],[.loc 0],256,[.p (.loc 0) 0,.one (.cb false),.b],[[.y,.z,.str,.str,.str,.f 1,.q 8,.z]],fun n b11 _ _ _ _ s5 l6 l7 _=>Lc n s5 l6 l7 b11⟩]⟩
noncomputable def k97:Kz:=sg X97 [pC,wK,fR] Tryz.func97 (by kernel_rfl) (by kernel_rfl) (by kernel_rfl)
mutual
def kA:Nat->Int->Int->BA->BA->BA->LD->LD->Int->Int->Int->BA->BA->BA->LD->LD->Int->Int->Option (Bool×Int×Int×BA×BA×BA×LD×LD×Int×Int)
 | 0,_,_,_,_,_,_,_,_,_,_,_,_,_,_,_,_,_=>none
 | n+1,z1,z2,s3,s4,s5,l6,l7,z8,z9,z10,s11,s12,s13,l14,l15,z16,z17=>
  (if z9=(18:Int)then AJ (IntKind.wrap .i64 (z17 - 1)) fun z18=>bO1 (Lw n z1 z2 s3 s4 s5 l6 l7 z8 z18) fun b19=>some (b19,z9,z10,s11,s12,s13,l14,l15,z16,z17)else bO1 (U7 n z1 z2 s3 s4 s5 l6 l7 z8) fun b20=>AL (!b20) fun b21=>(if b21=true then AJ (IntKind.wrap .i64 (z17 - 1)) fun z22=>bO1 (Lw n z1 z2 s3 s4 s5 l6 l7 z8 z22) fun b23=>some (b23,z9,z10,s11,s12,s13,l14,l15,z16,z17)else some (false,z9,z10,s11,s12,s13,l14,l15,z16,z17)))
def KC:Nat->LD->Int->Int->Int->Int->BA->BA->BA->LD->LD->Int->Int->Option (Bool×Int×Int×BA×BA×BA×LD×LD×Int×Int)
 | 0,_,_,_,_,_,_,_,_,_,_,_,_=>none
 | n+1,l1,z2,z12,z13,z14,s15,s16,s17,l18,l19,z20,z21=>
  AE l1 fun z22=>(if z12<z22 then (if z12<z2 then Iy n l1 z2 z12 z13 z14 s15 s16 s17 l18 l19 z20 z21 true else Iy n l1 z2 z12 z13 z14 s15 s16 s17 l18 l19 z20 z21 false)else Iy n l1 z2 z12 z13 z14 s15 s16 s17 l18 l19 z20 z21 false)
def Iy:Nat->LD->Int->Int->Int->Int->BA->BA->BA->LD->LD->Int->Int->Bool->Option (Bool×Int×Int×BA×BA×BA×LD×LD×Int×Int)
 | 0,_,_,_,_,_,_,_,_,_,_,_,_,_=>none
 | n+1,l1,z2,z12,z13,z14,s15,s16,s17,l18,l19,z20,z21,b23=>
  (if b23=true then Ap l1 z12 fun x24=>BD x24 fun z25 z26 s27 s28 s29 l30 l31 z32=>bO10 (kA n z25 z26 s27 s28 s29 l30 l31 z32 z13 z14 s15 s16 s17 l18 l19 z20 z21) fun b33 z34 z35 s36 s37 s38 l39 l40 z41 z42=>AL (!b33) fun b43=>(if b43=true then some (false,z34,z35,s36,s37,s38,l39,l40,z41,z42)else AJ (IntKind.wrap .i64 (z12+1)) fun z44=>KC n l1 z2 z44 z34 z35 s36 s37 s38 l39 l40 z41 z42)else AE l1 fun z45=>(if z45<=z2 then some (true,z13,z14,s15,s16,s17,l18,l19,z20,z21)else some (false,z13,z14,s15,s16,s17,l18,l19,z20,z21)))
def kB:Nat->LD->Int->Int->Int->BA->BA->BA->LD->LD->Int->Int->Option (Bool×Int×Int×BA×BA×BA×LD×LD×Int×Int)
 | 0,_,_,_,_,_,_,_,_,_,_,_=>none
 | n+1,l1,z2,z3,z4,s5,s6,s7,l8,l9,z10,z11=>
  KC n l1 z2 (0:Int) z3 z4 s5 s6 s7 l8 l9 z10 z11
def H9:Nat->Int->Int->BA->BA->BA->LD->LD->Int->Int->Int->Bool->Option (Bool)
 | 0,_,_,_,_,_,_,_,_,_,_,_=>none
 | n+1,z1,z2,s3,s4,s5,l6,l7,z8,z9,z12,b20=>
  (if b20=true then some false else bO10 (kB n l7 z12 z1 z2 s3 s4 s5 l6 l7 z8 z9) fun b21 z22 z23 s24 s25 s26 l27 l28 z29 z30=>some b21)
def Lw:Nat->Int->Int->BA->BA->BA->LD->LD->Int->Int->Option (Bool)
 | 0,_,_,_,_,_,_,_,_,_=>none
 | n+1,z1,z2,s3,s4,s5,l6,l7,z8,z9=>
  bO4 (jX n z1) fun b10 z11 z12 b13=>(if z9<(1:Int)then H9 n z1 z2 s3 s4 s5 l6 l7 z8 z9 z12 true else AL (!b13) fun b14=>(if b14=true then H9 n z1 z2 s3 s4 s5 l6 l7 z8 z9 z12 true else bO1 (jY n z1 z2 s3 s4 s5 l6 l7 z8) fun b15=>AL (!b15) fun b16=>(if b16=true then H9 n z1 z2 s3 s4 s5 l6 l7 z8 z9 z12 true else AE l7 fun z17=>(if z17<z11 then H9 n z1 z2 s3 s4 s5 l6 l7 z8 z9 z12 true else bO1 (jZ n z1 z2 s3 s4 s5 l6 l7 z8 b10) fun b18=>AL (!b18) fun b19=>H9 n z1 z2 s3 s4 s5 l6 l7 z8 z9 z12 b19))))
end
noncomputable def X99:BX:=⟨99,Tryz.f99,[.agg [.y,.z,.str,.str,.str,.f 1,.q 8,.z],.p (.ext 0) 0,.p (.ext 1) 0],[[.y,.z,.str,.str,.str,.f 1,.q 8,.z],[.z]],⟨.one (.b),[[.y,.z,.str,.str,.str,.f 1,.q 8,.z],[.z]],[]⟩,Bool×Int×Int×BA×BA×BA×LD×LD×Int×Int,inferInstance,kA,[]⟩
noncomputable def X98:BX:=⟨98,Tryz.f98,[.q 8,.z,.one (.fn 99 [.ext 0,.ext 1])],[[.y,.z,.str,.str,.str,.f 1,.q 8,.z],[.z]],⟨.one (.b),[[.y,.z,.str,.str,.str,.f 1,.q 8,.z],[.z]],[]⟩,Bool×Int×Int×BA×BA×BA×LD×LD×Int×Int,inferInstance,kB,[⟨26,[0,1,2,6,7],[.ext 0,.ext 1],64,[.q 8,.z,.one (.fn 99 [.ext 0,.ext 1]),.one (.cb false),.z],[[.y,.z,.str,.str,.str,.f 1,.q 8,.z],[.z]],fun n l1 z2 z12 z13 z14 s15 s16 s17 l18 l19 z20 z21=>KC n l1 z2 z12 z13 z14 s15 s16 s17 l18 l19 z20 z21⟩,
 ⟨209,[0,1,2,6,7,16],[.ext 0,.ext 1],352,[.q 8,.z,.one (.fn 99 [.ext 0,.ext 1]),.one (.cb false),.z,.b],[[.y,.z,.str,.str,.str,.f 1,.q 8,.z],[.z]],fun n l1 z2 z12 b23 z13 z14 s15 s16 s17 l18 l19 z20 z21=>Iy n l1 z2 z12 z13 z14 s15 s16 s17 l18 l19 z20 z21 b23⟩]⟩
noncomputable def yT:BX:=⟨54,Tryz.f54,[.agg [.y,.z,.str,.str,.str,.f 1,.q 8,.z],.z],[],⟨.one (.b),[],[]⟩,Bool,inferInstance,Lw,[⟨29,[2,3,4,5,38],[.loc 0,.loc 32,.loc 288],1216,[.p (.loc 0) 0,.p (.loc 32) 0,.one (.cb false),.p (.loc 288) 0,.b],[[.y,.z,.str,.str,.str,.f 1,.q 8,.z],[.z],[.bool,.z,.z]],fun n b20 z1 z2 s3 s4 s5 l6 l7 z8 z9 _ _ z12=>H9 n z1 z2 s3 s4 s5 l6 l7 z8 z9 z12 b20⟩]⟩
theorem K99:Cv Tryz.prog inv (OG [X99,X98,yT]):=gr [vZ,k95,k96,k97] ⟨⟨Tryz.func99,by kernel_rfl,by kernel_rfl,by kernel_rfl⟩,⟨Tryz.func98,by kernel_rfl,by kernel_rfl,by kernel_rfl⟩,⟨Tryz.func54,by kernel_rfl,by kernel_rfl,by kernel_rfl⟩,trivial⟩
noncomputable def yU:Kz:=⟨yT.c,K99.2.2.1⟩
theorem ZT (n:Nat):∀⦃z1 z2 s3 s4 s5 l6 l7 z8 z9 r1⦄,Lw n z1 z2 s3 s4 s5 l6 l7 z8 z9=some r1->
  Ah Tryz.prog inv 54 [.d (.agg [.int .u8 z1,.int .i64 z2,.str s3,.str s4,.str s5,.list false 1 l6,.list true 8 l7,.int .i64 z8]),.d (.int .i64 z9)] [] (.v (.d (.bool r1))) [] []:=fun z1 z2 s3 s4 s5 l6 l7 z8 z9 r1 h=>yU.ok n [.I z1,.I z2,.S s3,.S s4,.S s5,.L l6,.L l7,.I z8,.I z9] _ h _ _ _ _ _ _ rfl rfl rfl rfl _ rfl
def K9 (n:Nat) (z1:Int) (z2:Int) (s3:BA) (s4:BA) (s5:BA) (l6:LD) (l7:LD) (z8:Int) (z9:Int) (z10:Int) (b11:Bool) (b12:Bool) (b13:Bool) (b14:Bool) (b15:Bool) (b16:Bool) (z17:Int):Option (Bool×Int×Int×Bool×Bool×Bool×Bool×Bool×Bool×Int):=
 (if b16=true then AJ (IntKind.wrap .i64 (z17 - 1)) fun z18=>bO1 (Lw n z1 z2 s3 s4 s5 l6 l7 z8 z18) fun b19=>some (b19,z9,z10,b11,b12,b13,b14,b15,true,z17)else bO1 (U7 n z1 z2 s3 s4 s5 l6 l7 z8) fun b20=>AL (!b20) fun b21=>(if b21=true then AJ (IntKind.wrap .i64 (z17 - 1)) fun z22=>bO1 (Lw n z1 z2 s3 s4 s5 l6 l7 z8 z22) fun b23=>some (b23,z9,z10,b11,b12,b13,b14,b15,false,z17)else some (false,z9,z10,b11,b12,b13,b14,b15,false,z17)))
theorem wL (n:Nat):∀⦃z1 z2 s3 s4 s5 l6 l7 z8 z9 z10 b11 b12 b13 b14 b15 b16 z17 r1 r2 r3 r4 r5 r6 r7 r8 r9 r10⦄,K9 n z1 z2 s3 s4 s5 l6 l7 z8 z9 z10 b11 b12 b13 b14 b15 b16 z17=some (r1,r2,r3,r4,r5,r6,r7,r8,r9,r10)->
    Ah Tryz.prog inv 128 [.d (.agg [.int .u8 z1,.int .i64 z2,.str s3,.str s4,.str s5,.list false 1 l6,.list true 8 l7,.int .i64 z8]),.c (.ptr (.ext 0) 0),.c (.ptr (.ext 1) 0)] [.cells [.d (.int .i64 z9),.d (.int .i64 z10),.d (.bool b11),.d (.bool b12),.d (.bool b13),.d (.bool b14),.d (.bool b15),.d (.bool b16),.fn 145 [],.fn 145 []],.cells [.d (.int .i64 z17)]] (.v (.d (.bool r1))) [.cells [.d (.int .i64 r2),.d (.int .i64 r3),.d (.bool r4),.d (.bool r5),.d (.bool r6),.d (.bool r7),.d (.bool r8),.d (.bool r9),.fn 145 [],.fn 145 []],.cells [.d (.int .i64 r10)]] []:=by
 intro z1 z2 s3 s4 s5 l6 l7 z8 z9 z10 b11 b12 b13 b14 b15 b16 z17 r1 r2 r3 r4 r5 r6 r7 r8 r9 r10 h
 unfold K9 at h
 refine Ah.of BI Ao Fi Tryz.func128 rfl (by kernel_rfl) rfl rfl rfl (fun M hM hI=>?_)
 try cbv
 refine AB ?_
 try cbv
 refine AB ?_
 try cbv
 cases b16
 rotate_left
 ·replace h:=Bo h
  try cbv
  replace h:=Ac h
  obtain⟨z18,hz,h⟩:=h
  refine⟨z18,hz,?_⟩
  clear hz
  try cbv
  replace h:=AU h
  obtain⟨b19,hr,h⟩:=h
  refine AZ rfl rfl ?_
  try cbv
  refine AQ hM hI (ZT _ hr) rfl ?_
  clear hr
  try cbv
  obtain⟨rfl,rfl,rfl,rfl,rfl,rfl,rfl,rfl,rfl,rfl⟩:=FC h
  refine AR ?_
  try cbv
  exact⟨[],rfl,rfl,⟨rfl,⟨rfl,trivial⟩⟩,trivial,trivial⟩
 replace h:=Bp h
 try cbv
 replace h:=AU h
 obtain⟨b20,hr,h⟩:=h
 refine AZ rfl rfl ?_
 try cbv
 refine AQ hM hI (lV _ hr) rfl ?_
 clear hr
 try cbv
 replace h:=CS h
 obtain⟨b21,hz,h⟩:=h
 refine⟨b21,DN hz,?_⟩
 clear hz
 try cbv
 cases b21
 ·replace h:=Bp h
  try cbv
  obtain⟨rfl,rfl,rfl,rfl,rfl,rfl,rfl,rfl,rfl,rfl⟩:=FC h
  refine AR ?_
  try cbv
  exact⟨[],rfl,rfl,⟨rfl,⟨rfl,trivial⟩⟩,trivial,trivial⟩
 replace h:=Bo h
 try cbv
 replace h:=Ac h
 obtain⟨z22,hz,h⟩:=h
 refine⟨z22,hz,?_⟩
 clear hz
 try cbv
 replace h:=AU h
 obtain⟨b23,hr,h⟩:=h
 refine AZ rfl rfl ?_
 try cbv
 refine AQ hM hI (ZT _ hr) rfl ?_
 clear hr
 try cbv
 obtain⟨rfl,rfl,rfl,rfl,rfl,rfl,rfl,rfl,rfl,rfl⟩:=FC h
 refine AR ?_
 try cbv
 exact⟨[],rfl,rfl,⟨rfl,⟨rfl,trivial⟩⟩,trivial,trivial⟩
noncomputable def wM:BQ:=⟨128,[.agg [.y,.z,.str,.str,.str,.f 1,.q 8,.z],.p (.ext 0) 0,.p (.ext 1) 0],[[.z,.z,.bool,.bool,.bool,.bool,.bool,.bool,.fn 145 [],.fn 145 []],[.z]],[⟨.one (.b),[[.z,.z,.bool,.bool,.bool,.bool,.bool,.bool,.fn 145 [],.fn 145 []],[.z]],[]⟩],Bool×Int×Int×Bool×Bool×Bool×Bool×Bool×Bool×Int,inferInstance,K9⟩
noncomputable def wN:Kz:=⟨wM,fun n=>Cm fun z1 z2 s3 s4 s5 l6 l7 z8 z9 z10 b11 b12 b13 b14 b15 b16 z17 p h w1 w2 w4 w3 l1 l2 e1 e2 e5 e3 xs e4=>by cases e1;cases e2;cases e4;cases e5;cases e3;exact wL n h⟩
mutual
def B2:Nat->LD->Int->Int->Int->Int->Bool->Bool->Bool->Bool->Bool->Bool->Int->Option (Bool×Int×Int×Bool×Bool×Bool×Bool×Bool×Bool×Int)
 | 0,_,_,_,_,_,_,_,_,_,_,_,_=>none
 | n+1,l1,z2,z12,z13,z14,b15,b16,b17,b18,b19,b20,z21=>
  AE l1 fun z22=>(if z12<z22 then (if z12<z2 then CA n l1 z2 z12 z13 z14 b15 b16 b17 b18 b19 b20 z21 true else CA n l1 z2 z12 z13 z14 b15 b16 b17 b18 b19 b20 z21 false)else CA n l1 z2 z12 z13 z14 b15 b16 b17 b18 b19 b20 z21 false)
def CA:Nat->LD->Int->Int->Int->Int->Bool->Bool->Bool->Bool->Bool->Bool->Int->Bool->Option (Bool×Int×Int×Bool×Bool×Bool×Bool×Bool×Bool×Int)
 | 0,_,_,_,_,_,_,_,_,_,_,_,_,_=>none
 | n+1,l1,z2,z12,z13,z14,b15,b16,b17,b18,b19,b20,z21,b23=>
  (if b23=true then Ap l1 z12 fun x24=>BD x24 fun z25 z26 s27 s28 s29 l30 l31 z32=>bO10 (K9 n z25 z26 s27 s28 s29 l30 l31 z32 z13 z14 b15 b16 b17 b18 b19 b20 z21) fun b33 z34 z35 b36 b37 b38 b39 b40 b41 z42=>AL (!b33) fun b43=>(if b43=true then some (false,z34,z35,b36,b37,b38,b39,b40,b41,z42)else AJ (IntKind.wrap .i64 (z12+1)) fun z44=>B2 n l1 z2 z44 z34 z35 b36 b37 b38 b39 b40 b41 z42)else AE l1 fun z45=>(if z45<=z2 then some (true,z13,z14,b15,b16,b17,b18,b19,b20,z21)else some (false,z13,z14,b15,b16,b17,b18,b19,b20,z21)))
end
def Ej (n:Nat) (l1:LD) (z2:Int) (z3:Int) (z4:Int) (b5:Bool) (b6:Bool) (b7:Bool) (b8:Bool) (b9:Bool) (b10:Bool) (z11:Int):Option (Bool×Int×Int×Bool×Bool×Bool×Bool×Bool×Bool×Int):=
 B2 n l1 z2 (0:Int) z3 z4 b5 b6 b7 b8 b9 b10 z11
noncomputable def pF:BX:=⟨98,Tryz.f98,[.q 8,.z,.one (.fn 128 [.ext 0,.ext 1])],[[.z,.z,.bool,.bool,.bool,.bool,.bool,.bool,.fn 145 [],.fn 145 []],[.z]],⟨.one (.b),[[.z,.z,.bool,.bool,.bool,.bool,.bool,.bool,.fn 145 [],.fn 145 []],[.z]],[]⟩,Bool×Int×Int×Bool×Bool×Bool×Bool×Bool×Bool×Int,inferInstance,Ej,[⟨26,[0,1,2,6,7],[.ext 0,.ext 1],64,[.q 8,.z,.one (.fn 128 [.ext 0,.ext 1]),.one (.cb false),.z],[[.z,.z,.bool,.bool,.bool,.bool,.bool,.bool,.fn 145 [],.fn 145 []],[.z]],fun n l1 z2 z12 z13 z14 b15 b16 b17 b18 b19 b20 z21=>B2 n l1 z2 z12 z13 z14 b15 b16 b17 b18 b19 b20 z21⟩,
 ⟨209,[0,1,2,6,7,16],[.ext 0,.ext 1],352,[.q 8,.z,.one (.fn 128 [.ext 0,.ext 1]),.one (.cb false),.z,.b],[[.z,.z,.bool,.bool,.bool,.bool,.bool,.bool,.fn 145 [],.fn 145 []],[.z]],fun n l1 z2 z12 b23 z13 z14 b15 b16 b17 b18 b19 b20 z21=>CA n l1 z2 z12 z13 z14 b15 b16 b17 b18 b19 b20 z21 b23⟩]⟩
noncomputable def pG:Kz:=sg pF [wN] Tryz.func98 (by kernel_rfl) (by kernel_rfl) (by kernel_rfl)
def IA (n:Nat) (z1:Int) (z2:Int) (s3:BA) (s4:BA) (s5:BA) (l6:LD) (l7:LD) (z8:Int) (z9:Int) (z10:Int) (b11:Bool) (b12:Bool) (b13:Bool) (b14:Bool) (b15:Bool) (b16:Bool) (z17:Int):Option (Bool×Int×Int×Bool×Bool×Bool×Bool×Bool×Bool×Int):=
 (if b16=true then AJ (IntKind.wrap .i64 (z17 - 1)) fun z18=>bO1 (Lw n z1 z2 s3 s4 s5 l6 l7 z8 z18) fun b19=>some (b19,z9,z10,b11,b12,b13,b14,b15,true,z17)else bO1 (U7 n z1 z2 s3 s4 s5 l6 l7 z8) fun b20=>AL (!b20) fun b21=>(if b21=true then AJ (IntKind.wrap .i64 (z17 - 1)) fun z22=>bO1 (Lw n z1 z2 s3 s4 s5 l6 l7 z8 z22) fun b23=>some (b23,z9,z10,b11,b12,b13,b14,b15,false,z17)else some (false,z9,z10,b11,b12,b13,b14,b15,false,z17)))
theorem kC (n:Nat):∀⦃z1 z2 s3 s4 s5 l6 l7 z8 z9 z10 b11 b12 b13 b14 b15 b16 z17 r1 r2 r3 r4 r5 r6 r7 r8 r9 r10⦄,IA n z1 z2 s3 s4 s5 l6 l7 z8 z9 z10 b11 b12 b13 b14 b15 b16 z17=some (r1,r2,r3,r4,r5,r6,r7,r8,r9,r10)->
    Ah Tryz.prog inv 128 [.d (.agg [.int .u8 z1,.int .i64 z2,.str s3,.str s4,.str s5,.list false 1 l6,.list true 8 l7,.int .i64 z8]),.c (.ptr (.ext 0) 0),.c (.ptr (.ext 1) 0)] [.cells [.d (.int .i64 z9),.d (.int .i64 z10),.d (.bool b11),.d (.bool b12),.d (.bool b13),.d (.bool b14),.d (.bool b15),.d (.bool b16),.fn 74 [],.fn 145 []],.cells [.d (.int .i64 z17)]] (.v (.d (.bool r1))) [.cells [.d (.int .i64 r2),.d (.int .i64 r3),.d (.bool r4),.d (.bool r5),.d (.bool r6),.d (.bool r7),.d (.bool r8),.d (.bool r9),.fn 74 [],.fn 145 []],.cells [.d (.int .i64 r10)]] []:=by
 intro z1 z2 s3 s4 s5 l6 l7 z8 z9 z10 b11 b12 b13 b14 b15 b16 z17 r1 r2 r3 r4 r5 r6 r7 r8 r9 r10 h
 unfold IA at h
 refine Ah.of BI Ao Fi Tryz.func128 rfl (by kernel_rfl) rfl rfl rfl (fun M hM hI=>?_)
 try cbv
 refine AB ?_
 try cbv
 refine AB ?_
 try cbv
 cases b16
 rotate_left
 ·replace h:=Bo h
  try cbv
  replace h:=Ac h
  obtain⟨z18,hz,h⟩:=h
  refine⟨z18,hz,?_⟩
  clear hz
  try cbv
  replace h:=AU h
  obtain⟨b19,hr,h⟩:=h
  refine AZ rfl rfl ?_
  try cbv
  refine AQ hM hI (ZT _ hr) rfl ?_
  clear hr
  try cbv
  obtain⟨rfl,rfl,rfl,rfl,rfl,rfl,rfl,rfl,rfl,rfl⟩:=FC h
  refine AR ?_
  try cbv
  exact⟨[],rfl,rfl,⟨rfl,⟨rfl,trivial⟩⟩,trivial,trivial⟩
 replace h:=Bp h
 try cbv
 replace h:=AU h
 obtain⟨b20,hr,h⟩:=h
 refine AZ rfl rfl ?_
 try cbv
 refine AQ hM hI (lV _ hr) rfl ?_
 clear hr
 try cbv
 replace h:=CS h
 obtain⟨b21,hz,h⟩:=h
 refine⟨b21,DN hz,?_⟩
 clear hz
 try cbv
 cases b21
 ·replace h:=Bp h
  try cbv
  obtain⟨rfl,rfl,rfl,rfl,rfl,rfl,rfl,rfl,rfl,rfl⟩:=FC h
  refine AR ?_
  try cbv
  exact⟨[],rfl,rfl,⟨rfl,⟨rfl,trivial⟩⟩,trivial,trivial⟩
 replace h:=Bo h
 try cbv
 replace h:=Ac h
 obtain⟨z22,hz,h⟩:=h
 refine⟨z22,hz,?_⟩
 clear hz
 try cbv
 replace h:=AU h
 obtain⟨b23,hr,h⟩:=h
 refine AZ rfl rfl ?_
 try cbv
 refine AQ hM hI (ZT _ hr) rfl ?_
 clear hr
 try cbv
 obtain⟨rfl,rfl,rfl,rfl,rfl,rfl,rfl,rfl,rfl,rfl⟩:=FC h
 refine AR ?_
 try cbv
 exact⟨[],rfl,rfl,⟨rfl,⟨rfl,trivial⟩⟩,trivial,trivial⟩
noncomputable def kD:BQ:=⟨128,[.agg [.y,.z,.str,.str,.str,.f 1,.q 8,.z],.p (.ext 0) 0,.p (.ext 1) 0],[[.z,.z,.bool,.bool,.bool,.bool,.bool,.bool,.fn 74 [],.fn 145 []],[.z]],[⟨.one (.b),[[.z,.z,.bool,.bool,.bool,.bool,.bool,.bool,.fn 74 [],.fn 145 []],[.z]],[]⟩],Bool×Int×Int×Bool×Bool×Bool×Bool×Bool×Bool×Int,inferInstance,IA⟩
noncomputable def kE:Kz:=⟨kD,fun n=>Cm fun z1 z2 s3 s4 s5 l6 l7 z8 z9 z10 b11 b12 b13 b14 b15 b16 z17 p h w1 w2 w4 w3 l1 l2 e1 e2 e5 e3 xs e4=>by cases e1;cases e2;cases e4;cases e5;cases e3;exact kC n h⟩
mutual
def EI:Nat->LD->Int->Int->Int->Int->Bool->Bool->Bool->Bool->Bool->Bool->Int->Option (Bool×Int×Int×Bool×Bool×Bool×Bool×Bool×Bool×Int)
 | 0,_,_,_,_,_,_,_,_,_,_,_,_=>none
 | n+1,l1,z2,z12,z13,z14,b15,b16,b17,b18,b19,b20,z21=>
  AE l1 fun z22=>(if z12<z22 then (if z12<z2 then Eu n l1 z2 z12 z13 z14 b15 b16 b17 b18 b19 b20 z21 true else Eu n l1 z2 z12 z13 z14 b15 b16 b17 b18 b19 b20 z21 false)else Eu n l1 z2 z12 z13 z14 b15 b16 b17 b18 b19 b20 z21 false)
def Eu:Nat->LD->Int->Int->Int->Int->Bool->Bool->Bool->Bool->Bool->Bool->Int->Bool->Option (Bool×Int×Int×Bool×Bool×Bool×Bool×Bool×Bool×Int)
 | 0,_,_,_,_,_,_,_,_,_,_,_,_,_=>none
 | n+1,l1,z2,z12,z13,z14,b15,b16,b17,b18,b19,b20,z21,b23=>
  (if b23=true then Ap l1 z12 fun x24=>BD x24 fun z25 z26 s27 s28 s29 l30 l31 z32=>bO10 (IA n z25 z26 s27 s28 s29 l30 l31 z32 z13 z14 b15 b16 b17 b18 b19 b20 z21) fun b33 z34 z35 b36 b37 b38 b39 b40 b41 z42=>AL (!b33) fun b43=>(if b43=true then some (false,z34,z35,b36,b37,b38,b39,b40,b41,z42)else AJ (IntKind.wrap .i64 (z12+1)) fun z44=>EI n l1 z2 z44 z34 z35 b36 b37 b38 b39 b40 b41 z42)else AE l1 fun z45=>(if z45<=z2 then some (true,z13,z14,b15,b16,b17,b18,b19,b20,z21)else some (false,z13,z14,b15,b16,b17,b18,b19,b20,z21)))
end
def Ld (n:Nat) (l1:LD) (z2:Int) (z3:Int) (z4:Int) (b5:Bool) (b6:Bool) (b7:Bool) (b8:Bool) (b9:Bool) (b10:Bool) (z11:Int):Option (Bool×Int×Int×Bool×Bool×Bool×Bool×Bool×Bool×Int):=
 EI n l1 z2 (0:Int) z3 z4 b5 b6 b7 b8 b9 b10 z11
noncomputable def pH:BX:=⟨98,Tryz.f98,[.q 8,.z,.one (.fn 128 [.ext 0,.ext 1])],[[.z,.z,.bool,.bool,.bool,.bool,.bool,.bool,.fn 74 [],.fn 145 []],[.z]],⟨.one (.b),[[.z,.z,.bool,.bool,.bool,.bool,.bool,.bool,.fn 74 [],.fn 145 []],[.z]],[]⟩,Bool×Int×Int×Bool×Bool×Bool×Bool×Bool×Bool×Int,inferInstance,Ld,[⟨26,[0,1,2,6,7],[.ext 0,.ext 1],64,[.q 8,.z,.one (.fn 128 [.ext 0,.ext 1]),.one (.cb false),.z],[[.z,.z,.bool,.bool,.bool,.bool,.bool,.bool,.fn 74 [],.fn 145 []],[.z]],fun n l1 z2 z12 z13 z14 b15 b16 b17 b18 b19 b20 z21=>EI n l1 z2 z12 z13 z14 b15 b16 b17 b18 b19 b20 z21⟩,
 ⟨209,[0,1,2,6,7,16],[.ext 0,.ext 1],352,[.q 8,.z,.one (.fn 128 [.ext 0,.ext 1]),.one (.cb false),.z,.b],[[.z,.z,.bool,.bool,.bool,.bool,.bool,.bool,.fn 74 [],.fn 145 []],[.z]],fun n l1 z2 z12 b23 z13 z14 b15 b16 b17 b18 b19 b20 z21=>Eu n l1 z2 z12 z13 z14 b15 b16 b17 b18 b19 b20 z21 b23⟩]⟩
noncomputable def pI:Kz:=sg pH [kE] Tryz.func98 (by kernel_rfl) (by kernel_rfl) (by kernel_rfl)
def IB (n:Nat) (z1:Int) (z2:Int) (s3:BA) (s4:BA) (s5:BA) (l6:LD) (l7:LD) (z8:Int) (z9:Int) (z10:Int) (b11:Bool) (b12:Bool) (b13:Bool) (b14:Bool) (b15:Bool) (b16:Bool) (z17:Int):Option (Bool×Int×Int×Bool×Bool×Bool×Bool×Bool×Bool×Int):=
 (if b16=true then AJ (IntKind.wrap .i64 (z17 - 1)) fun z18=>bO1 (Lw n z1 z2 s3 s4 s5 l6 l7 z8 z18) fun b19=>some (b19,z9,z10,b11,b12,b13,b14,b15,true,z17)else bO1 (U7 n z1 z2 s3 s4 s5 l6 l7 z8) fun b20=>AL (!b20) fun b21=>(if b21=true then AJ (IntKind.wrap .i64 (z17 - 1)) fun z22=>bO1 (Lw n z1 z2 s3 s4 s5 l6 l7 z8 z22) fun b23=>some (b23,z9,z10,b11,b12,b13,b14,b15,false,z17)else some (false,z9,z10,b11,b12,b13,b14,b15,false,z17)))
theorem kF (n:Nat):∀⦃z1 z2 s3 s4 s5 l6 l7 z8 z9 z10 b11 b12 b13 b14 b15 b16 z17 r1 r2 r3 r4 r5 r6 r7 r8 r9 r10⦄,IB n z1 z2 s3 s4 s5 l6 l7 z8 z9 z10 b11 b12 b13 b14 b15 b16 z17=some (r1,r2,r3,r4,r5,r6,r7,r8,r9,r10)->
    Ah Tryz.prog inv 128 [.d (.agg [.int .u8 z1,.int .i64 z2,.str s3,.str s4,.str s5,.list false 1 l6,.list true 8 l7,.int .i64 z8]),.c (.ptr (.ext 0) 0),.c (.ptr (.ext 1) 0)] [.cells [.d (.int .i64 z9),.d (.int .i64 z10),.d (.bool b11),.d (.bool b12),.d (.bool b13),.d (.bool b14),.d (.bool b15),.d (.bool b16),.fn 73 [],.fn 145 []],.cells [.d (.int .i64 z17)]] (.v (.d (.bool r1))) [.cells [.d (.int .i64 r2),.d (.int .i64 r3),.d (.bool r4),.d (.bool r5),.d (.bool r6),.d (.bool r7),.d (.bool r8),.d (.bool r9),.fn 73 [],.fn 145 []],.cells [.d (.int .i64 r10)]] []:=by
 intro z1 z2 s3 s4 s5 l6 l7 z8 z9 z10 b11 b12 b13 b14 b15 b16 z17 r1 r2 r3 r4 r5 r6 r7 r8 r9 r10 h
 unfold IB at h
 refine Ah.of BI Ao Fi Tryz.func128 rfl (by kernel_rfl) rfl rfl rfl (fun M hM hI=>?_)
 try cbv
 refine AB ?_
 try cbv
 refine AB ?_
 try cbv
 cases b16
 rotate_left
 ·replace h:=Bo h
  try cbv
  replace h:=Ac h
  obtain⟨z18,hz,h⟩:=h
  refine⟨z18,hz,?_⟩
  clear hz
  try cbv
  replace h:=AU h
  obtain⟨b19,hr,h⟩:=h
  refine AZ rfl rfl ?_
  try cbv
  refine AQ hM hI (ZT _ hr) rfl ?_
  clear hr
  try cbv
  obtain⟨rfl,rfl,rfl,rfl,rfl,rfl,rfl,rfl,rfl,rfl⟩:=FC h
  refine AR ?_
  try cbv
  exact⟨[],rfl,rfl,⟨rfl,⟨rfl,trivial⟩⟩,trivial,trivial⟩
 replace h:=Bp h
 try cbv
 replace h:=AU h
 obtain⟨b20,hr,h⟩:=h
 refine AZ rfl rfl ?_
 try cbv
 refine AQ hM hI (lV _ hr) rfl ?_
 clear hr
 try cbv
 replace h:=CS h
 obtain⟨b21,hz,h⟩:=h
 refine⟨b21,DN hz,?_⟩
 clear hz
 try cbv
 cases b21
 ·replace h:=Bp h
  try cbv
  obtain⟨rfl,rfl,rfl,rfl,rfl,rfl,rfl,rfl,rfl,rfl⟩:=FC h
  refine AR ?_
  try cbv
  exact⟨[],rfl,rfl,⟨rfl,⟨rfl,trivial⟩⟩,trivial,trivial⟩
 replace h:=Bo h
 try cbv
 replace h:=Ac h
 obtain⟨z22,hz,h⟩:=h
 refine⟨z22,hz,?_⟩
 clear hz
 try cbv
 replace h:=AU h
 obtain⟨b23,hr,h⟩:=h
 refine AZ rfl rfl ?_
 try cbv
 refine AQ hM hI (ZT _ hr) rfl ?_
 clear hr
 try cbv
 obtain⟨rfl,rfl,rfl,rfl,rfl,rfl,rfl,rfl,rfl,rfl⟩:=FC h
 refine AR ?_
 try cbv
 exact⟨[],rfl,rfl,⟨rfl,⟨rfl,trivial⟩⟩,trivial,trivial⟩
noncomputable def kG:BQ:=⟨128,[.agg [.y,.z,.str,.str,.str,.f 1,.q 8,.z],.p (.ext 0) 0,.p (.ext 1) 0],[[.z,.z,.bool,.bool,.bool,.bool,.bool,.bool,.fn 73 [],.fn 145 []],[.z]],[⟨.one (.b),[[.z,.z,.bool,.bool,.bool,.bool,.bool,.bool,.fn 73 [],.fn 145 []],[.z]],[]⟩],Bool×Int×Int×Bool×Bool×Bool×Bool×Bool×Bool×Int,inferInstance,IB⟩
noncomputable def kH:Kz:=⟨kG,fun n=>Cm fun z1 z2 s3 s4 s5 l6 l7 z8 z9 z10 b11 b12 b13 b14 b15 b16 z17 p h w1 w2 w4 w3 l1 l2 e1 e2 e5 e3 xs e4=>by cases e1;cases e2;cases e4;cases e5;cases e3;exact kF n h⟩
mutual
def EJ:Nat->LD->Int->Int->Int->Int->Bool->Bool->Bool->Bool->Bool->Bool->Int->Option (Bool×Int×Int×Bool×Bool×Bool×Bool×Bool×Bool×Int)
 | 0,_,_,_,_,_,_,_,_,_,_,_,_=>none
 | n+1,l1,z2,z12,z13,z14,b15,b16,b17,b18,b19,b20,z21=>
  AE l1 fun z22=>(if z12<z22 then (if z12<z2 then Ew n l1 z2 z12 z13 z14 b15 b16 b17 b18 b19 b20 z21 true else Ew n l1 z2 z12 z13 z14 b15 b16 b17 b18 b19 b20 z21 false)else Ew n l1 z2 z12 z13 z14 b15 b16 b17 b18 b19 b20 z21 false)
def Ew:Nat->LD->Int->Int->Int->Int->Bool->Bool->Bool->Bool->Bool->Bool->Int->Bool->Option (Bool×Int×Int×Bool×Bool×Bool×Bool×Bool×Bool×Int)
 | 0,_,_,_,_,_,_,_,_,_,_,_,_,_=>none
 | n+1,l1,z2,z12,z13,z14,b15,b16,b17,b18,b19,b20,z21,b23=>
  (if b23=true then Ap l1 z12 fun x24=>BD x24 fun z25 z26 s27 s28 s29 l30 l31 z32=>bO10 (IB n z25 z26 s27 s28 s29 l30 l31 z32 z13 z14 b15 b16 b17 b18 b19 b20 z21) fun b33 z34 z35 b36 b37 b38 b39 b40 b41 z42=>AL (!b33) fun b43=>(if b43=true then some (false,z34,z35,b36,b37,b38,b39,b40,b41,z42)else AJ (IntKind.wrap .i64 (z12+1)) fun z44=>EJ n l1 z2 z44 z34 z35 b36 b37 b38 b39 b40 b41 z42)else AE l1 fun z45=>(if z45<=z2 then some (true,z13,z14,b15,b16,b17,b18,b19,b20,z21)else some (false,z13,z14,b15,b16,b17,b18,b19,b20,z21)))
end
def Lg (n:Nat) (l1:LD) (z2:Int) (z3:Int) (z4:Int) (b5:Bool) (b6:Bool) (b7:Bool) (b8:Bool) (b9:Bool) (b10:Bool) (z11:Int):Option (Bool×Int×Int×Bool×Bool×Bool×Bool×Bool×Bool×Int):=
 EJ n l1 z2 (0:Int) z3 z4 b5 b6 b7 b8 b9 b10 z11
noncomputable def pJ:BX:=⟨98,Tryz.f98,[.q 8,.z,.one (.fn 128 [.ext 0,.ext 1])],[[.z,.z,.bool,.bool,.bool,.bool,.bool,.bool,.fn 73 [],.fn 145 []],[.z]],⟨.one (.b),[[.z,.z,.bool,.bool,.bool,.bool,.bool,.bool,.fn 73 [],.fn 145 []],[.z]],[]⟩,Bool×Int×Int×Bool×Bool×Bool×Bool×Bool×Bool×Int,inferInstance,Lg,[⟨26,[0,1,2,6,7],[.ext 0,.ext 1],64,[.q 8,.z,.one (.fn 128 [.ext 0,.ext 1]),.one (.cb false),.z],[[.z,.z,.bool,.bool,.bool,.bool,.bool,.bool,.fn 73 [],.fn 145 []],[.z]],fun n l1 z2 z12 z13 z14 b15 b16 b17 b18 b19 b20 z21=>EJ n l1 z2 z12 z13 z14 b15 b16 b17 b18 b19 b20 z21⟩,
 ⟨209,[0,1,2,6,7,16],[.ext 0,.ext 1],352,[.q 8,.z,.one (.fn 128 [.ext 0,.ext 1]),.one (.cb false),.z,.b],[[.z,.z,.bool,.bool,.bool,.bool,.bool,.bool,.fn 73 [],.fn 145 []],[.z]],fun n l1 z2 z12 b23 z13 z14 b15 b16 b17 b18 b19 b20 z21=>Ew n l1 z2 z12 z13 z14 b15 b16 b17 b18 b19 b20 z21 b23⟩]⟩
noncomputable def pK:Kz:=sg pJ [kH] Tryz.func98 (by kernel_rfl) (by kernel_rfl) (by kernel_rfl)
def IC (n:Nat) (z1:Int) (z2:Int) (s3:BA) (s4:BA) (s5:BA) (l6:LD) (l7:LD) (z8:Int) (z9:Int) (z10:Int) (b11:Bool) (b12:Bool) (b13:Bool) (b14:Bool) (b15:Bool) (b16:Bool) (z17:Int):Option (Bool×Int×Int×Bool×Bool×Bool×Bool×Bool×Bool×Int):=
 (if b16=true then AJ (IntKind.wrap .i64 (z17 - 1)) fun z18=>bO1 (Lw n z1 z2 s3 s4 s5 l6 l7 z8 z18) fun b19=>some (b19,z9,z10,b11,b12,b13,b14,b15,true,z17)else bO1 (U7 n z1 z2 s3 s4 s5 l6 l7 z8) fun b20=>AL (!b20) fun b21=>(if b21=true then AJ (IntKind.wrap .i64 (z17 - 1)) fun z22=>bO1 (Lw n z1 z2 s3 s4 s5 l6 l7 z8 z22) fun b23=>some (b23,z9,z10,b11,b12,b13,b14,b15,false,z17)else some (false,z9,z10,b11,b12,b13,b14,b15,false,z17)))
theorem kI (n:Nat):∀⦃z1 z2 s3 s4 s5 l6 l7 z8 z9 z10 b11 b12 b13 b14 b15 b16 z17 r1 r2 r3 r4 r5 r6 r7 r8 r9 r10⦄,IC n z1 z2 s3 s4 s5 l6 l7 z8 z9 z10 b11 b12 b13 b14 b15 b16 z17=some (r1,r2,r3,r4,r5,r6,r7,r8,r9,r10)->
    Ah Tryz.prog inv 128 [.d (.agg [.int .u8 z1,.int .i64 z2,.str s3,.str s4,.str s5,.list false 1 l6,.list true 8 l7,.int .i64 z8]),.c (.ptr (.ext 0) 0),.c (.ptr (.ext 1) 0)] [.cells [.d (.int .i64 z9),.d (.int .i64 z10),.d (.bool b11),.d (.bool b12),.d (.bool b13),.d (.bool b14),.d (.bool b15),.d (.bool b16),.fn 74 [],.fn 73 []],.cells [.d (.int .i64 z17)]] (.v (.d (.bool r1))) [.cells [.d (.int .i64 r2),.d (.int .i64 r3),.d (.bool r4),.d (.bool r5),.d (.bool r6),.d (.bool r7),.d (.bool r8),.d (.bool r9),.fn 74 [],.fn 73 []],.cells [.d (.int .i64 r10)]] []:=by
 intro z1 z2 s3 s4 s5 l6 l7 z8 z9 z10 b11 b12 b13 b14 b15 b16 z17 r1 r2 r3 r4 r5 r6 r7 r8 r9 r10 h
 unfold IC at h
 refine Ah.of BI Ao Fi Tryz.func128 rfl (by kernel_rfl) rfl rfl rfl (fun M hM hI=>?_)
 try cbv
 refine AB ?_
 try cbv
 refine AB ?_
 try cbv
 cases b16
 rotate_left
 ·replace h:=Bo h
  try cbv
  replace h:=Ac h
  obtain⟨z18,hz,h⟩:=h
  refine⟨z18,hz,?_⟩
  clear hz
  try cbv
  replace h:=AU h
  obtain⟨b19,hr,h⟩:=h
  refine AZ rfl rfl ?_
  try cbv
  refine AQ hM hI (ZT _ hr) rfl ?_
  clear hr
  try cbv
  obtain⟨rfl,rfl,rfl,rfl,rfl,rfl,rfl,rfl,rfl,rfl⟩:=FC h
  refine AR ?_
  try cbv
  exact⟨[],rfl,rfl,⟨rfl,⟨rfl,trivial⟩⟩,trivial,trivial⟩
 replace h:=Bp h
 try cbv
 replace h:=AU h
 obtain⟨b20,hr,h⟩:=h
 refine AZ rfl rfl ?_
 try cbv
 refine AQ hM hI (lV _ hr) rfl ?_
 clear hr
 try cbv
 replace h:=CS h
 obtain⟨b21,hz,h⟩:=h
 refine⟨b21,DN hz,?_⟩
 clear hz
 try cbv
 cases b21
 ·replace h:=Bp h
  try cbv
  obtain⟨rfl,rfl,rfl,rfl,rfl,rfl,rfl,rfl,rfl,rfl⟩:=FC h
  refine AR ?_
  try cbv
  exact⟨[],rfl,rfl,⟨rfl,⟨rfl,trivial⟩⟩,trivial,trivial⟩
 replace h:=Bo h
 try cbv
 replace h:=Ac h
 obtain⟨z22,hz,h⟩:=h
 refine⟨z22,hz,?_⟩
 clear hz
 try cbv
 replace h:=AU h
 obtain⟨b23,hr,h⟩:=h
 refine AZ rfl rfl ?_
 try cbv
 refine AQ hM hI (ZT _ hr) rfl ?_
 clear hr
 try cbv
 obtain⟨rfl,rfl,rfl,rfl,rfl,rfl,rfl,rfl,rfl,rfl⟩:=FC h
 refine AR ?_
 try cbv
 exact⟨[],rfl,rfl,⟨rfl,⟨rfl,trivial⟩⟩,trivial,trivial⟩
noncomputable def kJ:BQ:=⟨128,[.agg [.y,.z,.str,.str,.str,.f 1,.q 8,.z],.p (.ext 0) 0,.p (.ext 1) 0],[[.z,.z,.bool,.bool,.bool,.bool,.bool,.bool,.fn 74 [],.fn 73 []],[.z]],[⟨.one (.b),[[.z,.z,.bool,.bool,.bool,.bool,.bool,.bool,.fn 74 [],.fn 73 []],[.z]],[]⟩],Bool×Int×Int×Bool×Bool×Bool×Bool×Bool×Bool×Int,inferInstance,IC⟩
noncomputable def kK:Kz:=⟨kJ,fun n=>Cm fun z1 z2 s3 s4 s5 l6 l7 z8 z9 z10 b11 b12 b13 b14 b15 b16 z17 p h w1 w2 w4 w3 l1 l2 e1 e2 e5 e3 xs e4=>by cases e1;cases e2;cases e4;cases e5;cases e3;exact kI n h⟩
mutual
def EK:Nat->LD->Int->Int->Int->Int->Bool->Bool->Bool->Bool->Bool->Bool->Int->Option (Bool×Int×Int×Bool×Bool×Bool×Bool×Bool×Bool×Int)
 | 0,_,_,_,_,_,_,_,_,_,_,_,_=>none
 | n+1,l1,z2,z12,z13,z14,b15,b16,b17,b18,b19,b20,z21=>
  AE l1 fun z22=>(if z12<z22 then (if z12<z2 then Ex n l1 z2 z12 z13 z14 b15 b16 b17 b18 b19 b20 z21 true else Ex n l1 z2 z12 z13 z14 b15 b16 b17 b18 b19 b20 z21 false)else Ex n l1 z2 z12 z13 z14 b15 b16 b17 b18 b19 b20 z21 false)
def Ex:Nat->LD->Int->Int->Int->Int->Bool->Bool->Bool->Bool->Bool->Bool->Int->Bool->Option (Bool×Int×Int×Bool×Bool×Bool×Bool×Bool×Bool×Int)
 | 0,_,_,_,_,_,_,_,_,_,_,_,_,_=>none
 | n+1,l1,z2,z12,z13,z14,b15,b16,b17,b18,b19,b20,z21,b23=>
  (if b23=true then Ap l1 z12 fun x24=>BD x24 fun z25 z26 s27 s28 s29 l30 l31 z32=>bO10 (IC n z25 z26 s27 s28 s29 l30 l31 z32 z13 z14 b15 b16 b17 b18 b19 b20 z21) fun b33 z34 z35 b36 b37 b38 b39 b40 b41 z42=>AL (!b33) fun b43=>(if b43=true then some (false,z34,z35,b36,b37,b38,b39,b40,b41,z42)else AJ (IntKind.wrap .i64 (z12+1)) fun z44=>EK n l1 z2 z44 z34 z35 b36 b37 b38 b39 b40 b41 z42)else AE l1 fun z45=>(if z45<=z2 then some (true,z13,z14,b15,b16,b17,b18,b19,b20,z21)else some (false,z13,z14,b15,b16,b17,b18,b19,b20,z21)))
end
def Lh (n:Nat) (l1:LD) (z2:Int) (z3:Int) (z4:Int) (b5:Bool) (b6:Bool) (b7:Bool) (b8:Bool) (b9:Bool) (b10:Bool) (z11:Int):Option (Bool×Int×Int×Bool×Bool×Bool×Bool×Bool×Bool×Int):=
 EK n l1 z2 (0:Int) z3 z4 b5 b6 b7 b8 b9 b10 z11
noncomputable def pL:BX:=⟨98,Tryz.f98,[.q 8,.z,.one (.fn 128 [.ext 0,.ext 1])],[[.z,.z,.bool,.bool,.bool,.bool,.bool,.bool,.fn 74 [],.fn 73 []],[.z]],⟨.one (.b),[[.z,.z,.bool,.bool,.bool,.bool,.bool,.bool,.fn 74 [],.fn 73 []],[.z]],[]⟩,Bool×Int×Int×Bool×Bool×Bool×Bool×Bool×Bool×Int,inferInstance,Lh,[⟨26,[0,1,2,6,7],[.ext 0,.ext 1],64,[.q 8,.z,.one (.fn 128 [.ext 0,.ext 1]),.one (.cb false),.z],[[.z,.z,.bool,.bool,.bool,.bool,.bool,.bool,.fn 74 [],.fn 73 []],[.z]],fun n l1 z2 z12 z13 z14 b15 b16 b17 b18 b19 b20 z21=>EK n l1 z2 z12 z13 z14 b15 b16 b17 b18 b19 b20 z21⟩,
 ⟨209,[0,1,2,6,7,16],[.ext 0,.ext 1],352,[.q 8,.z,.one (.fn 128 [.ext 0,.ext 1]),.one (.cb false),.z,.b],[[.z,.z,.bool,.bool,.bool,.bool,.bool,.bool,.fn 74 [],.fn 73 []],[.z]],fun n l1 z2 z12 b23 z13 z14 b15 b16 b17 b18 b19 b20 z21=>Ex n l1 z2 z12 z13 z14 b15 b16 b17 b18 b19 b20 z21 b23⟩]⟩
noncomputable def pM:Kz:=sg pL [kK] Tryz.func98 (by kernel_rfl) (by kernel_rfl) (by kernel_rfl)
def IE (n:Nat) (z1:Int) (z2:Int) (s3:BA) (s4:BA) (s5:BA) (l6:LD) (l7:LD) (z8:Int) (z9:Int) (z10:Int) (b11:Bool) (b12:Bool) (b13:Bool) (b14:Bool) (b15:Bool) (b16:Bool) (z17:Int):Option (Bool×Int×Int×Bool×Bool×Bool×Bool×Bool×Bool×Int):=
 (if b16=true then AJ (IntKind.wrap .i64 (z17 - 1)) fun z18=>bO1 (Lw n z1 z2 s3 s4 s5 l6 l7 z8 z18) fun b19=>some (b19,z9,z10,b11,b12,b13,b14,b15,true,z17)else bO1 (U7 n z1 z2 s3 s4 s5 l6 l7 z8) fun b20=>AL (!b20) fun b21=>(if b21=true then AJ (IntKind.wrap .i64 (z17 - 1)) fun z22=>bO1 (Lw n z1 z2 s3 s4 s5 l6 l7 z8 z22) fun b23=>some (b23,z9,z10,b11,b12,b13,b14,b15,false,z17)else some (false,z9,z10,b11,b12,b13,b14,b15,false,z17)))
theorem kL (n:Nat):∀⦃z1 z2 s3 s4 s5 l6 l7 z8 z9 z10 b11 b12 b13 b14 b15 b16 z17 r1 r2 r3 r4 r5 r6 r7 r8 r9 r10⦄,IE n z1 z2 s3 s4 s5 l6 l7 z8 z9 z10 b11 b12 b13 b14 b15 b16 z17=some (r1,r2,r3,r4,r5,r6,r7,r8,r9,r10)->
    Ah Tryz.prog inv 128 [.d (.agg [.int .u8 z1,.int .i64 z2,.str s3,.str s4,.str s5,.list false 1 l6,.list true 8 l7,.int .i64 z8]),.c (.ptr (.ext 0) 0),.c (.ptr (.ext 1) 0)] [.cells [.d (.int .i64 z9),.d (.int .i64 z10),.d (.bool b11),.d (.bool b12),.d (.bool b13),.d (.bool b14),.d (.bool b15),.d (.bool b16),.fn 74 [],.fn 74 []],.cells [.d (.int .i64 z17)]] (.v (.d (.bool r1))) [.cells [.d (.int .i64 r2),.d (.int .i64 r3),.d (.bool r4),.d (.bool r5),.d (.bool r6),.d (.bool r7),.d (.bool r8),.d (.bool r9),.fn 74 [],.fn 74 []],.cells [.d (.int .i64 r10)]] []:=by
 intro z1 z2 s3 s4 s5 l6 l7 z8 z9 z10 b11 b12 b13 b14 b15 b16 z17 r1 r2 r3 r4 r5 r6 r7 r8 r9 r10 h
 unfold IE at h
 refine Ah.of BI Ao Fi Tryz.func128 rfl (by kernel_rfl) rfl rfl rfl (fun M hM hI=>?_)
 try cbv
 refine AB ?_
 try cbv
 refine AB ?_
 try cbv
 cases b16
 rotate_left
 ·replace h:=Bo h
  try cbv
  replace h:=Ac h
  obtain⟨z18,hz,h⟩:=h
  refine⟨z18,hz,?_⟩
  clear hz
  try cbv
  replace h:=AU h
  obtain⟨b19,hr,h⟩:=h
  refine AZ rfl rfl ?_
  try cbv
  refine AQ hM hI (ZT _ hr) rfl ?_
  clear hr
  try cbv
  obtain⟨rfl,rfl,rfl,rfl,rfl,rfl,rfl,rfl,rfl,rfl⟩:=FC h
  refine AR ?_
  try cbv
  exact⟨[],rfl,rfl,⟨rfl,⟨rfl,trivial⟩⟩,trivial,trivial⟩
 replace h:=Bp h
 try cbv
 replace h:=AU h
 obtain⟨b20,hr,h⟩:=h
 refine AZ rfl rfl ?_
 try cbv
 refine AQ hM hI (lV _ hr) rfl ?_
 clear hr
 try cbv
 replace h:=CS h
 obtain⟨b21,hz,h⟩:=h
 refine⟨b21,DN hz,?_⟩
 clear hz
 try cbv
 cases b21
 ·replace h:=Bp h
  try cbv
  obtain⟨rfl,rfl,rfl,rfl,rfl,rfl,rfl,rfl,rfl,rfl⟩:=FC h
  refine AR ?_
  try cbv
  exact⟨[],rfl,rfl,⟨rfl,⟨rfl,trivial⟩⟩,trivial,trivial⟩
 replace h:=Bo h
 try cbv
 replace h:=Ac h
 obtain⟨z22,hz,h⟩:=h
 refine⟨z22,hz,?_⟩
 clear hz
 try cbv
 replace h:=AU h
 obtain⟨b23,hr,h⟩:=h
 refine AZ rfl rfl ?_
 try cbv
 refine AQ hM hI (ZT _ hr) rfl ?_
 clear hr
 try cbv
 obtain⟨rfl,rfl,rfl,rfl,rfl,rfl,rfl,rfl,rfl,rfl⟩:=FC h
 refine AR ?_
 try cbv
 exact⟨[],rfl,rfl,⟨rfl,⟨rfl,trivial⟩⟩,trivial,trivial⟩
noncomputable def kM:BQ:=⟨128,[.agg [.y,.z,.str,.str,.str,.f 1,.q 8,.z],.p (.ext 0) 0,.p (.ext 1) 0],[[.z,.z,.bool,.bool,.bool,.bool,.bool,.bool,.fn 74 [],.fn 74 []],[.z]],[⟨.one (.b),[[.z,.z,.bool,.bool,.bool,.bool,.bool,.bool,.fn 74 [],.fn 74 []],[.z]],[]⟩],Bool×Int×Int×Bool×Bool×Bool×Bool×Bool×Bool×Int,inferInstance,IE⟩
noncomputable def kN:Kz:=⟨kM,fun n=>Cm fun z1 z2 s3 s4 s5 l6 l7 z8 z9 z10 b11 b12 b13 b14 b15 b16 z17 p h w1 w2 w4 w3 l1 l2 e1 e2 e5 e3 xs e4=>by cases e1;cases e2;cases e4;cases e5;cases e3;exact kL n h⟩
mutual
def EL:Nat->LD->Int->Int->Int->Int->Bool->Bool->Bool->Bool->Bool->Bool->Int->Option (Bool×Int×Int×Bool×Bool×Bool×Bool×Bool×Bool×Int)
 | 0,_,_,_,_,_,_,_,_,_,_,_,_=>none
 | n+1,l1,z2,z12,z13,z14,b15,b16,b17,b18,b19,b20,z21=>
  AE l1 fun z22=>(if z12<z22 then (if z12<z2 then Ey n l1 z2 z12 z13 z14 b15 b16 b17 b18 b19 b20 z21 true else Ey n l1 z2 z12 z13 z14 b15 b16 b17 b18 b19 b20 z21 false)else Ey n l1 z2 z12 z13 z14 b15 b16 b17 b18 b19 b20 z21 false)
def Ey:Nat->LD->Int->Int->Int->Int->Bool->Bool->Bool->Bool->Bool->Bool->Int->Bool->Option (Bool×Int×Int×Bool×Bool×Bool×Bool×Bool×Bool×Int)
 | 0,_,_,_,_,_,_,_,_,_,_,_,_,_=>none
 | n+1,l1,z2,z12,z13,z14,b15,b16,b17,b18,b19,b20,z21,b23=>
  (if b23=true then Ap l1 z12 fun x24=>BD x24 fun z25 z26 s27 s28 s29 l30 l31 z32=>bO10 (IE n z25 z26 s27 s28 s29 l30 l31 z32 z13 z14 b15 b16 b17 b18 b19 b20 z21) fun b33 z34 z35 b36 b37 b38 b39 b40 b41 z42=>AL (!b33) fun b43=>(if b43=true then some (false,z34,z35,b36,b37,b38,b39,b40,b41,z42)else AJ (IntKind.wrap .i64 (z12+1)) fun z44=>EL n l1 z2 z44 z34 z35 b36 b37 b38 b39 b40 b41 z42)else AE l1 fun z45=>(if z45<=z2 then some (true,z13,z14,b15,b16,b17,b18,b19,b20,z21)else some (false,z13,z14,b15,b16,b17,b18,b19,b20,z21)))
end
def Li (n:Nat) (l1:LD) (z2:Int) (z3:Int) (z4:Int) (b5:Bool) (b6:Bool) (b7:Bool) (b8:Bool) (b9:Bool) (b10:Bool) (z11:Int):Option (Bool×Int×Int×Bool×Bool×Bool×Bool×Bool×Bool×Int):=
 EL n l1 z2 (0:Int) z3 z4 b5 b6 b7 b8 b9 b10 z11
noncomputable def pN:BX:=⟨98,Tryz.f98,[.q 8,.z,.one (.fn 128 [.ext 0,.ext 1])],[[.z,.z,.bool,.bool,.bool,.bool,.bool,.bool,.fn 74 [],.fn 74 []],[.z]],⟨.one (.b),[[.z,.z,.bool,.bool,.bool,.bool,.bool,.bool,.fn 74 [],.fn 74 []],[.z]],[]⟩,Bool×Int×Int×Bool×Bool×Bool×Bool×Bool×Bool×Int,inferInstance,Li,[⟨26,[0,1,2,6,7],[.ext 0,.ext 1],64,[.q 8,.z,.one (.fn 128 [.ext 0,.ext 1]),.one (.cb false),.z],[[.z,.z,.bool,.bool,.bool,.bool,.bool,.bool,.fn 74 [],.fn 74 []],[.z]],fun n l1 z2 z12 z13 z14 b15 b16 b17 b18 b19 b20 z21=>EL n l1 z2 z12 z13 z14 b15 b16 b17 b18 b19 b20 z21⟩,
 ⟨209,[0,1,2,6,7,16],[.ext 0,.ext 1],352,[.q 8,.z,.one (.fn 128 [.ext 0,.ext 1]),.one (.cb false),.z,.b],[[.z,.z,.bool,.bool,.bool,.bool,.bool,.bool,.fn 74 [],.fn 74 []],[.z]],fun n l1 z2 z12 b23 z13 z14 b15 b16 b17 b18 b19 b20 z21=>Ey n l1 z2 z12 z13 z14 b15 b16 b17 b18 b19 b20 z21 b23⟩]⟩
noncomputable def pO:Kz:=sg pN [kN] Tryz.func98 (by kernel_rfl) (by kernel_rfl) (by kernel_rfl)
mutual
def VA:Nat->Int->BA->BA->LD->Int->BA->LD->Int->BA->LD->LD->LD->LD->LD->Int->Int->Option (Bool×Int)
 | 0,_,_,_,_,_,_,_,_,_,_,_,_,_,_,_,_=>none
 | n+1,z1,s2,s3,l4,z5,s6,l7,z8,s9,l10,l11,l12,l13,l14,z15,z16=>
  AJ (IntKind.wrap .i64 (z16 - 1)) fun z17=>bO1 (Z8 n z1 s2 s3 l4 z5 s6 l7 z8 s9 l10 l11 l12 l13 l14 z15 z17) fun b18=>some (b18,z16)
def Ez:Nat->LD->Int->Int->Int->Option (Bool×Int)
 | 0,_,_,_,_=>none
 | n+1,l1,z2,z4,z5=>
  AE l1 fun z6=>(if z4<z6 then (if z4<z2 then EM n l1 z2 z4 z5 true else EM n l1 z2 z4 z5 false)else EM n l1 z2 z4 z5 false)
def EM:Nat->LD->Int->Int->Int->Bool->Option (Bool×Int)
 | 0,_,_,_,_,_=>none
 | n+1,l1,z2,z4,z5,b7=>
  (if b7=true then Ap l1 z4 fun x8=>BJ x8 fun z9 s10 s11 l12 z13 s14 l15 z16 s17 l18 l19 l20 l21 l22 z23=>bO2 (VA n z9 s10 s11 l12 z13 s14 l15 z16 s17 l18 l19 l20 l21 l22 z23 z5) fun b24 z25=>AL (!b24) fun b26=>(if b26=true then some (false,z25)else AJ (IntKind.wrap .i64 (z4+1)) fun z27=>Ez n l1 z2 z27 z25)else AE l1 fun z28=>(if z28<=z2 then some (true,z5)else some (false,z5)))
def Cz:Nat->LD->Int->Int->Option (Bool×Int)
 | 0,_,_,_=>none
 | n+1,l1,z2,z3=>
  Ez n l1 z2 (0:Int) z3
def VB:Nat->BA->BA->LD->Int->Option (Bool×Int)
 | 0,_,_,_,_=>none
 | n+1,s1,s2,l3,z4=>
  bO1 (XE n s1) fun b5=>(if b5=true then (if s2=ByteArray.empty then AE l3 fun z6=>bO2 (Cz n l3 z6 z4) fun b7 z8=>some (b7,z8)else bO1 (U3 n s2) fun b9=>(if b9=true then AE l3 fun z10=>bO2 (Cz n l3 z10 z4) fun b11 z12=>some (b11,z12)else some (false,z4)))else some (false,z4))
def HC:Nat->LD->Int->Int->Int->Option (Bool×Int)
 | 0,_,_,_,_=>none
 | n+1,l1,z2,z4,z5=>
  AE l1 fun z6=>(if z4<z6 then (if z4<z2 then Fy n l1 z2 z4 z5 true else Fy n l1 z2 z4 z5 false)else Fy n l1 z2 z4 z5 false)
def Fy:Nat->LD->Int->Int->Int->Bool->Option (Bool×Int)
 | 0,_,_,_,_,_=>none
 | n+1,l1,z2,z4,z5,b7=>
  (if b7=true then Ap l1 z4 fun x8=>Bf x8 fun s9 s10 l11=>bO2 (VB n s9 s10 l11 z5) fun b12 z13=>AL (!b12) fun b14=>(if b14=true then some (false,z13)else AJ (IntKind.wrap .i64 (z4+1)) fun z15=>HC n l1 z2 z15 z13)else AE l1 fun z16=>(if z16<=z2 then some (true,z5)else some (false,z5)))
def JQ:Nat->LD->Int->Int->Option (Bool×Int)
 | 0,_,_,_=>none
 | n+1,l1,z2,z3=>
  HC n l1 z2 (0:Int) z3
def GQ:Nat->Int->BA->LD->BA->LD->LD->LD->LD->LD->Int->Int->Int->Bool->Bool->Bool->Bool->Bool->Option (Bool)
 | 0,_,_,_,_,_,_,_,_,_,_,_,_,_,_,_,_,_=>none
 | n+1,z5,s6,l7,s9,l10,l11,l12,l13,l14,z16,z17,z18,b19,b20,b21,b22,b46=>
  (if b46=true then some false else AJ (IntKind.wrap .i64 (z16 - 1)) fun z47=>bO1 (PM n z5 s6 l7 z47) fun b48=>AL (!(false==b48)) fun b49=>(if b49=true then IG n l11 l12 l13 l14 z16 z17 z18 b19 b20 b21 b22 true else bO1 (ZS n z5 s6 l7) fun b50=>AL (!b50) fun b51=>(if b51=true then IG n l11 l12 l13 l14 z16 z17 z18 b19 b20 b21 b22 true else bO1 (U9 n s9 l10) fun b52=>AL (!(b19==b52)) fun b53=>(if b53=true then IG n l11 l12 l13 l14 z16 z17 z18 b19 b20 b21 b22 true else AL (!b19) fun b54=>(if b54=true then bO1 (RD n s9 l10) fun b55=>AL (!b55) fun b56=>IG n l11 l12 l13 l14 z16 z17 z18 b19 b20 b21 b22 b56 else IG n l11 l12 l13 l14 z16 z17 z18 b19 b20 b21 b22 false)))))
def IG:Nat->LD->LD->LD->LD->Int->Int->Int->Bool->Bool->Bool->Bool->Bool->Option (Bool)
 | 0,_,_,_,_,_,_,_,_,_,_,_,_=>none
 | n+1,l11,l12,l13,l14,z16,z17,z18,b19,b20,b21,b22,b57=>
  (if b57=true then some false else AL (!b20) fun b58=>(if b58=true then AE l12 fun z59=>(if (0:Int)<z59 then ER n l11 l12 l13 l14 z16 z17 z18 b19 b20 b21 b22 true else AL (!b21) fun b60=>(if b60=true then AE l13 fun z61=>(if (0:Int)<z61 then ER n l11 l12 l13 l14 z16 z17 z18 b19 b20 b21 b22 true else AE l14 fun z62=>(if (0:Int)<z62 then ER n l11 l12 l13 l14 z16 z17 z18 b19 b20 b21 b22 true else ER n l11 l12 l13 l14 z16 z17 z18 b19 b20 b21 b22 false))else AE l14 fun z63=>(if (0:Int)<z63 then ER n l11 l12 l13 l14 z16 z17 z18 b19 b20 b21 b22 true else ER n l11 l12 l13 l14 z16 z17 z18 b19 b20 b21 b22 false)))else AL (!b21) fun b64=>(if b64=true then AE l13 fun z65=>(if (0:Int)<z65 then ER n l11 l12 l13 l14 z16 z17 z18 b19 b20 b21 b22 true else AE l14 fun z66=>(if (0:Int)<z66 then ER n l11 l12 l13 l14 z16 z17 z18 b19 b20 b21 b22 true else ER n l11 l12 l13 l14 z16 z17 z18 b19 b20 b21 b22 false))else AE l14 fun z67=>(if (0:Int)<z67 then ER n l11 l12 l13 l14 z16 z17 z18 b19 b20 b21 b22 true else ER n l11 l12 l13 l14 z16 z17 z18 b19 b20 b21 b22 false))))
def ER:Nat->LD->LD->LD->LD->Int->Int->Int->Bool->Bool->Bool->Bool->Bool->Option (Bool)
 | 0,_,_,_,_,_,_,_,_,_,_,_,_=>none
 | n+1,l11,l12,l13,l14,z16,z17,z18,b19,b20,b21,b22,b68=>
  (if b68=true then some false else bO10 (Ej n l11 (6:Int) z17 z18 false b19 b20 b21 false b22 z16) fun b69 z70 z71 b72 b73 b74 b75 b76 b77 z78=>(if b69=true then AE l12 fun z79=>bO2 (Cz n l12 z79 z78) fun b80 z81=>(if b80=true then AE l13 fun z82=>bO2 (Cz n l13 z82 z81) fun b83 z84=>(if b83=true then bO2 (JQ n l14 (6:Int) z84) fun b85 z86=>some b85 else some false)else some false)else some false))
def HO:Nat->Int->BA->LD->BA->LD->LD->LD->LD->LD->Int->Int->Bool->Bool->Bool->Bool->Option (Bool)
 | 0,_,_,_,_,_,_,_,_,_,_,_,_,_,_,_=>none
 | n+1,z5,s6,l7,s9,l10,l11,l12,l13,l14,z16,z24,b25,b26,b27,b96=>
  (if b96=true then some false else AJ (IntKind.wrap .i64 (z16 - 1)) fun z97=>bO1 (PM n z5 s6 l7 z97) fun b98=>AL (!(false==b98)) fun b99=>(if b99=true then IH n l11 l12 l13 l14 z16 z24 b25 b26 b27 true else bO1 (ZS n z5 s6 l7) fun b100=>AL (!b100) fun b101=>(if b101=true then IH n l11 l12 l13 l14 z16 z24 b25 b26 b27 true else bO1 (U9 n s9 l10) fun b102=>AL (!(b25==b102)) fun b103=>(if b103=true then IH n l11 l12 l13 l14 z16 z24 b25 b26 b27 true else AL (!b25) fun b104=>(if b104=true then bO1 (RD n s9 l10) fun b105=>AL (!b105) fun b106=>IH n l11 l12 l13 l14 z16 z24 b25 b26 b27 b106 else IH n l11 l12 l13 l14 z16 z24 b25 b26 b27 false)))))
def IH:Nat->LD->LD->LD->LD->Int->Int->Bool->Bool->Bool->Bool->Option (Bool)
 | 0,_,_,_,_,_,_,_,_,_,_=>none
 | n+1,l11,l12,l13,l14,z16,z24,b25,b26,b27,b107=>
  (if b107=true then some false else AL (!b26) fun b108=>(if b108=true then AE l12 fun z109=>(if (0:Int)<z109 then GR n l11 l12 l13 l14 z16 z24 b25 b26 b27 true else AE l13 fun z110=>(if (0:Int)<z110 then GR n l11 l12 l13 l14 z16 z24 b25 b26 b27 true else AE l14 fun z111=>(if (0:Int)<z111 then GR n l11 l12 l13 l14 z16 z24 b25 b26 b27 true else GR n l11 l12 l13 l14 z16 z24 b25 b26 b27 false)))else AE l13 fun z112=>(if (0:Int)<z112 then GR n l11 l12 l13 l14 z16 z24 b25 b26 b27 true else AE l14 fun z113=>(if (0:Int)<z113 then GR n l11 l12 l13 l14 z16 z24 b25 b26 b27 true else GR n l11 l12 l13 l14 z16 z24 b25 b26 b27 false))))
def GR:Nat->LD->LD->LD->LD->Int->Int->Bool->Bool->Bool->Bool->Option (Bool)
 | 0,_,_,_,_,_,_,_,_,_,_=>none
 | n+1,l11,l12,l13,l14,z16,z24,b25,b26,b27,b114=>
  (if b114=true then some false else bO10 (Ld n l11 (6:Int) (0:Int) z24 false b25 b26 false false b27 z16) fun b115 z116 z117 b118 b119 b120 b121 b122 b123 z124=>(if b115=true then AE l12 fun z125=>bO2 (Cz n l12 z125 z124) fun b126 z127=>(if b126=true then AE l13 fun z128=>bO2 (Cz n l13 z128 z127) fun b129 z130=>(if b129=true then bO2 (JQ n l14 (6:Int) z130) fun b131 z132=>some b131 else some false)else some false)else some false))
def HP:Nat->Int->BA->LD->BA->LD->LD->LD->LD->LD->Int->Bool->Option (Bool)
 | 0,_,_,_,_,_,_,_,_,_,_,_=>none
 | n+1,z5,s6,l7,s9,l10,l11,l12,l13,l14,z16,b142=>
  (if b142=true then some false else AJ (IntKind.wrap .i64 (z16 - 1)) fun z143=>bO1 (PM n z5 s6 l7 z143) fun b144=>AL (!(false==b144)) fun b145=>(if b145=true then Iz n l11 l12 l13 l14 z16 true else bO1 (ZS n z5 s6 l7) fun b146=>AL (!b146) fun b147=>(if b147=true then Iz n l11 l12 l13 l14 z16 true else bO1 (U9 n s9 l10) fun b148=>AL (!(false==b148)) fun b149=>(if b149=true then Iz n l11 l12 l13 l14 z16 true else bO1 (RD n s9 l10) fun b150=>AL (!b150) fun b151=>Iz n l11 l12 l13 l14 z16 b151))))
def Iz:Nat->LD->LD->LD->LD->Int->Bool->Option (Bool)
 | 0,_,_,_,_,_,_=>none
 | n+1,l11,l12,l13,l14,z16,b152=>
  (if b152=true then some false else AE l12 fun z153=>(if (0:Int)<z153 then I0 n l11 l12 l13 l14 z16 true else AE l13 fun z154=>(if (0:Int)<z154 then I0 n l11 l12 l13 l14 z16 true else AE l14 fun z155=>(if (0:Int)<z155 then I0 n l11 l12 l13 l14 z16 true else I0 n l11 l12 l13 l14 z16 false))))
def I0:Nat->LD->LD->LD->LD->Int->Bool->Option (Bool)
 | 0,_,_,_,_,_,_=>none
 | n+1,l11,l12,l13,l14,z16,b156=>
  (if b156=true then some false else bO10 (Lg n l11 (6:Int) (6:Int) (1:Int) false false false false false false z16) fun b157 z158 z159 b160 b161 b162 b163 b164 b165 z166=>(if b157=true then AE l12 fun z167=>bO2 (Cz n l12 z167 z166) fun b168 z169=>(if b168=true then AE l13 fun z170=>bO2 (Cz n l13 z170 z169) fun b171 z172=>(if b171=true then bO2 (JQ n l14 (6:Int) z172) fun b173 z174=>some b173 else some false)else some false)else some false))
def EZ:Nat->Int->BA->LD->BA->LD->LD->LD->LD->LD->Int->Bool->Option (Bool)
 | 0,_,_,_,_,_,_,_,_,_,_,_=>none
 | n+1,z5,s6,l7,s9,l10,l11,l12,l13,l14,z16,b184=>
  (if b184=true then some false else AJ (IntKind.wrap .i64 (z16 - 1)) fun z185=>bO1 (PM n z5 s6 l7 z185) fun b186=>AL (!(false==b186)) fun b187=>(if b187=true then Fz n l11 l12 l13 l14 z16 true else bO1 (ZS n z5 s6 l7) fun b188=>AL (!b188) fun b189=>(if b189=true then Fz n l11 l12 l13 l14 z16 true else bO1 (U9 n s9 l10) fun b190=>AL (!(false==b190)) fun b191=>(if b191=true then Fz n l11 l12 l13 l14 z16 true else bO1 (RD n s9 l10) fun b192=>AL (!b192) fun b193=>Fz n l11 l12 l13 l14 z16 b193))))
def Fz:Nat->LD->LD->LD->LD->Int->Bool->Option (Bool)
 | 0,_,_,_,_,_,_=>none
 | n+1,l11,l12,l13,l14,z16,b194=>
  (if b194=true then some false else AE l12 fun z195=>(if (0:Int)<z195 then HD n l11 l12 l13 l14 z16 true else AE l13 fun z196=>(if (0:Int)<z196 then HD n l11 l12 l13 l14 z16 true else HD n l11 l12 l13 l14 z16 false)))
def HD:Nat->LD->LD->LD->LD->Int->Bool->Option (Bool)
 | 0,_,_,_,_,_,_=>none
 | n+1,l11,l12,l13,l14,z16,b197=>
  (if b197=true then some false else bO10 (Lh n l11 (6:Int) (0:Int) (0:Int) false false false false true false z16) fun b198 z199 z200 b201 b202 b203 b204 b205 b206 z207=>(if b198=true then AE l12 fun z208=>bO2 (Cz n l12 z208 z207) fun b209 z210=>(if b209=true then AE l13 fun z211=>bO2 (Cz n l13 z211 z210) fun b212 z213=>(if b212=true then bO2 (JQ n l14 (6:Int) z213) fun b214 z215=>some b214 else some false)else some false)else some false))
def Ea:Nat->Int->BA->LD->BA->LD->LD->LD->LD->LD->Int->Bool->Option (Bool)
 | 0,_,_,_,_,_,_,_,_,_,_,_=>none
 | n+1,z5,s6,l7,s9,l10,l11,l12,l13,l14,z16,b225=>
  (if b225=true then some false else AJ (IntKind.wrap .i64 (z16 - 1)) fun z226=>bO1 (PM n z5 s6 l7 z226) fun b227=>AL (!(true==b227)) fun b228=>(if b228=true then HE n l11 l12 l13 l14 z16 true else bO1 (U9 n s9 l10) fun b229=>AL (!(false==b229)) fun b230=>(if b230=true then HE n l11 l12 l13 l14 z16 true else bO1 (RD n s9 l10) fun b231=>AL (!b231) fun b232=>HE n l11 l12 l13 l14 z16 b232)))
def HE:Nat->LD->LD->LD->LD->Int->Bool->Option (Bool)
 | 0,_,_,_,_,_,_=>none
 | n+1,l11,l12,l13,l14,z16,b233=>
  (if b233=true then some false else AE l12 fun z234=>(if (0:Int)<z234 then F0 n l11 l12 l13 l14 z16 true else AE l13 fun z235=>(if (0:Int)<z235 then F0 n l11 l12 l13 l14 z16 true else AE l14 fun z236=>(if (0:Int)<z236 then F0 n l11 l12 l13 l14 z16 true else F0 n l11 l12 l13 l14 z16 false))))
def F0:Nat->LD->LD->LD->LD->Int->Bool->Option (Bool)
 | 0,_,_,_,_,_,_=>none
 | n+1,l11,l12,l13,l14,z16,b237=>
  (if b237=true then some false else bO10 (Li n l11 (6:Int) (0:Int) (0:Int) true false false false false false z16) fun b238 z239 z240 b241 b242 b243 b244 b245 b246 z247=>(if b238=true then AE l12 fun z248=>bO2 (Cz n l12 z248 z247) fun b249 z250=>(if b249=true then AE l13 fun z251=>bO2 (Cz n l13 z251 z250) fun b252 z253=>(if b252=true then bO2 (JQ n l14 (6:Int) z253) fun b254 z255=>some b254 else some false)else some false)else some false))
def Z8:Nat->Int->BA->BA->LD->Int->BA->LD->Int->BA->LD->LD->LD->LD->LD->Int->Int->Option (Bool)
 | 0,_,_,_,_,_,_,_,_,_,_,_,_,_,_,_,_=>none
 | n+1,z1,s2,s3,l4,z5,s6,l7,z8,s9,l10,l11,l12,l13,l14,z15,z16=>
  bS (RC n z1 s2 s3 l4 z5 s6 l7 z8 s9 l10 l11 l12 l13 l14 z15) (fun p28=>bO7 (some p28) fun z17 z18 b19 b20 b21 b22 b23=>(if z16<(1:Int)then GQ n z5 s6 l7 s9 l10 l11 l12 l13 l14 z16 z17 z18 b19 b20 b21 b22 true else AL (!b23) fun b36=>(if b36=true then GQ n z5 s6 l7 s9 l10 l11 l12 l13 l14 z16 z17 z18 b19 b20 b21 b22 true else bO1 (Nk n z1 s2 s3 l4 z5 s6 l7 z8 s9 l10 l11 l12 l13 l14 z15) fun b37=>AL (!b37) fun b38=>(if b38=true then GQ n z5 s6 l7 s9 l10 l11 l12 l13 l14 z16 z17 z18 b19 b20 b21 b22 true else bO1 (U8 n s2) fun b39=>AL (!b39) fun b40=>(if b40=true then GQ n z5 s6 l7 s9 l10 l11 l12 l13 l14 z16 z17 z18 b19 b20 b21 b22 true else bO1 (U8 n s3) fun b41=>AL (!b41) fun b42=>(if b42=true then GQ n z5 s6 l7 s9 l10 l11 l12 l13 l14 z16 z17 z18 b19 b20 b21 b22 true else AE l11 fun z43=>(if z43=z18 then bO1 (Ix n l4 z17) fun b44=>AL (!b44) fun b45=>GQ n z5 s6 l7 s9 l10 l11 l12 l13 l14 z16 z17 z18 b19 b20 b21 b22 b45 else GQ n z5 s6 l7 s9 l10 l11 l12 l13 l14 z16 z17 z18 b19 b20 b21 b22 true))))))) (fun q29=>bS (some q29) (fun p30=>bO4 (some p30) fun z24 b25 b26 b27=>(if z16<(1:Int)then HO n z5 s6 l7 s9 l10 l11 l12 l13 l14 z16 z24 b25 b26 b27 true else bO1 (Nk n z1 s2 s3 l4 z5 s6 l7 z8 s9 l10 l11 l12 l13 l14 z15) fun b87=>AL (!b87) fun b88=>(if b88=true then HO n z5 s6 l7 s9 l10 l11 l12 l13 l14 z16 z24 b25 b26 b27 true else bO1 (U3 n s2) fun b89=>AL (!b89) fun b90=>(if b90=true then HO n z5 s6 l7 s9 l10 l11 l12 l13 l14 z16 z24 b25 b26 b27 true else bO1 (U8 n s3) fun b91=>AL (!b91) fun b92=>(if b92=true then HO n z5 s6 l7 s9 l10 l11 l12 l13 l14 z16 z24 b25 b26 b27 true else AE l11 fun z93=>(if z93=z24 then bO1 (Ix n l4 (0:Int)) fun b94=>AL (!b94) fun b95=>HO n z5 s6 l7 s9 l10 l11 l12 l13 l14 z16 z24 b25 b26 b27 b95 else HO n z5 s6 l7 s9 l10 l11 l12 l13 l14 z16 z24 b25 b26 b27 true)))))) (fun q31=>bS (some q31) (fun _=>(if z16<(1:Int)then HP n z5 s6 l7 s9 l10 l11 l12 l13 l14 z16 true else bO1 (Nk n z1 s2 s3 l4 z5 s6 l7 z8 s9 l10 l11 l12 l13 l14 z15) fun b133=>AL (!b133) fun b134=>(if b134=true then HP n z5 s6 l7 s9 l10 l11 l12 l13 l14 z16 true else bO1 (XE n s2) fun b135=>AL (!b135) fun b136=>(if b136=true then HP n z5 s6 l7 s9 l10 l11 l12 l13 l14 z16 true else bO1 (U8 n s3) fun b137=>AL (!b137) fun b138=>(if b138=true then HP n z5 s6 l7 s9 l10 l11 l12 l13 l14 z16 true else AE l11 fun z139=>(if z139=(1:Int)then bO1 (Ix n l4 (6:Int)) fun b140=>AL (!b140) fun b141=>HP n z5 s6 l7 s9 l10 l11 l12 l13 l14 z16 b141 else HP n z5 s6 l7 s9 l10 l11 l12 l13 l14 z16 true)))))) (fun q33=>bS (some q33) (fun _=>(if z16<(1:Int)then EZ n z5 s6 l7 s9 l10 l11 l12 l13 l14 z16 true else bO1 (Nk n z1 s2 s3 l4 z5 s6 l7 z8 s9 l10 l11 l12 l13 l14 z15) fun b175=>AL (!b175) fun b176=>(if b176=true then EZ n z5 s6 l7 s9 l10 l11 l12 l13 l14 z16 true else bO1 (U3 n s2) fun b177=>AL (!b177) fun b178=>(if b178=true then EZ n z5 s6 l7 s9 l10 l11 l12 l13 l14 z16 true else bO1 (XE n s3) fun b179=>AL (!b179) fun b180=>(if b180=true then EZ n z5 s6 l7 s9 l10 l11 l12 l13 l14 z16 true else AE l11 fun z181=>(if z181=(0:Int)then bO1 (Ix n l4 (0:Int)) fun b182=>AL (!b182) fun b183=>EZ n z5 s6 l7 s9 l10 l11 l12 l13 l14 z16 b183 else EZ n z5 s6 l7 s9 l10 l11 l12 l13 l14 z16 true)))))) (fun _=>(if z16<(1:Int)then Ea n z5 s6 l7 s9 l10 l11 l12 l13 l14 z16 true else bO1 (Nk n z1 s2 s3 l4 z5 s6 l7 z8 s9 l10 l11 l12 l13 l14 z15) fun b216=>AL (!b216) fun b217=>(if b217=true then Ea n z5 s6 l7 s9 l10 l11 l12 l13 l14 z16 true else bO1 (U3 n s2) fun b218=>AL (!b218) fun b219=>(if b219=true then Ea n z5 s6 l7 s9 l10 l11 l12 l13 l14 z16 true else bO1 (U3 n s3) fun b220=>AL (!b220) fun b221=>(if b221=true then Ea n z5 s6 l7 s9 l10 l11 l12 l13 l14 z16 true else AE l11 fun z222=>(if z222=(0:Int)then bO1 (Ix n l4 (0:Int)) fun b223=>AL (!b223) fun b224=>Ea n z5 s6 l7 s9 l10 l11 l12 l13 l14 z16 b224 else Ea n z5 s6 l7 s9 l10 l11 l12 l13 l14 z16 true)))))))))
end
noncomputable def wO:BX:=⟨127,Tryz.f127,[.agg [.y,.str,.str,.f 1,.y,.str,.q 3,.z,.str,.f 1,.q 8,.q 15,.q 15,.q 3,.z],.p (.ext 0) 0],[[.z]],⟨.one (.b),[[.z]],[]⟩,Bool×Int,inferInstance,VA,[]⟩
noncomputable def pP:BX:=⟨75,Tryz.f75,[.q 15,.z,.one (.fn 127 [.ext 0])],[[.z]],⟨.one (.b),[[.z]],[]⟩,Bool×Int,inferInstance,Cz,[⟨26,[0,1,2,6,7],[.ext 0],64,[.q 15,.z,.one (.fn 127 [.ext 0]),.one (.cb false),.z],[[.z]],fun n l1 z2 z4 z5=>Ez n l1 z2 z4 z5⟩,
 ⟨209,[0,1,2,6,7,16],[.ext 0],352,[.q 15,.z,.one (.fn 127 [.ext 0]),.one (.cb false),.z,.b],[[.z]],fun n l1 z2 z4 b7 z5=>EM n l1 z2 z4 z5 b7⟩]⟩
noncomputable def wP:BX:=⟨130,Tryz.f130,[.agg [.str,.str,.q 15],.p (.ext 0) 0],[[.fn 127 [.ext 1]],[.z]],⟨.one (.b),[[.fn 127 [.ext 1]],[.z]],[]⟩,Bool×Int,inferInstance,VB,[]⟩
noncomputable def wQ:BX:=⟨129,Tryz.f129,[.q 3,.z,.one (.fn 130 [.ext 0])],[[.fn 127 [.ext 1]],[.z]],⟨.one (.b),[[.fn 127 [.ext 1]],[.z]],[]⟩,Bool×Int,inferInstance,JQ,[⟨26,[0,1,2,6,7],[.ext 0,.ext 1],64,[.q 3,.z,.one (.fn 130 [.ext 0]),.one (.cb false),.z],[[.fn 127 [.ext 1]],[.z]],fun n l1 z2 z4 z5=>HC n l1 z2 z4 z5⟩,
 ⟨209,[0,1,2,6,7,16],[.ext 0,.ext 1],352,[.q 3,.z,.one (.fn 130 [.ext 0]),.one (.cb false),.z,.b],[[.fn 127 [.ext 1]],[.z]],fun n l1 z2 z4 b7 z5=>Fy n l1 z2 z4 z5 b7⟩]⟩
noncomputable def yV:BX:=⟨77,Tryz.f77,[.agg [.y,.str,.str,.f 1,.y,.str,.q 3,.z,.str,.f 1,.q 8,.q 15,.q 15,.q 3,.z],.z],[],⟨.one (.b),[],[]⟩,Bool,inferInstance,Z8,[⟨29,[2,3,4,5,55],[.loc 0,.loc 32,.loc 256],1728,[.p (.loc 0) 0,.p (.loc 32) 0,.one (.cb false),.p (.loc 256) 0,.b],[[.y,.str,.str,.f 1,.y,.str,.q 3,.z,.str,.f 1,.q 8,.q 15,.q 15,.q 3,.z],[.z],[.z,.z,.cb false,.bool,.bool,.bool,.cb false,.bool,.fn 145 [],.fn 145 []]],fun n b46 _ _ _ _ z5 s6 l7 _ s9 l10 l11 l12 l13 l14 _ z16 z17 z18 b19 b20 b21 b22=>GQ n z5 s6 l7 s9 l10 l11 l12 l13 l14 z16 z17 z18 b19 b20 b21 b22 b46⟩,
 ⟨61,[2,3,4,5,93],[.loc 0,.loc 32,.loc 256],2944,[.p (.loc 0) 0,.p (.loc 32) 0,.one (.cb false),.p (.loc 256) 0,.b],[[.y,.str,.str,.f 1,.y,.str,.q 3,.z,.str,.f 1,.q 8,.q 15,.q 15,.q 3,.z],[.z],[.z,.z,.cb false,.bool,.bool,.bool,.cb false,.bool,.fn 145 [],.fn 145 []]],fun n b57 _ _ _ _ _ _ _ _ _ _ l11 l12 l13 l14 _ z16 z17 z18 b19 b20 b21 b22=>IG n l11 l12 l13 l14 z16 z17 z18 b19 b20 b21 b22 b57⟩,
 ⟨125,[2,3,4,5,124],[.loc 0,.loc 32,.loc 256],3936,[.p (.loc 0) 0,.p (.loc 32) 0,.one (.cb false),.p (.loc 256) 0,.b],[[.y,.str,.str,.f 1,.y,.str,.q 3,.z,.str,.f 1,.q 8,.q 15,.q 15,.q 3,.z],[.z],[.z,.z,.cb false,.bool,.bool,.bool,.cb false,.bool,.fn 145 [],.fn 145 []]],fun n b68 _ _ _ _ _ _ _ _ _ _ l11 l12 l13 l14 _ z16 z17 z18 b19 b20 b21 b22=>ER n l11 l12 l13 l14 z16 z17 z18 b19 b20 b21 b22 b68⟩,
 ⟨29,[2,3,4,5,55],[.loc 0,.loc 32,.loc 256],1728,[.p (.loc 0) 0,.p (.loc 32) 0,.one (.cb false),.p (.loc 256) 0,.b],[[.y,.str,.str,.f 1,.y,.str,.q 3,.z,.str,.f 1,.q 8,.q 15,.q 15,.q 3,.z],[.z],[.k 0,.z,.cb false,.bool,.bool,.cb false,.cb false,.bool,.fn 74 [],.fn 145 []]],fun n b96 _ _ _ _ z5 s6 l7 _ s9 l10 l11 l12 l13 l14 _ z16 z24 b25 b26 b27=>HO n z5 s6 l7 s9 l10 l11 l12 l13 l14 z16 z24 b25 b26 b27 b96⟩,
 ⟨61,[2,3,4,5,93],[.loc 0,.loc 32,.loc 256],2944,[.p (.loc 0) 0,.p (.loc 32) 0,.one (.cb false),.p (.loc 256) 0,.b],[[.y,.str,.str,.f 1,.y,.str,.q 3,.z,.str,.f 1,.q 8,.q 15,.q 15,.q 3,.z],[.z],[.k 0,.z,.cb false,.bool,.bool,.cb false,.cb false,.bool,.fn 74 [],.fn 145 []]],fun n b107 _ _ _ _ _ _ _ _ _ _ l11 l12 l13 l14 _ z16 z24 b25 b26 b27=>IH n l11 l12 l13 l14 z16 z24 b25 b26 b27 b107⟩,
 ⟨125,[2,3,4,5,124],[.loc 0,.loc 32,.loc 256],3936,[.p (.loc 0) 0,.p (.loc 32) 0,.one (.cb false),.p (.loc 256) 0,.b],[[.y,.str,.str,.f 1,.y,.str,.q 3,.z,.str,.f 1,.q 8,.q 15,.q 15,.q 3,.z],[.z],[.k 0,.z,.cb false,.bool,.bool,.cb false,.cb false,.bool,.fn 74 [],.fn 145 []]],fun n b114 _ _ _ _ _ _ _ _ _ _ l11 l12 l13 l14 _ z16 z24 b25 b26 b27=>GR n l11 l12 l13 l14 z16 z24 b25 b26 b27 b114⟩,
 ⟨29,[2,3,4,5,55],[.loc 0,.loc 32,.loc 256],1728,[.p (.loc 0) 0,.p (.loc 32) 0,.one (.cb false),.p (.loc 256) 0,.b],[[.y,.str,.str,.f 1,.y,.str,.q 3,.z,.str,.f 1,.q 8,.q 15,.q 15,.q 3,.z],[.z],[.k 6,.k 1,.cb false,.cb false,.cb false,.cb false,.cb false,.cb false,.fn 73 [],.fn 145 []]],fun n b142 _ _ _ _ z5 s6 l7 _ s9 l10 l11 l12 l13 l14 _ z16=>HP n z5 s6 l7 s9 l10 l11 l12 l13 l14 z16 b142⟩,
 ⟨61,[2,3,4,5,93],[.loc 0,.loc 32,.loc 256],2944,[.p (.loc 0) 0,.p (.loc 32) 0,.one (.cb false),.p (.loc 256) 0,.b],[[.y,.str,.str,.f 1,.y,.str,.q 3,.z,.str,.f 1,.q 8,.q 15,.q 15,.q 3,.z],[.z],[.k 6,.k 1,.cb false,.cb false,.cb false,.cb false,.cb false,.cb false,.fn 73 [],.fn 145 []]],fun n b152 _ _ _ _ _ _ _ _ _ _ l11 l12 l13 l14 _ z16=>Iz n l11 l12 l13 l14 z16 b152⟩,
 ⟨125,[2,3,4,5,124],[.loc 0,.loc 32,.loc 256],3936,[.p (.loc 0) 0,.p (.loc 32) 0,.one (.cb false),.p (.loc 256) 0,.b],[[.y,.str,.str,.f 1,.y,.str,.q 3,.z,.str,.f 1,.q 8,.q 15,.q 15,.q 3,.z],[.z],[.k 6,.k 1,.cb false,.cb false,.cb false,.cb false,.cb false,.cb false,.fn 73 [],.fn 145 []]],fun n b156 _ _ _ _ _ _ _ _ _ _ l11 l12 l13 l14 _ z16=>I0 n l11 l12 l13 l14 z16 b156⟩,
 ⟨29,[2,3,4,5,55],[.loc 0,.loc 32,.loc 256],1728,[.p (.loc 0) 0,.p (.loc 32) 0,.one (.cb false),.p (.loc 256) 0,.b],[[.y,.str,.str,.f 1,.y,.str,.q 3,.z,.str,.f 1,.q 8,.q 15,.q 15,.q 3,.z],[.z],[.k 0,.k 0,.cb false,.cb false,.cb false,.cb false,.cb true,.cb false,.fn 74 [],.fn 73 []]],fun n b184 _ _ _ _ z5 s6 l7 _ s9 l10 l11 l12 l13 l14 _ z16=>EZ n z5 s6 l7 s9 l10 l11 l12 l13 l14 z16 b184⟩,
 ⟨61,[2,3,4,5,93],[.loc 0,.loc 32,.loc 256],2944,[.p (.loc 0) 0,.p (.loc 32) 0,.one (.cb false),.p (.loc 256) 0,.b],[[.y,.str,.str,.f 1,.y,.str,.q 3,.z,.str,.f 1,.q 8,.q 15,.q 15,.q 3,.z],[.z],[.k 0,.k 0,.cb false,.cb false,.cb false,.cb false,.cb true,.cb false,.fn 74 [],.fn 73 []]],fun n b194 _ _ _ _ _ _ _ _ _ _ l11 l12 l13 l14 _ z16=>Fz n l11 l12 l13 l14 z16 b194⟩,
 ⟨125,[2,3,4,5,124],[.loc 0,.loc 32,.loc 256],3936,[.p (.loc 0) 0,.p (.loc 32) 0,.one (.cb false),.p (.loc 256) 0,.b],[[.y,.str,.str,.f 1,.y,.str,.q 3,.z,.str,.f 1,.q 8,.q 15,.q 15,.q 3,.z],[.z],[.k 0,.k 0,.cb false,.cb false,.cb false,.cb false,.cb true,.cb false,.fn 74 [],.fn 73 []]],fun n b197 _ _ _ _ _ _ _ _ _ _ l11 l12 l13 l14 _ z16=>HD n l11 l12 l13 l14 z16 b197⟩,
 ⟨29,[2,3,4,5,55],[.loc 0,.loc 32,.loc 256],1728,[.p (.loc 0) 0,.p (.loc 32) 0,.one (.cb false),.p (.loc 256) 0,.b],[[.y,.str,.str,.f 1,.y,.str,.q 3,.z,.str,.f 1,.q 8,.q 15,.q 15,.q 3,.z],[.z],[.k 0,.k 0,.cb true,.cb false,.cb false,.cb false,.cb false,.cb false,.fn 74 [],.fn 74 []]],fun n b225 _ _ _ _ z5 s6 l7 _ s9 l10 l11 l12 l13 l14 _ z16=>Ea n z5 s6 l7 s9 l10 l11 l12 l13 l14 z16 b225⟩,
 ⟨61,[2,3,4,5,93],[.loc 0,.loc 32,.loc 256],2944,[.p (.loc 0) 0,.p (.loc 32) 0,.one (.cb false),.p (.loc 256) 0,.b],[[.y,.str,.str,.f 1,.y,.str,.q 3,.z,.str,.f 1,.q 8,.q 15,.q 15,.q 3,.z],[.z],[.k 0,.k 0,.cb true,.cb false,.cb false,.cb false,.cb false,.cb false,.fn 74 [],.fn 74 []]],fun n b233 _ _ _ _ _ _ _ _ _ _ l11 l12 l13 l14 _ z16=>HE n l11 l12 l13 l14 z16 b233⟩,
 ⟨125,[2,3,4,5,124],[.loc 0,.loc 32,.loc 256],3936,[.p (.loc 0) 0,.p (.loc 32) 0,.one (.cb false),.p (.loc 256) 0,.b],[[.y,.str,.str,.f 1,.y,.str,.q 3,.z,.str,.f 1,.q 8,.q 15,.q 15,.q 3,.z],[.z],[.k 0,.k 0,.cb true,.cb false,.cb false,.cb false,.cb false,.cb false,.fn 74 [],.fn 74 []]],fun n b237 _ _ _ _ _ _ _ _ _ _ l11 l12 l13 l14 _ z16=>F0 n l11 l12 l13 l14 z16 b237⟩]⟩
theorem wR:Cv Tryz.prog inv (OG [wO,pP,wP,wQ,yV]):=gr [wE,wG,pC,wJ,wK,xW,yQ,tR,lP,fR,pG,pI,pK,pM,pO] ⟨⟨Tryz.func127,by kernel_rfl,by kernel_rfl,by kernel_rfl⟩,⟨Tryz.func75,by kernel_rfl,by kernel_rfl,by kernel_rfl⟩,⟨Tryz.func130,by kernel_rfl,by kernel_rfl,by kernel_rfl⟩,⟨Tryz.func129,by kernel_rfl,by kernel_rfl,by kernel_rfl⟩,⟨Tryz.func77,by kernel_rfl,by kernel_rfl,by kernel_rfl⟩,trivial⟩
noncomputable def k77:Kz:=⟨yV.c,wR.2.2.2.2.1⟩
def kO (n:Nat) (z1:Int) (s2:BA) (s3:BA) (l4:LD) (z5:Int) (s6:BA) (l7:LD) (z8:Int) (s9:BA) (l10:LD) (l11:LD) (l12:LD) (l13:LD) (l14:LD) (z15:Int) (z16:Int):Option (Bool×Int):=
 AJ (IntKind.wrap .i64 (z16 - 1)) fun z17=>bO1 (Z8 n z1 s2 s3 l4 z5 s6 l7 z8 s9 l10 l11 l12 l13 l14 z15 z17) fun b18=>some (b18,z16)
noncomputable def X76:BX:=⟨76,Tryz.f76,[.agg [.y,.str,.str,.f 1,.y,.str,.q 3,.z,.str,.f 1,.q 8,.q 15,.q 15,.q 3,.z],.p (.ext 0) 0],[[.z]],⟨.one (.b),[[.z]],[]⟩,Bool×Int,inferInstance,kO,[]⟩
noncomputable def k76:Kz:=sg X76 [k77] Tryz.func76 (by kernel_rfl) (by kernel_rfl) (by kernel_rfl)
mutual
def II:Nat->LD->Int->Int->Int->Option (Bool×Int)
 | 0,_,_,_,_=>none
 | n+1,l1,z2,z4,z5=>
  AE l1 fun z6=>(if z4<z6 then (if z4<z2 then I1 n l1 z2 z4 z5 true else I1 n l1 z2 z4 z5 false)else I1 n l1 z2 z4 z5 false)
def I1:Nat->LD->Int->Int->Int->Bool->Option (Bool×Int)
 | 0,_,_,_,_,_=>none
 | n+1,l1,z2,z4,z5,b7=>
  (if b7=true then Ap l1 z4 fun x8=>BJ x8 fun z9 s10 s11 l12 z13 s14 l15 z16 s17 l18 l19 l20 l21 l22 z23=>bO2 (kO n z9 s10 s11 l12 z13 s14 l15 z16 s17 l18 l19 l20 l21 l22 z23 z5) fun b24 z25=>AL (!b24) fun b26=>(if b26=true then some (false,z25)else AJ (IntKind.wrap .i64 (z4+1)) fun z27=>II n l1 z2 z27 z25)else AE l1 fun z28=>(if z28<=z2 then some (true,z5)else some (false,z5)))
end
def cV (n:Nat) (l1:LD) (z2:Int) (z3:Int):Option (Bool×Int):=
 II n l1 z2 (0:Int) z3
noncomputable def X75:BX:=⟨75,Tryz.f75,[.q 15,.z,.one (.fn 76 [.ext 0])],[[.z]],⟨.one (.b),[[.z]],[]⟩,Bool×Int,inferInstance,cV,[⟨26,[0,1,2,6,7],[.ext 0],64,[.q 15,.z,.one (.fn 76 [.ext 0]),.one (.cb false),.z],[[.z]],fun n l1 z2 z4 z5=>II n l1 z2 z4 z5⟩,
 ⟨209,[0,1,2,6,7,16],[.ext 0],352,[.q 15,.z,.one (.fn 76 [.ext 0]),.one (.cb false),.z,.b],[[.z]],fun n l1 z2 z4 b7 z5=>I1 n l1 z2 z4 z5 b7⟩]⟩
noncomputable def k75:Kz:=sg X75 [k76] Tryz.func75 (by kernel_rfl) (by kernel_rfl) (by kernel_rfl)
theorem T75 (n:Nat):∀⦃l1 z2 z3 r1 r2⦄,cV n l1 z2 z3=some (r1,r2)->
  Ah Tryz.prog inv 75 [.d (.list true 15 l1),.d (.int .i64 z2),.c (.fn 76 [.ext 0])] [.cells [.d (.int .i64 z3)]] (.v (.d (.bool r1))) [.cells [.d (.int .i64 r2)]] []:=fun l1 z2 z3 r1 r2 h=>k75.ok n [.L l1,.I z2,.I z3] _ h _ _ _ _ _ _ rfl rfl rfl rfl _ rfl
def HQ:Nat->Int->BA->LD->Int->BA->LD->LD->Int->Int->BA->BA->BA->LD->LD->Int->Int->Int->Bool->Option (Bool)
 | 0,_,_,_,_,_,_,_,_,_,_,_,_,_,_,_,_,_,_=>none
 | n+1,z1,s2,l3,z4,s5,l6,l7,z8,z9,s10,s11,s12,l13,l14,z15,z16,z17,b61=>
  (if b61=true then bO1 (U3 n s2) fun b62=>(if b62=true then bO18 (fQ n false z1 s2 l3 z4 s5 l6 l7 z8 z9 s10 s11 s12 l13 l14 z15 z16 z17) fun b63 z64 s65 l66 z67 s68 l69 l70 z71 z72 s73 s74 s75 l76 l77 z78 z79 z80=>(if b63=true then AJ (IntKind.wrap .i64 (z80 - 1)) fun z81=>bO1 (PM n z67 s68 l69 z81) fun b82=>(if b82=true then bO1 (U7 n z71 z72 s73 s74 s75 l76 l77 z78) fun b83=>AL (!b83) fun b84=>(if b84=true then AJ (IntKind.wrap .i64 (z80 - 1)) fun z85=>bO1 (Lw n z71 z72 s73 s74 s75 l76 l77 z78 z85) fun b86=>(if b86=true then AE l70 fun z87=>bO2 (cV n l70 z87 z80) fun b88 z89=>some b88 else some false)else some false)else some false)else some false)else some false)else some false)
def HR:Nat->Int->BA->LD->Int->BA->LD->LD->Int->Int->BA->BA->BA->LD->LD->Int->Int->Int->Bool->Bool->Option (Bool)
 | 0,_,_,_,_,_,_,_,_,_,_,_,_,_,_,_,_,_,_,_=>none
 | n+1,z1,s2,l3,z4,s5,l6,l7,z8,z9,s10,s11,s12,l13,l14,z15,z16,z17,b22,b42=>
  (if b42=true then (if b22=true then bO18 (Ni n true z1 s2 l3 z4 s5 l6 l7 z8 z9 s10 s11 s12 l13 l14 z15 z16 z17) fun b43 z44 s45 l46 z47 s48 l49 l50 z51 z52 s53 s54 s55 l56 l57 z58 z59 z60=>some b43 else some false)else (if z1=(3:Int)then HQ n z1 s2 l3 z4 s5 l6 l7 z8 z9 s10 s11 s12 l13 l14 z15 z16 z17 true else HQ n z1 s2 l3 z4 s5 l6 l7 z8 z9 s10 s11 s12 l13 l14 z15 z16 z17 false))
def HS:Nat->Int->BA->LD->Int->BA->LD->LD->Int->Int->BA->BA->BA->LD->LD->Int->Int->Int->Bool->Bool->Option (Bool)
 | 0,_,_,_,_,_,_,_,_,_,_,_,_,_,_,_,_,_,_,_=>none
 | n+1,z1,s2,l3,z4,s5,l6,l7,z8,z9,s10,s11,s12,l13,l14,z15,z16,z17,b22,b23=>
  (if b23=true then (if b22=true then bO18 (fQ n false z1 s2 l3 z4 s5 l6 l7 z8 z9 s10 s11 s12 l13 l14 z15 z16 z17) fun b24 z25 s26 l27 z28 s29 l30 l31 z32 z33 s34 s35 s36 l37 l38 z39 z40 z41=>some b24 else some false)else (if z1=(2:Int)then HR n z1 s2 l3 z4 s5 l6 l7 z8 z9 s10 s11 s12 l13 l14 z15 z16 z17 b22 true else HR n z1 s2 l3 z4 s5 l6 l7 z8 z9 s10 s11 s12 l13 l14 z15 z16 z17 b22 false))
def Fc:Nat->Int->BA->LD->Int->BA->LD->LD->Int->Int->BA->BA->BA->LD->LD->Int->Int->Int->Bool->Option (Bool)
 | 0,_,_,_,_,_,_,_,_,_,_,_,_,_,_,_,_,_,_=>none
 | n+1,z1,s2,l3,z4,s5,l6,l7,z8,z9,s10,s11,s12,l13,l14,z15,z16,z17,b22=>
  (if z1=(1:Int)then HS n z1 s2 l3 z4 s5 l6 l7 z8 z9 s10 s11 s12 l13 l14 z15 z16 z17 b22 true else HS n z1 s2 l3 z4 s5 l6 l7 z8 z9 s10 s11 s12 l13 l14 z15 z16 z17 b22 false)
def cW (n:Nat) (z1:Int) (s2:BA) (l3:LD) (z4:Int) (s5:BA) (l6:LD) (l7:LD) (z8:Int) (z9:Int) (s10:BA) (s11:BA) (s12:BA) (l13:LD) (l14:LD) (z15:Int) (z16:Int) (z17:Int):Option (Bool):=
 bO1 (ZS n z4 s5 l6) fun b18=>(if b18=true then AE l7 fun z19=>(if z19=(0:Int)then bO1 (T1 n z8 z9 s10 s11 s12 l13 l14 z15 (0:Int) (0:Int) ByteArray.empty ByteArray.empty ByteArray.empty ([]:LD) ([]:LD) (0:Int)) fun b20=>(if b20=true then bO1 (XE n s2) fun b21=>Fc n z1 s2 l3 z4 s5 l6 l7 z8 z9 s10 s11 s12 l13 l14 z15 z16 z17 b21 else Fc n z1 s2 l3 z4 s5 l6 l7 z8 z9 s10 s11 s12 l13 l14 z15 z16 z17 false)else Fc n z1 s2 l3 z4 s5 l6 l7 z8 z9 s10 s11 s12 l13 l14 z15 z16 z17 false)else Fc n z1 s2 l3 z4 s5 l6 l7 z8 z9 s10 s11 s12 l13 l14 z15 z16 z17 false)
theorem T37 (n:Nat):∀⦃z1 s2 l3 z4 s5 l6 l7 z8 z9 s10 s11 s12 l13 l14 z15 z16 z17 r1⦄,cW n z1 s2 l3 z4 s5 l6 l7 z8 z9 s10 s11 s12 l13 l14 z15 z16 z17=some r1->
    Ah Tryz.prog inv 37 [.d (.agg [.int .u8 z1,.str s2,.list true 4 l3,.int .u8 z4,.str s5,.list true 3 l6,.list true 15 l7,.int .u8 z8,.int .i64 z9,.str s10,.str s11,.str s12,.list false 1 l13,.list true 8 l14,.int .i64 z15,.int .i64 z16]),.d (.int .i64 z17)] [] (.v (.d (.bool r1))) [] []:=by
 intro z1 s2 l3 z4 s5 l6 l7 z8 z9 s10 s11 s12 l13 l14 z15 z16 z17 r1 h
 unfold cW at h
 refine Ah.of BI Ao Fi Tryz.func37 rfl (by kernel_rfl) rfl rfl rfl (fun M hM hI=>?_)
 try cbv
 refine AB ?_
 try cbv
 refine AB ?_
 try cbv
 refine AK 6 [2,3,4,5,6] [.loc 0,.loc 32] 832 (fun m b=>m<=n/\Fc m z1 s2 l3 z4 s5 l6 l7 z8 z9 s10 s11 s12 l13 l14 z15 z16 z17 b=some r1) ?_ ?_
 ·try cbv
  replace h:=AU h
  obtain⟨b18,hr,h⟩:=h
  refine AZ rfl rfl ?_
  try cbv
  refine AQ hM hI (wA _ hr) rfl ?_
  clear hr
  try cbv
  cases b18
  ·replace h:=Bp h
   try cbv
   exact AA (n,false) [2,3,4,5,6] [.loc 0,.loc 32] 832 ⟨by omega,h⟩ (by cbv)
  replace h:=Bo h
  try cbv
  replace h:=BL M h
  obtain⟨z19,hz,h⟩:=h
  refine⟨z19,hz,?_⟩
  clear hz
  try cbv
  refine Av (fun e=>?_) (fun e=>?_)
  rotate_left
  ·replace h:=Ak e h
   clear e
   try cbv
   exact AA (n,false) [2,3,4,5,6] [.loc 0,.loc 32] 832 ⟨by omega,h⟩ (by cbv)
  replace h:=Aj e h
  clear e
  try cbv
  replace h:=AU h
  obtain⟨b20,hr,h⟩:=h
  refine AZ rfl rfl ?_
  try cbv
  refine AQ hM hI (T62 _ hr) rfl ?_
  clear hr
  try cbv
  cases b20
  ·replace h:=Bp h
   try cbv
   exact AA (n,false) [2,3,4,5,6] [.loc 0,.loc 32] 832 ⟨by omega,h⟩ (by cbv)
  replace h:=Bo h
  try cbv
  replace h:=AU h
  obtain⟨b21,hr,h⟩:=h
  refine AZ rfl rfl ?_
  try cbv
  refine AQ hM hI (tT _ hr) rfl ?_
  clear hr
  try cbv
  exact AA (n,b21) [2,3,4,5,6] [.loc 0,.loc 32] 832 ⟨by omega,h⟩ (by cbv)
 clear h
 rintro⟨m1,b22⟩ ⟨hm1,h⟩
 try cbv
 replace hm1:m1<=n:=hm1
 obtain _ | m1:=m1
 ·replace h:Fc 0 z1 s2 l3 z4 s5 l6 l7 z8 z9 s10 s11 s12 l13 l14 z15 z16 z17 b22=some r1:=h
  rw[Fc]at h
  cases h
 replace h:Fc (m1+1) z1 s2 l3 z4 s5 l6 l7 z8 z9 s10 s11 s12 l13 l14 z15 z16 z17 b22=some r1:=h
 rw[Fc]at h
 try cbv
 refine AB ?_
 try cbv
 refine AB ?_
 try cbv
 refine AK 30 [2,3,4,5,6,29,30] [.loc 0,.loc 32] 960 (fun m b=>m<=m1/\HS m z1 s2 l3 z4 s5 l6 l7 z8 z9 s10 s11 s12 l13 l14 z15 z16 z17 b22 b=some r1) ?_ ?_
 ·try cbv
  refine Av (fun e=>?_) (fun e=>?_)
  ·replace h:=Aj e h
   clear e
   try cbv
   exact AA (m1,true) [2,3,4,5,6,29,30] [.loc 0,.loc 32] 960 ⟨by omega,h⟩ (by cbv)
  replace h:=Ak e h
  clear e
  try cbv
  exact AA (m1,false) [2,3,4,5,6,29,30] [.loc 0,.loc 32] 960 ⟨by omega,h⟩ (by cbv)
 clear h
 rintro⟨m2,b23⟩ ⟨hm2,h⟩
 try cbv
 replace hm2:m2<=m1:=hm2
 obtain _ | m2:=m2
 ·replace h:HS 0 z1 s2 l3 z4 s5 l6 l7 z8 z9 s10 s11 s12 l13 l14 z15 z16 z17 b22 b23=some r1:=h
  rw[HS]at h
  cases h
 replace h:HS (m2+1) z1 s2 l3 z4 s5 l6 l7 z8 z9 s10 s11 s12 l13 l14 z15 z16 z17 b22 b23=some r1:=h
 rw[HS]at h
 try cbv
 cases b23
 rotate_left
 ·replace h:=Bo h
  try cbv
  refine AB ?_
  try cbv
  cases b22
  ·replace h:=Bp h
   try cbv
   obtain rfl:=Option.some.inj h
   refine AR ?_
   try cbv
   exact⟨[],by trivial⟩
  replace h:=Bo h
  try cbv
  replace h:=My h
  obtain⟨b24,z25,s26,l27,z28,s29,l30,l31,z32,z33,s34,s35,s36,l37,l38,z39,z40,z41,hr,h⟩:=h
  refine AZ rfl rfl ?_
  try cbv
  refine Al hM hI [.loc 0,.loc 32] (yR _ hr) rfl (by simp) ⟨rfl,⟨rfl,trivial⟩⟩ ⟨trivial,⟨trivial,trivial⟩⟩ (by simp) ?_
  clear hr
  try cbv
  obtain rfl:=Option.some.inj h
  refine AR ?_
  try cbv
  exact⟨[],by trivial⟩
 replace h:=Bp h
 try cbv
 refine AK 37 [2,3,4,5,6,29,37] [.loc 0,.loc 32] 1024 (fun m b=>m<=m2/\HR m z1 s2 l3 z4 s5 l6 l7 z8 z9 s10 s11 s12 l13 l14 z15 z16 z17 b22 b=some r1) ?_ ?_
 ·try cbv
  refine Av (fun e=>?_) (fun e=>?_)
  ·replace h:=Aj e h
   clear e
   try cbv
   exact AA (m2,true) [2,3,4,5,6,29,37] [.loc 0,.loc 32] 1024 ⟨by omega,h⟩ (by cbv)
  replace h:=Ak e h
  clear e
  try cbv
  exact AA (m2,false) [2,3,4,5,6,29,37] [.loc 0,.loc 32] 1024 ⟨by omega,h⟩ (by cbv)
 clear h
 rintro⟨m3,b42⟩ ⟨hm3,h⟩
 try cbv
 replace hm3:m3<=m2:=hm3
 obtain _ | m3:=m3
 ·replace h:HR 0 z1 s2 l3 z4 s5 l6 l7 z8 z9 s10 s11 s12 l13 l14 z15 z16 z17 b22 b42=some r1:=h
  rw[HR]at h
  cases h
 replace h:HR (m3+1) z1 s2 l3 z4 s5 l6 l7 z8 z9 s10 s11 s12 l13 l14 z15 z16 z17 b22 b42=some r1:=h
 rw[HR]at h
 try cbv
 cases b42
 rotate_left
 ·replace h:=Bo h
  try cbv
  refine AB ?_
  try cbv
  cases b22
  ·replace h:=Bp h
   try cbv
   obtain rfl:=Option.some.inj h
   refine AR ?_
   try cbv
   exact⟨[],by trivial⟩
  replace h:=Bo h
  try cbv
  replace h:=My h
  obtain⟨b43,z44,s45,l46,z47,s48,l49,l50,z51,z52,s53,s54,s55,l56,l57,z58,z59,z60,hr,h⟩:=h
  refine AZ rfl rfl ?_
  try cbv
  refine Al hM hI [.loc 0,.loc 32] (pA _ hr) rfl (by simp) ⟨rfl,⟨rfl,trivial⟩⟩ ⟨trivial,⟨trivial,trivial⟩⟩ (by simp) ?_
  clear hr
  try cbv
  obtain rfl:=Option.some.inj h
  refine AR ?_
  try cbv
  exact⟨[],by trivial⟩
 replace h:=Bp h
 try cbv
 refine AK 44 [2,3,4,5,44] [.loc 0,.loc 32] 1088 (fun m b=>m<=m3/\HQ m z1 s2 l3 z4 s5 l6 l7 z8 z9 s10 s11 s12 l13 l14 z15 z16 z17 b=some r1) ?_ ?_
 ·try cbv
  refine Av (fun e=>?_) (fun e=>?_)
  ·replace h:=Aj e h
   clear e
   try cbv
   exact AA (m3,true) [2,3,4,5,44] [.loc 0,.loc 32] 1088 ⟨by omega,h⟩ (by cbv)
  replace h:=Ak e h
  clear e
  try cbv
  exact AA (m3,false) [2,3,4,5,44] [.loc 0,.loc 32] 1088 ⟨by omega,h⟩ (by cbv)
 clear h
 rintro⟨m4,b61⟩ ⟨hm4,h⟩
 try cbv
 replace hm4:m4<=m3:=hm4
 obtain _ | m4:=m4
 ·replace h:HQ 0 z1 s2 l3 z4 s5 l6 l7 z8 z9 s10 s11 s12 l13 l14 z15 z16 z17 b61=some r1:=h
  rw[HQ]at h
  cases h
 replace h:HQ (m4+1) z1 s2 l3 z4 s5 l6 l7 z8 z9 s10 s11 s12 l13 l14 z15 z16 z17 b61=some r1:=h
 rw[HQ]at h
 try cbv
 cases b61
 ·replace h:=Bp h
  try cbv
  refine AB ?_
  try cbv
  obtain rfl:=Option.some.inj h
  refine AR ?_
  try cbv
  exact⟨[],by trivial⟩
 replace h:=Bo h
 try cbv
 refine AB ?_
 try cbv
 replace h:=AU h
 obtain⟨b62,hr,h⟩:=h
 refine AZ rfl rfl ?_
 try cbv
 refine AQ hM hI (xQ _ hr) rfl ?_
 clear hr
 try cbv
 cases b62
 ·replace h:=Bp h
  try cbv
  obtain rfl:=Option.some.inj h
  refine AR ?_
  try cbv
  exact⟨[],by trivial⟩
 replace h:=Bo h
 try cbv
 replace h:=My h
 obtain⟨b63,z64,s65,l66,z67,s68,l69,l70,z71,z72,s73,s74,s75,l76,l77,z78,z79,z80,hr,h⟩:=h
 refine AZ rfl rfl ?_
 try cbv
 refine Al hM hI [.loc 0,.loc 32] (yR _ hr) rfl (by simp) ⟨rfl,⟨rfl,trivial⟩⟩ ⟨trivial,⟨trivial,trivial⟩⟩ (by simp) ?_
 clear hr
 try cbv
 cases b63
 ·replace h:=Bp h
  try cbv
  obtain rfl:=Option.some.inj h
  refine AR ?_
  try cbv
  exact⟨[],by trivial⟩
 replace h:=Bo h
 try cbv
 replace h:=Ac h
 obtain⟨z81,hz,h⟩:=h
 refine⟨z81,hz,?_⟩
 clear hz
 try cbv
 replace h:=AU h
 obtain⟨b82,hr,h⟩:=h
 refine AZ rfl rfl ?_
 try cbv
 refine AQ hM hI (lQ _ hr) rfl ?_
 clear hr
 try cbv
 cases b82
 ·replace h:=Bp h
  try cbv
  obtain rfl:=Option.some.inj h
  refine AR ?_
  try cbv
  exact⟨[],by trivial⟩
 replace h:=Bo h
 try cbv
 replace h:=AU h
 obtain⟨b83,hr,h⟩:=h
 refine AZ rfl rfl ?_
 try cbv
 refine AQ hM hI (lV _ hr) rfl ?_
 clear hr
 try cbv
 replace h:=CS h
 obtain⟨b84,hz,h⟩:=h
 refine⟨b84,DN hz,?_⟩
 clear hz
 try cbv
 cases b84
 ·replace h:=Bp h
  try cbv
  obtain rfl:=Option.some.inj h
  refine AR ?_
  try cbv
  exact⟨[],by trivial⟩
 replace h:=Bo h
 try cbv
 replace h:=Ac h
 obtain⟨z85,hz,h⟩:=h
 refine⟨z85,hz,?_⟩
 clear hz
 try cbv
 replace h:=AU h
 obtain⟨b86,hr,h⟩:=h
 refine AZ rfl rfl ?_
 try cbv
 refine AQ hM hI (ZT _ hr) rfl ?_
 clear hr
 try cbv
 cases b86
 ·replace h:=Bp h
  try cbv
  obtain rfl:=Option.some.inj h
  refine AR ?_
  try cbv
  exact⟨[],by trivial⟩
 replace h:=Bo h
 try cbv
 replace h:=BL M h
 obtain⟨z87,hz,h⟩:=h
 refine⟨z87,hz,?_⟩
 clear hz
 try cbv
 replace h:=GY h
 obtain⟨b88,z89,hr,h⟩:=h
 refine AZ rfl rfl ?_
 try cbv
 refine Al hM hI [.loc 32] (T75 _ hr) rfl (by simp) ⟨rfl,trivial⟩ ⟨trivial,trivial⟩ (by simp) ?_
 clear hr
 try cbv
 obtain rfl:=Option.some.inj h
 refine AR ?_
 try cbv
 exact⟨[],by trivial⟩
noncomputable def c37:BQ:=⟨37,[.agg [.y,.str,.q 4,.y,.str,.q 3,.q 15,.y,.z,.str,.str,.str,.f 1,.q 8,.z,.z],.z],[],[⟨.one (.b),[],[]⟩],Bool,inferInstance,cW⟩
noncomputable def k37:Kz:=⟨c37,fun n=>Cm fun z1 s2 l3 z4 s5 l6 l7 z8 z9 s10 s11 s12 l13 l14 z15 z16 z17 p h w1 w2 w4 w3 l1 l2 e1 e2 e5 e3 xs e4=>by cases e1;cases e2;cases e4;cases e5;cases e3;exact T37 n h⟩
def ZU (n:Nat) (z1:Int) (s2:BA) (l3:LD) (z4:Int) (s5:BA) (l6:LD) (l7:LD) (z8:Int) (z9:Int) (s10:BA) (s11:BA) (s12:BA) (l13:LD) (l14:LD) (z15:Int) (z16:Int):Option (Bool):=
 bO1 (cW n z1 s2 l3 z4 s5 l6 l7 z8 z9 s10 s11 s12 l13 l14 z15 z16 (39:Int)) fun b17=>some b17
noncomputable def X36:BX:=⟨36,Tryz.f36,[.agg [.y,.str,.q 4,.y,.str,.q 3,.q 15,.y,.z,.str,.str,.str,.f 1,.q 8,.z,.z]],[],⟨.one (.b),[],[]⟩,Bool,inferInstance,ZU,[]⟩
noncomputable def k36:Kz:=sg X36 [k37] Tryz.func36 (by kernel_rfl) (by kernel_rfl) (by kernel_rfl)
mutual
def Nl:Nat->LD->Int->Int->Option (Bool)
 | 0,_,_,_=>none
 | n+1,l1,z2,z3=>
  AE l1 fun z4=>(if z3<z4 then (if z3<z2 then Nn n l1 z2 z3 true else Nn n l1 z2 z3 false)else Nn n l1 z2 z3 false)
def Nn:Nat->LD->Int->Int->Bool->Option (Bool)
 | 0,_,_,_,_=>none
 | n+1,l1,z2,z3,b5=>
  (if b5=true then Ap l1 z3 fun x6=>BU x6 fun z7 s8 l9 z10 s11 l12 l13 z14 z15 s16 s17 s18 l19 l20 z21 z22=>bO1 (ZU n z7 s8 l9 z10 s11 l12 l13 z14 z15 s16 s17 s18 l19 l20 z21 z22) fun b23=>AL (!b23) fun b24=>(if b24=true then some false else AJ (IntKind.wrap .i64 (z3+1)) fun z25=>Nl n l1 z2 z25)else AE l1 fun z26=>(if z26<=z2 then some true else some false))
end
def rZ (n:Nat) (l1:LD) (z2:Int):Option (Bool):=
 Nl n l1 z2 (0:Int)
noncomputable def X35:BX:=⟨35,Tryz.f35,[.q 16,.z,.one (.fn 36 [])],[],⟨.one (.b),[],[]⟩,Bool,inferInstance,rZ,[⟨26,[0,1,2,6,7],[],64,[.q 16,.z,.one (.fn 36 []),.one (.cb false),.z],[],fun n l1 z2 z3=>Nl n l1 z2 z3⟩,
 ⟨209,[0,1,2,6,7,16],[],352,[.q 16,.z,.one (.fn 36 []),.one (.cb false),.z,.b],[],fun n l1 z2 z3 b5=>Nn n l1 z2 z3 b5⟩]⟩
noncomputable def k35:Kz:=sg X35 [k36] Tryz.func35 (by kernel_rfl) (by kernel_rfl) (by kernel_rfl)
def Xf (n:Nat) (l1:LD):Option (Bool):=
 bO1 (rZ n l1 (30:Int)) fun b2=>some b2
noncomputable def sA:BX:=⟨10,Tryz.f10,[.agg [.q 16]],[],⟨.one (.b),[],[]⟩,Bool,inferInstance,Xf,[]⟩
noncomputable def yW:Kz:=sg sA [k35] Tryz.func10 (by kernel_rfl) (by kernel_rfl) (by kernel_rfl)
theorem yX (n:Nat):∀⦃l1 r1⦄,Xf n l1=some r1->
  Ah Tryz.prog inv 10 [.d (.agg [.list true 16 l1])] [] (.v (.d (.bool r1))) [] []:=fun l1 r1 h=>yW.ok n [.L l1] _ h _ _ _ _ _ _ rfl rfl rfl rfl _ rfl
mutual
def Pc:Nat->LD->Int->Int->Int->Option (Int)
 | 0,_,_,_,_=>none
 | n+1,l3,z4,z5,z6=>
  (if z6<z4 then TF n l3 z4 z5 z6 true else TF n l3 z4 z5 z6 false)
def TF:Nat->LD->Int->Int->Int->Bool->Option (Int)
 | 0,_,_,_,_,_=>none
 | n+1,l3,z4,z5,z6,b7=>
  (if b7=true then Ap l3 z6 fun x8=>Cf x8 fun z9 s10 l11=>bO1 (V8 n z9 s10 l11) fun z12=>AJ (if z12>z5 then z12 else z5) fun z13=>AJ (IntKind.wrap .i64 (z6+1)) fun z14=>Pc n l3 z4 z13 z14 else AJ (IntKind.wrap .i64 (z5+1)) fun z15=>some z15)
def V8:Nat->Int->BA->LD->Option (Int)
 | 0,_,_,_=>none
 | n+1,z1,s2,l3=>
  AE l3 fun z4=>Pc n l3 z4 (0:Int) (0:Int)
end
noncomputable def yY:BX:=⟨86,Tryz.f86,[.agg [.y,.str,.q 3]],[],⟨.one (.z),[],[]⟩,Int,inferInstance,V8,[⟨58,[2,3,7,8,9],[],224,[.k 0,.z,.q 3,.z,.z],[],fun n z5 l3 z4 z6=>Pc n l3 z4 z5 z6⟩,
 ⟨233,[2,3,7,8,9,10],[],256,[.k 0,.z,.q 3,.z,.z,.b],[],fun n z5 l3 z4 z6 b7=>TF n l3 z4 z5 z6 b7⟩]⟩
theorem K86:Cv Tryz.prog inv (OG [yY]):=gr [] ⟨⟨Tryz.func86,by kernel_rfl,by kernel_rfl,by kernel_rfl⟩,trivial⟩
noncomputable def yZ:Kz:=⟨yY.c,K86.1⟩
theorem T86 (n:Nat):∀⦃z1 s2 l3 r1⦄,V8 n z1 s2 l3=some r1->
  Ah Tryz.prog inv 86 [.d (.agg [.int .u8 z1,.str s2,.list true 3 l3])] [] (.v (.d (.int .i64 r1))) [] []:=fun z1 s2 l3 r1 h=>yZ.ok n [.I z1,.S s2,.L l3] _ h _ _ _ _ _ _ rfl rfl rfl rfl _ rfl
mutual
def KD:Nat->LD->Int->Int->Int->Option (Int)
 | 0,_,_,_,_=>none
 | n+1,l7,z9,z10,z11=>
  (if z11<z9 then Lj n l7 z9 z10 z11 true else Lj n l7 z9 z10 z11 false)
def Lj:Nat->LD->Int->Int->Int->Bool->Option (Int)
 | 0,_,_,_,_,_=>none
 | n+1,l7,z9,z10,z11,b12=>
  (if b12=true then Ap l7 z11 fun x13=>BD x13 fun z14 z15 s16 s17 s18 l19 l20 z21=>bO1 (T2 n z14 z15 s16 s17 s18 l19 l20 z21) fun z22=>AJ (if z22>z10 then z22 else z10) fun z23=>AJ (IntKind.wrap .i64 (z11+1)) fun z24=>KD n l7 z9 z23 z24 else AJ (IntKind.wrap .i64 (z10+1)) fun z25=>some z25)
def T2:Nat->Int->Int->BA->BA->BA->LD->LD->Int->Option (Int)
 | 0,_,_,_,_,_,_,_,_=>none
 | n+1,z1,z2,s3,s4,s5,l6,l7,z8=>
  AE l7 fun z9=>KD n l7 z9 (0:Int) (0:Int)
end
noncomputable def zA:BX:=⟨87,Tryz.f87,[.agg [.y,.z,.str,.str,.str,.f 1,.q 8,.z]],[],⟨.one (.z),[],[]⟩,Int,inferInstance,T2,[⟨58,[2,3,7,8,9],[],224,[.k 0,.z,.q 8,.z,.z],[],fun n z10 l7 z9 z11=>KD n l7 z9 z10 z11⟩,
 ⟨233,[2,3,7,8,9,10],[],256,[.k 0,.z,.q 8,.z,.z,.b],[],fun n z10 l7 z9 z11 b12=>Lj n l7 z9 z10 z11 b12⟩]⟩
theorem K87:Cv Tryz.prog inv (OG [zA]):=gr [] ⟨⟨Tryz.func87,by kernel_rfl,by kernel_rfl,by kernel_rfl⟩,trivial⟩
noncomputable def zB:Kz:=⟨zA.c,K87.1⟩
theorem T87 (n:Nat):∀⦃z1 z2 s3 s4 s5 l6 l7 z8 r1⦄,T2 n z1 z2 s3 s4 s5 l6 l7 z8=some r1->
  Ah Tryz.prog inv 87 [.d (.agg [.int .u8 z1,.int .i64 z2,.str s3,.str s4,.str s5,.list false 1 l6,.list true 8 l7,.int .i64 z8])] [] (.v (.d (.int .i64 r1))) [] []:=fun z1 z2 s3 s4 s5 l6 l7 z8 r1 h=>zB.ok n [.I z1,.I z2,.S s3,.S s4,.S s5,.L l6,.L l7,.I z8] _ h _ _ _ _ _ _ rfl rfl rfl rfl _ rfl
def cX (n:Nat) (z1:Int) (s2:BA) (s3:BA) (l4:LD) (z5:Int) (s6:BA) (l7:LD) (z8:Int) (s9:BA) (l10:LD) (l11:LD) (l12:LD) (l13:LD) (l14:LD) (z15:Int):Option (Int×BA×BA×LD×Int×BA×LD×Int×BA×LD×LD×LD×LD×LD×Int):=
 some (z1,s2,s3,l4,z5,s6,l7,z8,s9,l10,l11,l12,l13,l14,z15)
noncomputable def X89:BX:=⟨89,Tryz.f89,[.agg [.y,.str,.str,.f 1,.y,.str,.q 3,.z,.str,.f 1,.q 8,.q 15,.q 15,.q 3,.z]],[],⟨.one (.one (.fn 138 [.loc 0])),[],[[.y,.str,.str,.f 1,.y,.str,.q 3,.z,.str,.f 1,.q 8,.q 15,.q 15,.q 3,.z]]⟩,Int×BA×BA×LD×Int×BA×LD×Int×BA×LD×LD×LD×LD×LD×Int,inferInstance,cX,[]⟩
noncomputable def k89:Kz:=sg X89 [] Tryz.func89 (by kernel_rfl) (by kernel_rfl) (by kernel_rfl)
theorem zC (n:Nat):∀⦃z1 s2 s3 l4 z5 s6 l7 z8 s9 l10 l11 l12 l13 l14 z15 r1 r2 r3 r4 r5 r6 r7 r8 r9 r10 r11 r12 r13 r14 r15⦄,cX n z1 s2 s3 l4 z5 s6 l7 z8 s9 l10 l11 l12 l13 l14 z15=some (r1,r2,r3,r4,r5,r6,r7,r8,r9,r10,r11,r12,r13,r14,r15)->
  Ah Tryz.prog inv 89 [.d (.agg [.int .u8 z1,.str s2,.str s3,.list false 1 l4,.int .u8 z5,.str s6,.list true 3 l7,.int .i64 z8,.str s9,.list false 1 l10,.list true 8 l11,.list true 15 l12,.list true 15 l13,.list true 3 l14,.int .i64 z15])] [] (.v (.c (.fn 138 [.loc 0]))) [] [.cells [.d (.int .u8 r1),.d (.str r2),.d (.str r3),.d (.list false 1 r4),.d (.int .u8 r5),.d (.str r6),.d (.list true 3 r7),.d (.int .i64 r8),.d (.str r9),.d (.list false 1 r10),.d (.list true 8 r11),.d (.list true 15 r12),.d (.list true 15 r13),.d (.list true 3 r14),.d (.int .i64 r15)]]:=fun z1 s2 s3 l4 z5 s6 l7 z8 s9 l10 l11 l12 l13 l14 z15 r1 r2 r3 r4 r5 r6 r7 r8 r9 r10 r11 r12 r13 r14 r15 h=>k89.ok n [.I z1,.S s2,.S s3,.L l4,.I z5,.S s6,.L l7,.I z8,.S s9,.L l10,.L l11,.L l12,.L l13,.L l14,.I z15] _ h _ _ _ _ _ _ rfl rfl rfl rfl _ rfl
end Go.Proofs.YtjmofeakajdbiaaGreatDoor
end
