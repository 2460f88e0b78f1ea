/- TreeBlock. No condition. (Part 6.) -/
import Derived.Carry
import Derived.ChangeSame
import Derived.ChangeOld
import Derived.ChangeCalls
import Derived.WideShapes
import Derived.Test.YtjmofeakajdbiaaGreatDoorRows
import Derived.Test.YtjmofeakajdbiaaGreatDoorTie
import Derived.Test.YtjmofeakajdbiaaGreatDoorCards
import Derived.JoinedOf
import Derived.JoinedAt
import Derived.RowKit
import Derived.RowKit2
import Derived.ReadAgain
import Derived.ChangeAlike
import Derived.Lay
import Derived.Handed
import Derived.LaidSub
import Derived.LaidLaws
import Derived.LaidHandle
import Derived.MakeChecks
import Derived.SevenTiedAt
import Derived.Lib.LaidTab
import Derived.Lib.LaidU8
import Derived.Test.YtjmofeakajdbiaaGreatDoorBloE
set_option linter.unusedVariables false
set_option linter.unusedSimpArgs false
set_option maxRecDepth 100000
set_option maxHeartbeats 40000000
set_option linter.unusedVariables false
noncomputable section
namespace Go.Proofs.YtjmofeakajdbiaaGreatDoor
open Go Go.AM
mutual
def L66_1:Nat->LD->Int->Int->Option (Int)
 | 0,_,_,_=>none
 | n+1,l1,z4,z5=>
  lenF l1 fun z6=>(if z4<z6 then (if (0:Int)<=z5 then L66_2 n l1 z4 z5 true else L66_2 n l1 z4 z5 false)else L66_2 n l1 z4 z5 false)
def L66_2:Nat->LD->Int->Int->Bool->Option (Int)
 | 0,_,_,_,_=>none
 | n+1,l1,z4,z5,b7=>
  (if b7=true then getF l1 z4 fun x8=>ds_str x8 fun s9=>bO1 (F26 n s9 z5) fun z10=>letF (IntKind.wrap .i64 (z4+1)) fun z11=>L66_1 n l1 z11 z10 else some z5)
end
def F66 (n:Nat) (l1:LD) (z2:Int):Option (Int):=
 letF (IntKind.wrap .i64 (z2 - 5)) fun z3=>L66_1 n l1 (0:Int) z3
theorem T66 (n:Nat):∀⦃l1 z2 r1⦄,F66 n l1 z2=some r1->
    Trip Tryz.prog inv 66 [.c (.ptr (.ext 0) 0),.d (.list false 1 l1)] [.cells [.d (.int .i64 z2)]] (.t []) [.cells [.d (.int .i64 r1)]] []:=by
 intro l1 z2 r1 h
 unfold F66 at h
 refine Trip.of tab_ok tab_one fol Tryz.func66 rfl (by kernel_rfl) rfl rfl rfl (fun M hM hI=>?_)
 try cbv
 refine seq_go ?_
 try cbv
 replace h:=letF_inv h
 obtain⟨z3,hz,h⟩:=h
 refine⟨z3,hz,?_⟩
 clear hz
 try cbv
 refine seq_go ?_
 try cbv
 refine loop_inv (T:=Nat×Int×Int) [0,1,4] [.ext 0] 320 (fun t=>⟨[sE 0 0,sF 1 1 l1,sI 4 t.2.1],[(.ext 0,.cells [.d (.int .i64 t.2.2)])],320⟩)
   (fun t=>t.1<=n/\L66_1 t.1 l1 t.2.1 t.2.2=some r1) (fun t=>t.1) (n,((0:Int),z3)) ⟨Nat.le_refl _,h⟩ (by cbv) ?_
 clear h
 rintro⟨m1,z4,z5⟩ ⟨hm1,h⟩
 replace hm1:m1<=n:=hm1
 obtain _ | m1:=m1
 ·replace h:L66_1 0 l1 z4 z5=some r1:=h
  rw[L66_1]at h
  cases h
 replace h:L66_1 (m1+1) l1 z4 z5=some r1:=h
 rw[L66_1]at h
 try cbv
 refine seq_go ?_
 try cbv
 refine seq_joinB 23 [0,1,4,23] [.ext 0] 672 (fun m b=>m<=m1/\L66_2 m l1 z4 z5 b=some r1) ?_ ?_
 ·try cbv
  replace h:=lenF_inv M h
  obtain⟨z6,hz,h⟩:=h
  refine⟨z6,hz,?_⟩
  clear hz
  try cbv
  refine splitL (fun e=>?_) (fun e=>?_)
  ·replace h:=ite_t e h
   clear e
   try cbv
   refine splitLe (fun e=>?_) (fun e=>?_)
   ·replace h:=ite_t e h
    clear e
    try cbv
    exact join_next (m1,true) [0,1,4,23] [.ext 0] 672 ⟨by omega,h⟩ (by cbv)
   replace h:=ite_f (Int.not_le.2 e) h
   clear e
   try cbv
   exact join_next (m1,false) [0,1,4,23] [.ext 0] 672 ⟨by omega,h⟩ (by cbv)
  replace h:=ite_f (Int.not_lt.2 e) h
  clear e
  try cbv
  exact join_next (m1,false) [0,1,4,23] [.ext 0] 672 ⟨by omega,h⟩ (by cbv)
 clear h
 rintro⟨m2,b7⟩ ⟨hm2,h⟩
 try cbv
 replace hm2:m2<=m1:=hm2
 obtain _ | m2:=m2
 ·replace h:L66_2 0 l1 z4 z5 b7=some r1:=h
  rw[L66_2]at h
  cases h
 replace h:L66_2 (m2+1) l1 z4 z5 b7=some r1:=h
 rw[L66_2]at h
 try cbv
 cases b7
 ·replace h:=itF h
  try cbv
  obtain rfl:=Option.some.inj h
  refine fin_go ?_
  try cbv
  exact⟨[],rfl,rfl,⟨rfl,trivial⟩,trivial,trivial⟩
 replace h:=itT h
 try cbv
 refine seq_go ?_
 try cbv
 replace h:=getF_inv h
 obtain⟨x8,⟨hx0,hx⟩,h⟩:=h
 refine⟨x8,hx0,hx,?_⟩
 clear hx0 hx
 replace h:=ds_str_inv h
 obtain⟨s9,rfl,h⟩:=h
 try cbv
 replace h:=bO1_inv h
 obtain⟨z10,hr,h⟩:=h
 refine call_go rfl rfl ?_
 try cbv
 refine call_with hM hI [.ext 0] (T26 _ hr) rfl (by simp) ⟨rfl,trivial⟩ ⟨trivial,trivial⟩ (by simp) ?_
 clear hr
 try cbv
 replace h:=letF_inv h
 obtain⟨z11,hz,h⟩:=h
 refine⟨z11,hz,?_⟩
 clear hz
 try cbv
 exact loop_next (m2,(z11,z10)) [0,1,4] [.ext 0] 320 ⟨by omega,h⟩ (Nat.lt_succ_of_le (by omega)) (by cbv)
def F67 (n:Nat) (s1:BA) (l2:LD) (z3:Int):Option (Int):=
 bO1 (F26 n s1 z3) fun z4=>bO1 (F66 n l2 z4) fun z5=>some z5
theorem T67 (n:Nat):∀⦃s1 l2 z3 r1⦄,F67 n s1 l2 z3=some r1->
    Trip Tryz.prog inv 67 [.c (.ptr (.ext 0) 0),.d (.agg [.str s1,.list false 1 l2])] [.cells [.d (.int .i64 z3)]] (.t []) [.cells [.d (.int .i64 r1)]] []:=by
 intro s1 l2 z3 r1 h
 unfold F67 at h
 refine Trip.of tab_ok tab_one fol Tryz.func67 rfl (by kernel_rfl) rfl rfl rfl (fun M hM hI=>?_)
 try cbv
 refine seq_go ?_
 try cbv
 refine seq_go ?_
 try cbv
 replace h:=bO1_inv h
 obtain⟨z4,hr,h⟩:=h
 refine call_go rfl rfl ?_
 try cbv
 refine call_with hM hI [.ext 0] (T26 _ hr) rfl (by simp) ⟨rfl,trivial⟩ ⟨trivial,trivial⟩ (by simp) ?_
 clear hr
 try cbv
 replace h:=bO1_inv h
 obtain⟨z5,hr,h⟩:=h
 refine call_go rfl rfl ?_
 try cbv
 refine call_with hM hI [.ext 0] (T66 _ hr) rfl (by simp) ⟨rfl,trivial⟩ ⟨trivial,trivial⟩ (by simp) ?_
 clear hr
 try cbv
 obtain rfl:=Option.some.inj h
 refine fin_go ?_
 try cbv
 exact⟨[],rfl,rfl,⟨rfl,trivial⟩,trivial,trivial⟩
mutual
def L30_1:Nat->LD->Int->Int->Option (Int)
 | 0,_,_,_=>none
 | n+1,l7,z13,z14=>
  lenF l7 fun z15=>(if z13<z15 then (if (0:Int)<=z14 then L30_2 n l7 z13 z14 true else L30_2 n l7 z13 z14 false)else L30_2 n l7 z13 z14 false)
def L30_2:Nat->LD->Int->Int->Bool->Option (Int)
 | 0,_,_,_,_=>none
 | n+1,l7,z13,z14,b16=>
  (if b16=true then getF l7 z13 fun x17=>ds_t39 x17 fun z18 z19 s20 s21 s22 l23 l24 z25=>bO1 (F30 n z18 z19 s20 s21 s22 l23 l24 z25 z14) fun z26=>letF (IntKind.wrap .i64 (z13+1)) fun z27=>L30_1 n l7 z27 z26 else some z14)
def F30:Nat->Int->Int->BA->BA->BA->LD->LD->Int->Int->Option (Int)
 | 0,_,_,_,_,_,_,_,_,_=>none
 | n+1,z1,z2,s3,s4,s5,l6,l7,z8,z9=>
  bO1 (F26 n s3 z9) fun z10=>bO1 (F26 n s4 z10) fun z11=>bO1 (F67 n s5 l6 z11) fun z12=>L30_1 n l7 (0:Int) z12
end
theorem T30 (n:Nat):∀⦃z1 z2 s3 s4 s5 l6 l7 z8 z9 r1⦄,F30 n z1 z2 s3 s4 s5 l6 l7 z8 z9=some r1->
    Trip Tryz.prog inv 30 [.c (.ptr (.ext 0) 0),.d (.agg [.int .u8 z1,.int .i64 z2,.str s3,.str s4,.str s5,.list false 1 l6,.list true 8 l7,.int .i64 z8])] [.cells [.d (.int .i64 z9)]] (.t []) [.cells [.d (.int .i64 r1)]] []:=by
 induction n using Nat.strongRecOn with | _ n ih=>
 obtain _ | n:=n
 ·intro z1 z2 s3 s4 s5 l6 l7 z8 z9 r1 h
  cases (show (none:Option _)=some _ from h)
 intro z1 z2 s3 s4 s5 l6 l7 z8 z9 r1 h
 rw[F30]at h
 refine Trip.of tab_ok tab_one fol Tryz.func30 rfl (by kernel_rfl) rfl rfl rfl (fun M hM hI=>?_)
 try cbv
 refine seq_go ?_
 try cbv
 refine seq_go ?_
 try cbv
 replace h:=bO1_inv h
 obtain⟨z10,hr,h⟩:=h
 refine call_go rfl rfl ?_
 try cbv
 refine call_with hM hI [.ext 0] (T26 _ hr) rfl (by simp) ⟨rfl,trivial⟩ ⟨trivial,trivial⟩ (by simp) ?_
 clear hr
 try cbv
 refine seq_go ?_
 try cbv
 replace h:=bO1_inv h
 obtain⟨z11,hr,h⟩:=h
 refine call_go rfl rfl ?_
 try cbv
 refine call_with hM hI [.ext 0] (T26 _ hr) rfl (by simp) ⟨rfl,trivial⟩ ⟨trivial,trivial⟩ (by simp) ?_
 clear hr
 try cbv
 refine seq_go ?_
 try cbv
 replace h:=bO1_inv h
 obtain⟨z12,hr,h⟩:=h
 refine call_go rfl rfl ?_
 try cbv
 refine call_with hM hI [.ext 0] (T67 _ hr) rfl (by simp) ⟨rfl,trivial⟩ ⟨trivial,trivial⟩ (by simp) ?_
 clear hr
 try cbv
 refine seq_go ?_
 try cbv
 refine loop_inv (T:=Nat×Int×Int) [0,3,4] [.ext 0,.loc 0] 448 (fun t=>⟨[sE 0 0,sL 3 0,sI 4 t.2.1],[(.ext 0,.cells [.d (.int .i64 t.2.2)]),(.loc 0,.cells [.d (.int .u8 z1),.d (.int .i64 z2),.d (.str s3),.d (.str s4),.d (.str s5),.d (.list false 1 l6),.d (.list true 8 l7),.d (.int .i64 z8)])],448⟩)
   (fun t=>t.1<=n/\L30_1 t.1 l7 t.2.1 t.2.2=some r1) (fun t=>t.1) (n,((0:Int),z12)) ⟨Nat.le_refl _,h⟩ (by cbv) ?_
 clear h
 rintro⟨m1,z13,z14⟩ ⟨hm1,h⟩
 replace hm1:m1<=n:=hm1
 obtain _ | m1:=m1
 ·replace h:L30_1 0 l7 z13 z14=some r1:=h
  rw[L30_1]at h
  cases h
 replace h:L30_1 (m1+1) l7 z13 z14=some r1:=h
 rw[L30_1]at h
 try cbv
 refine seq_go ?_
 try cbv
 refine seq_joinB 28 [0,3,4,28] [.ext 0,.loc 0] 832 (fun m b=>m<=m1/\L30_2 m l7 z13 z14 b=some r1) ?_ ?_
 ·try cbv
  replace h:=lenF_inv M h
  obtain⟨z15,hz,h⟩:=h
  refine⟨z15,hz,?_⟩
  clear hz
  try cbv
  refine splitL (fun e=>?_) (fun e=>?_)
  ·replace h:=ite_t e h
   clear e
   try cbv
   refine splitLe (fun e=>?_) (fun e=>?_)
   ·replace h:=ite_t e h
    clear e
    try cbv
    exact join_next (m1,true) [0,3,4,28] [.ext 0,.loc 0] 832 ⟨by omega,h⟩ (by cbv)
   replace h:=ite_f (Int.not_le.2 e) h
   clear e
   try cbv
   exact join_next (m1,false) [0,3,4,28] [.ext 0,.loc 0] 832 ⟨by omega,h⟩ (by cbv)
  replace h:=ite_f (Int.not_lt.2 e) h
  clear e
  try cbv
  exact join_next (m1,false) [0,3,4,28] [.ext 0,.loc 0] 832 ⟨by omega,h⟩ (by cbv)
 clear h
 rintro⟨m2,b16⟩ ⟨hm2,h⟩
 try cbv
 replace hm2:m2<=m1:=hm2
 obtain _ | m2:=m2
 ·replace h:L30_2 0 l7 z13 z14 b16=some r1:=h
  rw[L30_2]at h
  cases h
 replace h:L30_2 (m2+1) l7 z13 z14 b16=some r1:=h
 rw[L30_2]at h
 try cbv
 cases b16
 ·replace h:=itF h
  try cbv
  obtain rfl:=Option.some.inj h
  refine fin_go ?_
  try cbv
  exact⟨[],rfl,rfl,⟨rfl,trivial⟩,trivial,trivial⟩
 replace h:=itT h
 try cbv
 refine seq_go ?_
 try cbv
 replace h:=getF_inv h
 obtain⟨x17,⟨hx0,hx⟩,h⟩:=h
 refine⟨x17,hx0,hx,?_⟩
 clear hx0 hx
 replace h:=ds_t39_inv h
 obtain⟨z18,z19,s20,s21,s22,l23,l24,z25,rfl,h⟩:=h
 try cbv
 replace h:=bO1_inv h
 obtain⟨z26,hr,h⟩:=h
 refine call_go rfl rfl ?_
 try cbv
 refine call_with hM hI [.ext 0] ((ih _ (by omega)) hr) rfl (by simp) ⟨rfl,trivial⟩ ⟨trivial,trivial⟩ (by simp) ?_
 clear hr
 try cbv
 replace h:=letF_inv h
 obtain⟨z27,hz,h⟩:=h
 refine⟨z27,hz,?_⟩
 clear hz
 try cbv
 exact loop_next (m2,(z27,z26)) [0,3,4] [.ext 0,.loc 0] 448 ⟨by omega,h⟩ (Nat.lt_succ_of_le (by omega)) (by cbv)
end Go.Proofs.YtjmofeakajdbiaaGreatDoor
end
set_option linter.unusedVariables false
noncomputable section
namespace Go.Proofs.YtjmofeakajdbiaaGreatDoor
open Go Go.AM
theorem llen3 {l:List D}(h:l.length=3):∃x0 x1 x2,l=[x0,x1,x2]:=by
 match l,h with
 | [x0,x1,x2],_=>exact⟨x0,x1,x2,rfl⟩
theorem llen8 {l:List D}(h:l.length=8):∃x0 x1 x2 x3 x4 x5 x6 x7,l=[x0,x1,x2,x3,x4,x5,x6,x7]:=by
 match l,h with
 | [x0,x1,x2,x3,x4,x5,x6,x7],_=>exact⟨x0,x1,x2,x3,x4,x5,x6,x7,rfl⟩
theorem llen15 {l:List D}(h:l.length=15):∃x0 x1 x2 x3 x4 x5 x6 x7 x8 x9 x10 x11 x12 x13 x14,l=[x0,x1,x2,x3,x4,x5,x6,x7,x8,x9,x10,x11,x12,x13,x14]:=by
 match l,h with
 | [x0,x1,x2,x3,x4,x5,x6,x7,x8,x9,x10,x11,x12,x13,x14],_=>exact⟨x0,x1,x2,x3,x4,x5,x6,x7,x8,x9,x10,x11,x12,x13,x14,rfl⟩
theorem rs9 {x:D}(h:RowS tab 9 x):∃a0,x= .str a0∧a0.size≤maxLen:=by
 have hs:=h.flat1 (y:=tyD tab 9) (by kernel_rfl) rfl
 have hl:=hs.flat 9 9 [9] [x] (by kernel_rfl)
 obtain⟨a0,rfl,w0⟩:=(hl.2 0 x 9 rfl rfl).strS (x:=tyD tab 9) (by kernel_rfl) rfl
 exact⟨_,rfl,w0⟩
theorem rs33 {x:D}(h:RowS tab 33 x):∃a0 a1 a2,x= .agg [.int .u8 a0,.str a1,.list true 3 a2]∧(Lit.int .u8 a0).wf=true∧a1.size≤maxLen∧ListS tab 33 a2:=by
 obtain⟨cs,rfl,hs⟩:=h.agg (y:=tyD tab 33) (by kernel_rfl) rfl
 have hl:=hs.flat 9 33 [5,9,31] cs (by kernel_rfl)
 obtain⟨b0,b1,b2,rfl⟩:=llen3 hl.1
 obtain⟨a0,rfl,w0⟩:=(hl.2 0 b0 5 rfl rfl).intS (x:=tyD tab 5) (by kernel_rfl) rfl
 obtain⟨a1,rfl,w1⟩:=(hl.2 1 b1 9 rfl rfl).strS (x:=tyD tab 9) (by kernel_rfl) rfl
 obtain⟨a2,e2,w2⟩:=(hl.2 2 b2 31 rfl rfl).listS (x:=tyD tab 31) (y:=tyD tab 33) (by kernel_rfl) rfl (by kernel_rfl)
 obtain rfl:b2= .list true 3 a2:=e2
 exact⟨_,_,_,rfl,w0,w1,w2⟩
theorem rs39 {x:D}(h:RowS tab 39 x):∃a0 a1 a2 a3 a4 a5 a6 a7,x= .agg [.int .u8 a0,.int .i64 a1,.str a2,.str a3,.str a4,.list false 1 a5,.list true 8 a6,.int .i64 a7]∧(Lit.int .u8 a0).wf=true∧(Lit.int .i64 a1).wf=true∧a2.size≤maxLen∧a3.size≤maxLen∧a4.size≤maxLen∧ListS tab 9 a5∧ListS tab 39 a6∧(Lit.int .i64 a7).wf=true:=by
 obtain⟨cs,rfl,hs⟩:=h.agg (y:=tyD tab 39) (by kernel_rfl) rfl
 have hl:=hs.flat 9 39 [5,2,9,9,9,34,37,3] cs (by kernel_rfl)
 obtain⟨b0,b1,b2,b3,b4,b5,b6,b7,rfl⟩:=llen8 hl.1
 obtain⟨a0,rfl,w0⟩:=(hl.2 0 b0 5 rfl rfl).intS (x:=tyD tab 5) (by kernel_rfl) rfl
 obtain⟨a1,rfl,w1⟩:=(hl.2 1 b1 2 rfl rfl).intS (x:=tyD tab 2) (by kernel_rfl) rfl
 obtain⟨a2,rfl,w2⟩:=(hl.2 2 b2 9 rfl rfl).strS (x:=tyD tab 9) (by kernel_rfl) rfl
 obtain⟨a3,rfl,w3⟩:=(hl.2 3 b3 9 rfl rfl).strS (x:=tyD tab 9) (by kernel_rfl) rfl
 obtain⟨a4,rfl,w4⟩:=(hl.2 4 b4 9 rfl rfl).strS (x:=tyD tab 9) (by kernel_rfl) rfl
 obtain⟨a5,e5,w5⟩:=(hl.2 5 b5 34 rfl rfl).listS (x:=tyD tab 34) (y:=tyD tab 9) (by kernel_rfl) rfl (by kernel_rfl)
 obtain rfl:b5= .list false 1 a5:=e5
 obtain⟨a6,e6,w6⟩:=(hl.2 6 b6 37 rfl rfl).listS (x:=tyD tab 37) (y:=tyD tab 39) (by kernel_rfl) rfl (by kernel_rfl)
 obtain rfl:b6= .list true 8 a6:=e6
 obtain⟨a7,rfl,w7⟩:=(hl.2 7 b7 3 rfl rfl).intS (x:=tyD tab 3) (by kernel_rfl) rfl
 exact⟨_,_,_,_,_,_,_,_,rfl,w0,w1,w2,w3,w4,w5,w6,w7⟩
theorem rs50 {x:D}(h:RowS tab 50 x):∃a0 a1 a2 a3 a4 a5 a6 a7 a8 a9 a10 a11 a12 a13 a14,x= .agg [.int .u8 a0,.str a1,.str a2,.list false 1 a3,.int .u8 a4,.str a5,.list true 3 a6,.int .i64 a7,.str a8,.list false 1 a9,.list true 8 a10,.list true 15 a11,.list true 15 a12,.list true 3 a13,.int .i64 a14]∧(Lit.int .u8 a0).wf=true∧a1.size≤maxLen∧a2.size≤maxLen∧ListS tab 9 a3∧(Lit.int .u8 a4).wf=true∧a5.size≤maxLen∧ListS tab 33 a6∧(Lit.int .i64 a7).wf=true∧a8.size≤maxLen∧ListS tab 9 a9∧ListS tab 39 a10∧ListS tab 50 a11∧ListS tab 50 a12∧ListS tab 95 a13∧(Lit.int .i64 a14).wf=true:=by
 obtain⟨cs,rfl,hs⟩:=h.agg (y:=tyD tab 50) (by kernel_rfl) rfl
 have hl:=hs.flat 9 50 [5,9,9,34,5,9,31,2,9,34,37,43,43,48,3] cs (by kernel_rfl)
 obtain⟨b0,b1,b2,b3,b4,b5,b6,b7,b8,b9,b10,b11,b12,b13,b14,rfl⟩:=llen15 hl.1
 obtain⟨a0,rfl,w0⟩:=(hl.2 0 b0 5 rfl rfl).intS (x:=tyD tab 5) (by kernel_rfl) rfl
 obtain⟨a1,rfl,w1⟩:=(hl.2 1 b1 9 rfl rfl).strS (x:=tyD tab 9) (by kernel_rfl) rfl
 obtain⟨a2,rfl,w2⟩:=(hl.2 2 b2 9 rfl rfl).strS (x:=tyD tab 9) (by kernel_rfl) rfl
 obtain⟨a3,e3,w3⟩:=(hl.2 3 b3 34 rfl rfl).listS (x:=tyD tab 34) (y:=tyD tab 9) (by kernel_rfl) rfl (by kernel_rfl)
 obtain rfl:b3= .list false 1 a3:=e3
 obtain⟨a4,rfl,w4⟩:=(hl.2 4 b4 5 rfl rfl).intS (x:=tyD tab 5) (by kernel_rfl) rfl
 obtain⟨a5,rfl,w5⟩:=(hl.2 5 b5 9 rfl rfl).strS (x:=tyD tab 9) (by kernel_rfl) rfl
 obtain⟨a6,e6,w6⟩:=(hl.2 6 b6 31 rfl rfl).listS (x:=tyD tab 31) (y:=tyD tab 33) (by kernel_rfl) rfl (by kernel_rfl)
 obtain rfl:b6= .list true 3 a6:=e6
 obtain⟨a7,rfl,w7⟩:=(hl.2 7 b7 2 rfl rfl).intS (x:=tyD tab 2) (by kernel_rfl) rfl
 obtain⟨a8,rfl,w8⟩:=(hl.2 8 b8 9 rfl rfl).strS (x:=tyD tab 9) (by kernel_rfl) rfl
 obtain⟨a9,e9,w9⟩:=(hl.2 9 b9 34 rfl rfl).listS (x:=tyD tab 34) (y:=tyD tab 9) (by kernel_rfl) rfl (by kernel_rfl)
 obtain rfl:b9= .list false 1 a9:=e9
 obtain⟨a10,e10,w10⟩:=(hl.2 10 b10 37 rfl rfl).listS (x:=tyD tab 37) (y:=tyD tab 39) (by kernel_rfl) rfl (by kernel_rfl)
 obtain rfl:b10= .list true 8 a10:=e10
 obtain⟨a11,e11,w11⟩:=(hl.2 11 b11 43 rfl rfl).listS (x:=tyD tab 43) (y:=tyD tab 50) (by kernel_rfl) rfl (by kernel_rfl)
 obtain rfl:b11= .list true 15 a11:=e11
 obtain⟨a12,e12,w12⟩:=(hl.2 12 b12 43 rfl rfl).listS (x:=tyD tab 43) (y:=tyD tab 50) (by kernel_rfl) rfl (by kernel_rfl)
 obtain rfl:b12= .list true 15 a12:=e12
 obtain⟨a13,e13,w13⟩:=(hl.2 13 b13 48 rfl rfl).listS (x:=tyD tab 48) (y:=tyD tab 95) (by kernel_rfl) rfl (by kernel_rfl)
 obtain rfl:b13= .list true 3 a13:=e13
 obtain⟨a14,rfl,w14⟩:=(hl.2 14 b14 3 rfl rfl).intS (x:=tyD tab 3) (by kernel_rfl) rfl
 exact⟨_,_,_,_,_,_,_,_,_,_,_,_,_,_,_,rfl,w0,w1,w2,w3,w4,w5,w6,w7,w8,w9,w10,w11,w12,w13,w14⟩
theorem rs95 {x:D}(h:RowS tab 95 x):∃a0 a1 a2,x= .agg [.str a0,.str a1,.list true 15 a2]∧a0.size≤maxLen∧a1.size≤maxLen∧ListS tab 50 a2:=by
 obtain⟨cs,rfl,hs⟩:=h.agg (y:=tyD tab 95) (by kernel_rfl) rfl
 have hl:=hs.flat 9 95 [9,9,43] cs (by kernel_rfl)
 obtain⟨b0,b1,b2,rfl⟩:=llen3 hl.1
 obtain⟨a0,rfl,w0⟩:=(hl.2 0 b0 9 rfl rfl).strS (x:=tyD tab 9) (by kernel_rfl) rfl
 obtain⟨a1,rfl,w1⟩:=(hl.2 1 b1 9 rfl rfl).strS (x:=tyD tab 9) (by kernel_rfl) rfl
 obtain⟨a2,e2,w2⟩:=(hl.2 2 b2 43 rfl rfl).listS (x:=tyD tab 43) (y:=tyD tab 50) (by kernel_rfl) rfl (by kernel_rfl)
 obtain rfl:b2= .list true 15 a2:=e2
 exact⟨_,_,_,rfl,w0,w1,w2⟩
end Go.Proofs.YtjmofeakajdbiaaGreatDoor
end
set_option linter.unusedVariables false
noncomputable section
namespace Go.Proofs.YtjmofeakajdbiaaGreatDoor
open Go Go.AM
theorem ilt {i N:Nat}(h:i<N):(i:Int)<(N:Int):=Int.ofNat_lt.2 h
end Go.Proofs.YtjmofeakajdbiaaGreatDoor
set_option linter.unusedVariables false
noncomputable section
namespace Go.Proofs.YtjmofeakajdbiaaGreatDoor
open Go Go.AM
def L132_1:Nat->Int->Bool->Option (BA)
 | 0,_,_=>none
 | n+1,z1,b3=>
  (if b3=true then some ByteArray.empty else getF ([.str ByteArray.empty,.str k_i0,.str k_b0,.str k_0,.str k_p0,.str k_p0,.str k_p0,.str k_1,.str k_1,.str k_2,.str k_2,.str k_2,.str k_2,.str k_2,.str k_2,.str k_2,.str k_2,.str k_2,.str k_n6,.str k_tf6,.str k_tv9,.str k_1,.str k_1,.str k_1,.str k_p0,.str k_p1,.str k_1,.str k_1,.str k_p0,.str k_1,.str k_1,.str k_1,.str k_p0,.str k_p1,.str k_p1,.str k_p1,.str k_p0]) z1 fun x4=>ds_str x4 fun s5=>some s5)
def F132 (n:Nat) (z1:Int):Option (BA):=
 letF (IntKind.wrap .i64 z1) fun z2=>(if (37:Int)<=z2 then L132_1 n z1 true else L132_1 n z1 false)
def L133_2:Nat->BA->Int->Bool->Option (Bool)
 | 0,_,_,_=>none
 | n+1,s1,z2,b7=>
  (if b7=true then (if z2<=(1:Int)then some true else some false)else szF s1 fun z8=>letF (IntKind.wrap .i64 (z8 - 1)) fun z9=>atF s1 z9 fun z10=>letF (IntKind.wrap .u8 (z10 - 48)) fun z11=>letF (IntKind.wrap .i64 z11) fun z12=>(if z2=z12 then some true else some false))
def L133_1:Nat->BA->Int->Int->Bool->Option (Bool)
 | 0,_,_,_,_=>none
 | n+1,s1,z2,z5,b6=>
  (if b6=true then (if z2<=(6:Int)then some true else some false)else (if z5=(57:Int)then L133_2 n s1 z2 true else L133_2 n s1 z2 false))
def F133 (n:Nat) (s1:BA) (z2:Int):Option (Bool):=
 szF s1 fun z3=>letF (IntKind.wrap .i64 (z3 - 1)) fun z4=>atF s1 z4 fun z5=>(if z5=(54:Int)then L133_1 n s1 z2 z5 true else L133_1 n s1 z2 z5 false)
mutual
def L134_1:Nat->BA->Int->Int->Option (Bool)
 | 0,_,_,_=>none
 | n+1,s1,z2,z3=>
  szF s1 fun z4=>(if z3<z4 then L134_2 n s1 z2 z3 true else L134_2 n s1 z2 z3 false)
def L134_2:Nat->BA->Int->Int->Bool->Option (Bool)
 | 0,_,_,_,_=>none
 | n+1,s1,z2,z3,b5=>
  (if b5=true then atF s1 z3 fun z6=>(if z6=z2 then L134_3 n s1 z2 z3 true else L134_3 n s1 z2 z3 false)else some false)
def L134_3:Nat->BA->Int->Int->Bool->Option (Bool)
 | 0,_,_,_,_=>none
 | n+1,s1,z2,z3,b7=>
  (if b7=true then some true else letF (IntKind.wrap .i64 (z3+1)) fun z8=>L134_1 n s1 z2 z8)
end
def F134 (n:Nat) (s1:BA) (z2:Int):Option (Bool):=
 L134_1 n s1 z2 (0:Int)
mutual
def L135_2:Nat->LD->Int->Option (Bool)
 | 0,_,_=>none
 | n+1,l2,z7=>
  lenF l2 fun z8=>(if z7<z8 then L135_3 n l2 z7 true else L135_3 n l2 z7 false)
def L135_3:Nat->LD->Int->Bool->Option (Bool)
 | 0,_,_,_=>none
 | n+1,l2,z7,b9=>
  (if b9=true then getF l2 z7 fun x10=>ds_str x10 fun s11=>(if s11=k__ then L135_4 n l2 z7 false else getF l2 z7 fun x12=>ds_str x12 fun s13=>bO1 (F81 n s13) fun b14=>letB (!b14) fun b15=>L135_4 n l2 z7 b15)else some true)
def L135_4:Nat->LD->Int->Bool->Option (Bool)
 | 0,_,_,_=>none
 | n+1,l2,z7,b16=>
  (if b16=true then some false else letF (IntKind.wrap .i64 (z7+1)) fun z17=>L135_2 n l2 z17)
end
def L135_1:Nat->LD->Bool->Option (Bool)
 | 0,_,_=>none
 | n+1,l2,b6=>
  (if b6=true then some false else L135_2 n l2 (0:Int))
def F135 (n:Nat) (s1:BA) (l2:LD):Option (Bool):=
 bO1 (F81 n s1) fun b3=>letB (!b3) fun b4=>(if b4=true then L135_1 n l2 true else lenF l2 fun z5=>(if (40:Int)<z5 then L135_1 n l2 true else L135_1 n l2 false))
mutual
def L136_2:Nat->LD->Int->Option (Bool)
 | 0,_,_=>none
 | n+1,l6,z12=>
  lenF l6 fun z13=>(if z12<z13 then L136_3 n l6 z12 true else L136_3 n l6 z12 false)
def L136_3:Nat->LD->Int->Bool->Option (Bool)
 | 0,_,_,_=>none
 | n+1,l6,z12,b14=>
  (if b14=true then getF l6 z12 fun x15=>ds_str x15 fun s16=>bO1 (F81 n s16) fun b17=>letB (!b17) fun b18=>(if b18=true then some false else letF (IntKind.wrap .i64 (z12+1)) fun z19=>L136_2 n l6 z19)else some true)
end
def L136_1:Nat->LD->Bool->Option (Bool)
 | 0,_,_=>none
 | n+1,l6,b11=>
  (if b11=true then some false else L136_2 n l6 (0:Int))
def F136 (n:Nat) (z1:Int) (z2:Int) (s3:BA) (s4:BA) (s5:BA) (l6:LD) (l7:LD) (z8:Int):Option (Bool):=
 (if s5=ByteArray.empty then lenF l6 fun z9=>lenF l7 fun z10=>(if z9=z10 then L136_1 n l6 false else L136_1 n l6 true)else L136_1 n l6 true)
def F83 (n:Nat) (z1:Int) (z2:Int) (s3:BA) (s4:BA) (s5:BA) (l6:LD) (l7:LD) (z8:Int):Option (Bool):=
 (if z1=(5:Int)then some true else (if z1=(6:Int)then some true else some false))
mutual
def L84_1:Nat->Int->Int->BA->BA->BA->LD->LD->Int->Int->BA->Bool->Option (Bool)
 | 0,_,_,_,_,_,_,_,_,_,_,_=>none
 | n+1,z1,z2,s3,s4,s5,l6,l7,z8,z9,s10,b14=>
  (if b14=true then some false else bO1 (F134 n s10 (105:Int)) fun b15=>(if b15=true then (if z2<(0:Int)then L84_2 n z1 z2 s3 s4 s5 l6 l7 z8 z9 s10 true else L84_2 n z1 z2 s3 s4 s5 l6 l7 z8 z9 s10 false)else bO1 (F134 n s10 (98:Int)) fun b17=>(if b17=true then (if z2=(0:Int)then L84_3 n z1 z2 s3 s4 s5 l6 l7 z8 z9 s10 false else (if z2=(1:Int)then L84_3 n z1 z2 s3 s4 s5 l6 l7 z8 z9 s10 false else L84_3 n z1 z2 s3 s4 s5 l6 l7 z8 z9 s10 true))else (if z2=(0:Int)then L84_4 n z1 z2 s3 s4 s5 l6 l7 z8 z9 s10 false else L84_4 n z1 z2 s3 s4 s5 l6 l7 z8 z9 s10 true))))
def L84_2:Nat->Int->Int->BA->BA->BA->LD->LD->Int->Int->BA->Bool->Option (Bool)
 | 0,_,_,_,_,_,_,_,_,_,_,_=>none
 | n+1,z1,z2,s3,s4,s5,l6,l7,z8,z9,s10,b16=>
  (if b16=true then some false else L84_5 n z1 z2 s3 s4 s5 l6 l7 z8 z9 s10)
def L84_3:Nat->Int->Int->BA->BA->BA->LD->LD->Int->Int->BA->Bool->Option (Bool)
 | 0,_,_,_,_,_,_,_,_,_,_,_=>none
 | n+1,z1,z2,s3,s4,s5,l6,l7,z8,z9,s10,b18=>
  (if b18=true then some false else L84_5 n z1 z2 s3 s4 s5 l6 l7 z8 z9 s10)
def L84_4:Nat->Int->Int->BA->BA->BA->LD->LD->Int->Int->BA->Bool->Option (Bool)
 | 0,_,_,_,_,_,_,_,_,_,_,_=>none
 | n+1,z1,z2,s3,s4,s5,l6,l7,z8,z9,s10,b19=>
  (if b19=true then some false else L84_5 n z1 z2 s3 s4 s5 l6 l7 z8 z9 s10)
def L84_5:Nat->Int->Int->BA->BA->BA->LD->LD->Int->Int->BA->Option (Bool)
 | 0,_,_,_,_,_,_,_,_,_,_=>none
 | n+1,z1,z2,s3,s4,s5,l6,l7,z8,z9,s10=>
  bO1 (F134 n s10 (112:Int)) fun b20=>(if b20=true then bO1 (F135 n s5 l6) fun b21=>letB (!b21) fun b22=>(if b22=true then some false else L84_7 n z1 s3 s4 l7 z9 s10)else bO1 (F134 n s10 (102:Int)) fun b23=>(if b23=true then bO1 (F136 n z1 z2 s3 s4 s5 l6 l7 z8) fun b24=>letB (!b24) fun b25=>(if b25=true then some false else L84_7 n z1 s3 s4 l7 z9 s10)else (if s5=ByteArray.empty then lenF l6 fun z26=>(if (0:Int)<z26 then L84_6 n z1 s3 s4 l7 z9 s10 true else L84_6 n z1 s3 s4 l7 z9 s10 false)else L84_6 n z1 s3 s4 l7 z9 s10 true)))
def L84_6:Nat->Int->BA->BA->LD->Int->BA->Bool->Option (Bool)
 | 0,_,_,_,_,_,_,_=>none
 | n+1,z1,s3,s4,l7,z9,s10,b27=>
  (if b27=true then some false else L84_7 n z1 s3 s4 l7 z9 s10)
def L84_7:Nat->Int->BA->BA->LD->Int->BA->Option (Bool)
 | 0,_,_,_,_,_,_=>none
 | n+1,z1,s3,s4,l7,z9,s10=>
  bO1 (F134 n s10 (110:Int)) fun b28=>(if b28=true then bO1 (F81 n s3) fun b29=>letB (!b29) fun b30=>(if b30=true then L84_8 n z1 s4 l7 z9 s10 true else bO1 (F134 n s10 (116:Int)) fun b31=>(if b31=true then bO1 (F78 n s3) fun b32=>letB (!b32) fun b33=>(if b33=true then L84_8 n z1 s4 l7 z9 s10 true else bO1 (F134 n s10 (110:Int)) fun b34=>letB (!b34) fun b35=>(if b35=true then bO1 (F134 n s10 (116:Int)) fun b36=>letB (!b36) fun b37=>(if b37=true then (if s3=ByteArray.empty then L84_8 n z1 s4 l7 z9 s10 false else L84_8 n z1 s4 l7 z9 s10 true)else L84_8 n z1 s4 l7 z9 s10 false)else L84_8 n z1 s4 l7 z9 s10 false))else bO1 (F134 n s10 (110:Int)) fun b38=>letB (!b38) fun b39=>(if b39=true then bO1 (F134 n s10 (116:Int)) fun b40=>letB (!b40) fun b41=>(if b41=true then (if s3=ByteArray.empty then L84_8 n z1 s4 l7 z9 s10 false else L84_8 n z1 s4 l7 z9 s10 true)else L84_8 n z1 s4 l7 z9 s10 false)else L84_8 n z1 s4 l7 z9 s10 false)))else bO1 (F134 n s10 (116:Int)) fun b42=>(if b42=true then bO1 (F78 n s3) fun b43=>letB (!b43) fun b44=>(if b44=true then L84_8 n z1 s4 l7 z9 s10 true else bO1 (F134 n s10 (110:Int)) fun b45=>letB (!b45) fun b46=>(if b46=true then bO1 (F134 n s10 (116:Int)) fun b47=>letB (!b47) fun b48=>(if b48=true then (if s3=ByteArray.empty then L84_8 n z1 s4 l7 z9 s10 false else L84_8 n z1 s4 l7 z9 s10 true)else L84_8 n z1 s4 l7 z9 s10 false)else L84_8 n z1 s4 l7 z9 s10 false))else bO1 (F134 n s10 (110:Int)) fun b49=>letB (!b49) fun b50=>(if b50=true then bO1 (F134 n s10 (116:Int)) fun b51=>letB (!b51) fun b52=>(if b52=true then (if s3=ByteArray.empty then L84_8 n z1 s4 l7 z9 s10 false else L84_8 n z1 s4 l7 z9 s10 true)else L84_8 n z1 s4 l7 z9 s10 false)else L84_8 n z1 s4 l7 z9 s10 false)))
def L84_8:Nat->Int->BA->LD->Int->BA->Bool->Option (Bool)
 | 0,_,_,_,_,_,_=>none
 | n+1,z1,s4,l7,z9,s10,b53=>
  (if b53=true then some false else bO1 (F134 n s10 (118:Int)) fun b54=>(if b54=true then bO1 (F78 n s4) fun b55=>letB (!b55) fun b56=>(if b56=true then L84_9 n z1 l7 z9 true else bO1 (F134 n s10 (118:Int)) fun b57=>letB (!b57) fun b58=>(if b58=true then (if s4=ByteArray.empty then L84_9 n z1 l7 z9 false else L84_9 n z1 l7 z9 true)else L84_9 n z1 l7 z9 false))else bO1 (F134 n s10 (118:Int)) fun b59=>letB (!b59) fun b60=>(if b60=true then (if s4=ByteArray.empty then L84_9 n z1 l7 z9 false else L84_9 n z1 l7 z9 true)else L84_9 n z1 l7 z9 false)))
def L84_9:Nat->Int->LD->Int->Bool->Option (Bool)
 | 0,_,_,_,_=>none
 | n+1,z1,l7,z9,b61=>
  (if b61=true then some false else L84_10 n z1 l7 z9 (0:Int))
def L84_10:Nat->Int->LD->Int->Int->Option (Bool)
 | 0,_,_,_,_=>none
 | n+1,z1,l7,z9,z62=>
  lenF l7 fun z63=>(if z62<z63 then L84_11 n z1 l7 z9 z62 true else L84_11 n z1 l7 z9 z62 false)
def L84_11:Nat->Int->LD->Int->Int->Bool->Option (Bool)
 | 0,_,_,_,_,_=>none
 | n+1,z1,l7,z9,z62,b64=>
  (if b64=true then getF l7 z62 fun x65=>ds_t39 x65 fun z66 z67 s68 s69 s70 l71 l72 z73=>bO1 (F83 n z66 z67 s68 s69 s70 l71 l72 z73) fun b74=>(if b74=true then (if z1=(18:Int)then getF l7 z62 fun x75=>ds_t39 x75 fun z76 z77 s78 s79 s80 l81 l82 z83=>letF (IntKind.wrap .i64 (z9 - 1)) fun z84=>bO1 (F84 n z76 z77 s78 s79 s80 l81 l82 z83 z84) fun b85=>letB (!b85) fun b86=>L84_12 n z1 l7 z9 z62 b86 else L84_12 n z1 l7 z9 z62 true)else getF l7 z62 fun x87=>ds_t39 x87 fun z88 z89 s90 s91 s92 l93 l94 z95=>letF (IntKind.wrap .i64 (z9 - 1)) fun z96=>bO1 (F84 n z88 z89 s90 s91 s92 l93 l94 z95 z96) fun b97=>letB (!b97) fun b98=>L84_12 n z1 l7 z9 z62 b98)else some true)
def L84_12:Nat->Int->LD->Int->Int->Bool->Option (Bool)
 | 0,_,_,_,_,_=>none
 | n+1,z1,l7,z9,z62,b99=>
  (if b99=true then some false else letF (IntKind.wrap .i64 (z62+1)) fun z100=>L84_10 n z1 l7 z9 z100)
def F84:Nat->Int->Int->BA->BA->BA->LD->LD->Int->Int->Option (Bool)
 | 0,_,_,_,_,_,_,_,_,_=>none
 | n+1,z1,z2,s3,s4,s5,l6,l7,z8,z9=>
  bO1 (F132 n z1) fun s10=>(if z9<(1:Int)then L84_1 n z1 z2 s3 s4 s5 l6 l7 z8 z9 s10 true else (if s10=ByteArray.empty then L84_1 n z1 z2 s3 s4 s5 l6 l7 z8 z9 s10 true else lenF l7 fun z11=>bO1 (F133 n s10 z11) fun b12=>letB (!b12) fun b13=>L84_1 n z1 z2 s3 s4 s5 l6 l7 z8 z9 s10 b13))
end
end Go.Proofs.YtjmofeakajdbiaaGreatDoor
end
set_option linter.unusedVariables false
noncomputable section
namespace Go.Proofs.YtjmofeakajdbiaaGreatDoor
open Go Go.AM
def stB:D→Bool
 | .str s=>decide (s=k__) || nm 97 122 s
 | _=>false
def nmB:D→Bool
 | .str s=>nm 97 122 s
 | _=>false
def plB (s:ByteArray) (l:List D):Bool:=nm 97 122 s&&(l.all stB&&decide (l.length≤40))
theorem all_drop {L:List D}{i:Nat}{x:D}(h:L[i]?=some x) (p:D→Bool):(L.drop i).all p=(p x&&(L.drop (i+1)).all p):=by
 obtain⟨hi,rfl⟩:=List.getElem?_eq_some_iff.1 h
 rw[List.drop_eq_getElem_cons hi,List.all_cons]
theorem ev45 {s:ByteArray}(hs:s.size≤maxLen):Ev (fun n=>F94 n s) (stB (.str s)):=by
 unfold F94 stB
 by_cases h:s=k__
 ·simp only[if_pos h,decide_eq_true h,Bool.true_or];exact Ev.ret
 ·simp only[if_neg h,decide_eq_false h,Bool.false_or];exact Ev.bO1 (ev13 hs) Ev.ret
theorem ev44 {L:List D}(hL:ListS tab 9 L) (m:Nat):∃r,Ev (fun n=>F93 n L (m:Int)) r∧r=(L.all stB&&decide (L.length≤m))∨(m<L.length∧Ev (fun n=>F93 n L (m:Int)) false):=by
 by_cases hm:L.length≤m
 ·have loop:∀i,i≤L.length→Ev (fun n=>L93_1 n L (m:Int) (i:Int)) ((L.drop i).all stB):=by
   refine down L.length (Ev.succ ?_) (fun i hi ih=>?_)
   ·simp only[L93_1,lenF,Int.lt_irrefl,if_false,List.drop_length]
    exact Ev.succ (by simp only[L93_2,Bool.false_eq_true,if_false,lenF,if_pos (show (L.length:Int)≤(m:Int)by omega)];exact Ev.ret)
   ·obtain⟨x,hx,_,hr⟩:=hL.get hi
    obtain⟨s,rfl,hs⟩:=rs9 hr
    rw[all_drop hx]
    refine Ev.succ ?_
    simp only[L93_1,lenF,if_pos (show (i:Int)<(L.length:Int)by omega),if_pos (show (i:Int)<(m:Int)by omega)]
    refine Ev.succ ?_
    simp only[L93_2,if_true,getF_nat hx,ds_str]
    refine Ev.bO1 (ev45 hs) ?_
    cases stB (.str s)
    ·simp only[letB,Bool.not_false,if_true,Bool.false_and];exact Ev.ret
    ·simp only[letB,Bool.not_true,Bool.false_eq_true,if_false,letF,wrap_succ hi hL.1,Bool.true_and];exact ih
  refine⟨_,.inl ⟨loop 0 (Nat.zero_le _),?_⟩⟩
  rw[decide_eq_true hm,Bool.and_true];rfl
 ·have loop:∀i,i≤m→Ev (fun n=>L93_1 n L (m:Int) (i:Int)) false:=by
   refine down m (Ev.succ ?_) (fun i hi ih=>?_)
   ·simp only[L93_1,lenF,if_pos (show (m:Int)<(L.length:Int)by omega),Int.lt_irrefl,if_false]
    exact Ev.succ (by simp only[L93_2,Bool.false_eq_true,if_false,lenF,if_neg (show ¬(L.length:Int)≤(m:Int)by omega)];exact Ev.ret)
   ·obtain⟨x,hx,_,hr⟩:=hL.get (show i<L.length by omega)
    obtain⟨s,rfl,hs⟩:=rs9 hr
    refine Ev.succ ?_
    simp only[L93_1,lenF,if_pos (show (i:Int)<(L.length:Int)by omega),if_pos (show (i:Int)<(m:Int)by omega)]
    refine Ev.succ ?_
    simp only[L93_2,if_true,getF_nat hx,ds_str]
    refine Ev.bO1 (ev45 hs) ?_
    cases stB (.str s)
    ·simp only[letB,Bool.not_false,if_true];exact Ev.ret
    ·simp only[letB,Bool.not_true,Bool.false_eq_true,if_false,letF,wrap_succ (show i<L.length by omega) hL.1];exact ih
  exact⟨false,.inr ⟨by omega,loop 0 (Nat.zero_le _)⟩⟩
theorem ev44' {L:List D}(hL:ListS tab 9 L) (m:Nat):Ev (fun n=>F93 n L (m:Int)) (L.all stB&&decide (L.length≤m)):=by
 obtain⟨r,⟨h1,h2⟩ | ⟨h1,h2⟩⟩:=ev44 hL m
 ·rw[←h2];exact h1
 ·rw[decide_eq_false (by omega),Bool.and_false];exact h2
theorem ev24 {s:ByteArray}(hs:s.size≤maxLen) {l:List D}(hl:ListS tab 9 l):Ev (fun n=>F52 n s l) (plB s l):=by
 unfold F52 plB
 refine Ev.bO1 (ev13 hs) ?_
 cases nm 97 122 s
 ·simp only[Bool.false_eq_true,if_false,Bool.false_and];exact Ev.ret
 ·simp only[if_true,Bool.true_and];exact Ev.bO1 (ev44' hl 40) Ev.ret
theorem ev25 {s:ByteArray}(hs:s.size≤maxLen) {l:List D}(hl:ListS tab 9 l):Ev (fun n=>F135 n s l) (plB s l):=by
 have loop:∀i,i≤l.length→Ev (fun n=>L135_2 n l (i:Int)) ((l.drop i).all stB):=by
  refine down l.length (Ev.succ ?_) (fun i hi ih=>?_)
  ·simp only[L135_2,lenF,Int.lt_irrefl,if_false,List.drop_length]
   exact Ev.succ (by simp only[L135_3,Bool.false_eq_true,if_false];exact Ev.ret)
  ·obtain⟨x,hx,_,hr⟩:=hl.get hi
   obtain⟨s,rfl,hs⟩:=rs9 hr
   rw[all_drop hx]
   refine Ev.succ ?_
   simp only[L135_2,lenF,if_pos (show (i:Int)<(l.length:Int)by omega)]
   refine Ev.succ ?_
   simp only[L135_3,if_true,getF_nat hx,ds_str,stB]
   have fin:∀b,Ev (fun n=>L135_4 n l (i:Int) (!b)) (b&&(l.drop (i+1)).all stB):=by
    intro b
    refine Ev.succ ?_
    cases b
    ·simp only[L135_4,Bool.not_false,if_true,Bool.false_and];exact Ev.ret
    ·simp only[L135_4,Bool.not_true,Bool.false_eq_true,if_false,letF,wrap_succ hi hl.1,Bool.true_and];exact ih
   by_cases h:s=k__
   ·simp only[if_pos h,decide_eq_true h,Bool.true_or];exact fin true
   ·simp only[if_neg h,decide_eq_false h,Bool.false_or]
    exact Ev.bO1 (ev14 hs) (by simp only[letB];exact fin _)
 unfold F135 plB
 refine Ev.bO1 (ev14 hs) ?_
 have no:Ev (fun n=>L135_1 n l true) false:=Ev.succ (by simp only[L135_1,if_true];exact Ev.ret)
 cases nm 97 122 s
 ·simp only[letB,Bool.not_false,if_true,Bool.false_and];exact no
 ·simp only[letB,Bool.not_true,Bool.false_eq_true,if_false,lenF,Bool.true_and]
  by_cases h:40<(l.length:Int)
  ·simp only[if_pos h,decide_eq_false (show ¬l.length≤40 by omega),Bool.and_false];exact no
  ·simp only[if_neg h,decide_eq_true (show l.length≤40 by omega),Bool.and_true]
   exact Ev.succ (by simp only[L135_1,Bool.false_eq_true,if_false];exact loop 0 (Nat.zero_le _))
structure Good (z1:Int) (f:ByteArray) (hp:Bool) (least most:Int):Prop where
 f40:Ev (fun n=>F132 n z1) f
 f58:Ev (fun n=>F95 n z1) (hp,least,most,true)
 ne:¬f=ByteArray.empty
 many:∀n:Int,0≤n→Ev (fun k=>F133 k f n) (decide (least≤n)&&decide (n≤most))
 hi:Ev (fun n=>F134 n f 105) (decide (z1=1))
 hb:Ev (fun n=>F134 n f 98) (decide (z1=2))
 h112:Ev (fun n=>F134 n f 112) hp
 hf:Ev (fun n=>F134 n f 102) (decide (z1=19))
 hn:Ev (fun n=>F134 n f 110) (decide (z1=18))
 ht:Ev (fun n=>F134 n f 116) (decide (z1=19∨z1=20))
 hv:Ev (fun n=>F134 n f 118) (decide (z1=20))
 np:z1=18∨z1=19∨z1=20→hp=false
 most6:0≤least∧least≤most∧most≤6
end Go.Proofs.YtjmofeakajdbiaaGreatDoor
end
namespace Go.AM
open Go
theorem Shape.row {ti:Types}{t:TypeId}{cs:List D}{y:TI}(h:Shape ti t cs) (hy:ti t=some y) (h1:rowD y.desc=true):cs.length=y.size∧∀c∈cs,c.isAgg=false:=by
 cases h with
 | struct ds h hd hl hg hr=>rw[hy]at h;cases h;exact⟨hl,hg⟩
 | bool b h hd=>rw[hy]at h;cases h;rw[hd]at h1;cases h1
 | int n h hd=>rw[hy]at h;cases h;rw[hd]at h1;cases h1
 | str s h hd=>rw[hy]at h;cases h;rw[hd]at h1;cases h1
 | slice rows h hd=>rw[hy]at h;cases h;rw[hd]at h1;cases h1
theorem Shape.cell {ti:Types}{t:TypeId}{cs:List D}{y:TI}(h:Shape ti t cs) (hy:ti t=some y) (h1:rowD y.desc=false):∃c,cs=[c]∧c.isAgg=false:=by
 cases h with
 | struct ds h hd hl hg hr=>rw[hy]at h;cases h;rw[hd]at h1;cases h1
 | bool b h hd=>exact⟨_,rfl,rfl⟩
 | int n h hd=>exact⟨_,rfl,rfl⟩
 | str s h hd=>exact⟨_,rfl,rfl⟩
 | slice rows h hd=>exact⟨_,rfl,rfl⟩
theorem RowS.fits {ti:Types}{e:TypeId}{r:D}{y:TI}(h1:TIone ti) (h:RowS ti e r) (hy:ti e=some y):r.fits (rowD y.desc) y.size:=by
 have ha:=h.2 y hy
 cases hr:rowD y.desc with
 | true=>
  obtain⟨q1,q2⟩:=h.1.row hy hr
  exact⟨by rw[ha,hr],q1,q2⟩
 | false=>
  obtain⟨c,q1,q2⟩:=h.1.cell hy hr
  exact⟨by rw[ha,hr],by rw[q1,h1 e y hy hr];rfl,by rw[q1];simpa using q2⟩
theorem ListS.nil {ti:Types}{e:TypeId}:ListS ti e []:=⟨Nat.zero_le _,by simp⟩
theorem ListS.cons {ti:Types}{e:TypeId}{x:D}{L:List D}(hx:RowS ti e x) (h:ListS ti e L) (hl:L.length+1≤maxLen):ListS ti e (x::L):=⟨by simpa using hl,fun y hy=>by
 rcases List.mem_cons.1 hy with rfl | hy
 ·exact hx
 ·exact h.2 y hy⟩
theorem ListS.one {ti:Types}{e:TypeId}{x:D}(hx:RowS ti e x):ListS ti e [x]:=.cons hx .nil (by simp[maxLen])
theorem ListS.set {ti:Types}{e:TypeId}{L:List D}(h:ListS ti e L) (i:Nat) {x:D}(hx:RowS ti e x):ListS ti e (L.set i x):=⟨by simpa using h.1,fun y hy=>by
 rcases List.mem_or_eq_of_mem_set hy with hy | rfl
 ·exact h.2 y hy
 ·exact hx⟩
theorem ListS.take {ti:Types}{e:TypeId}{L:List D}(h:ListS ti e L) (i:Nat):ListS ti e (L.take i):=⟨by have:=h.1;simp;omega,fun x hx=>h.2 x (List.mem_of_mem_take hx)⟩
theorem ListS.drop {ti:Types}{e:TypeId}{L:List D}(h:ListS ti e L) (i:Nat):ListS ti e (L.drop i):=⟨by have:=h.1;simp;omega,fun x hx=>h.2 x (List.mem_of_mem_drop hx)⟩
theorem Ev.bO3 {A1 A2 A3 γ:Type}{A:Nat→Option (A1×A2×A3)}{a1:A1}{a2:A2}{a3:A3}{k:Nat→A1→A2→A3→Option γ}{r:γ}(ha:Ev A (a1,a2,a3)) (hk:Ev (fun n=>k n a1 a2 a3) r):Ev (fun n=>bO3 (A n) (k n)) r:=by
 obtain⟨N,ha⟩:=ha
 obtain⟨M,hk⟩:=hk
 refine⟨N+M,fun n hn=>?_⟩
 show Go.AM.bO3 (A n) (k n)=some r
 rw[ha n (by omega)]
 exact hk n (by omega)
theorem Ev.bO4 {A1 A2 A3 A4 γ:Type}{A:Nat→Option (A1×A2×A3×A4)}{a1:A1}{a2:A2}{a3:A3}{a4:A4}{k:Nat→A1→A2→A3→A4→Option γ}{r:γ}(ha:Ev A (a1,a2,a3,a4)) (hk:Ev (fun n=>k n a1 a2 a3 a4) r):Ev (fun n=>bO4 (A n) (k n)) r:=by
 obtain⟨N,ha⟩:=ha
 obtain⟨M,hk⟩:=hk
 refine⟨N+M,fun n hn=>?_⟩
 show Go.AM.bO4 (A n) (k n)=some r
 rw[ha n (by omega)]
 exact hk n (by omega)
theorem Ev.bO7 {A1 A2 A3 A4 A5 A6 A7 γ:Type}{A:Nat→Option (A1×A2×A3×A4×A5×A6×A7)}{a1:A1}{a2:A2}{a3:A3}{a4:A4}{a5:A5}{a6:A6}{a7:A7}{k:Nat→A1→A2→A3→A4→A5→A6→A7→Option γ}{r:γ}(ha:Ev A (a1,a2,a3,a4,a5,a6,a7)) (hk:Ev (fun n=>k n a1 a2 a3 a4 a5 a6 a7) r):Ev (fun n=>bO7 (A n) (k n)) r:=by
 obtain⟨N,ha⟩:=ha
 obtain⟨M,hk⟩:=hk
 refine⟨N+M,fun n hn=>?_⟩
 show Go.AM.bO7 (A n) (k n)=some r
 rw[ha n (by omega)]
 exact hk n (by omega)
theorem Ev.bO10 {A1 A2 A3 A4 A5 A6 A7 A8 A9 A10 γ:Type}{A:Nat→Option (A1×A2×A3×A4×A5×A6×A7×A8×A9×A10)}{a1:A1}{a2:A2}{a3:A3}{a4:A4}{a5:A5}{a6:A6}{a7:A7}{a8:A8}{a9:A9}{a10:A10}{k:Nat→A1→A2→A3→A4→A5→A6→A7→A8→A9→A10→Option γ}{r:γ}(ha:Ev A (a1,a2,a3,a4,a5,a6,a7,a8,a9,a10)) (hk:Ev (fun n=>k n a1 a2 a3 a4 a5 a6 a7 a8 a9 a10) r):Ev (fun n=>bO10 (A n) (k n)) r:=by
 obtain⟨N,ha⟩:=ha
 obtain⟨M,hk⟩:=hk
 refine⟨N+M,fun n hn=>?_⟩
 show Go.AM.bO10 (A n) (k n)=some r
 rw[ha n (by omega)]
 exact hk n (by omega)
theorem Ev.bO14 {A1 A2 A3 A4 A5 A6 A7 A8 A9 A10 A11 A12 A13 A14 γ:Type}{A:Nat→Option (A1×A2×A3×A4×A5×A6×A7×A8×A9×A10×A11×A12×A13×A14)}{a1:A1}{a2:A2}{a3:A3}{a4:A4}{a5:A5}{a6:A6}{a7:A7}{a8:A8}{a9:A9}{a10:A10}{a11:A11}{a12:A12}{a13:A13}{a14:A14}{k:Nat→A1→A2→A3→A4→A5→A6→A7→A8→A9→A10→A11→A12→A13→A14→Option γ}{r:γ}(ha:Ev A (a1,a2,a3,a4,a5,a6,a7,a8,a9,a10,a11,a12,a13,a14)) (hk:Ev (fun n=>k n a1 a2 a3 a4 a5 a6 a7 a8 a9 a10 a11 a12 a13 a14) r):Ev (fun n=>bO14 (A n) (k n)) r:=by
 obtain⟨N,ha⟩:=ha
 obtain⟨M,hk⟩:=hk
 refine⟨N+M,fun n hn=>?_⟩
 show Go.AM.bO14 (A n) (k n)=some r
 rw[ha n (by omega)]
 exact hk n (by omega)
theorem Ev.bO15 {A1 A2 A3 A4 A5 A6 A7 A8 A9 A10 A11 A12 A13 A14 A15 γ:Type}{A:Nat→Option (A1×A2×A3×A4×A5×A6×A7×A8×A9×A10×A11×A12×A13×A14×A15)}{a1:A1}{a2:A2}{a3:A3}{a4:A4}{a5:A5}{a6:A6}{a7:A7}{a8:A8}{a9:A9}{a10:A10}{a11:A11}{a12:A12}{a13:A13}{a14:A14}{a15:A15}{k:Nat→A1→A2→A3→A4→A5→A6→A7→A8→A9→A10→A11→A12→A13→A14→A15→Option γ}{r:γ}(ha:Ev A (a1,a2,a3,a4,a5,a6,a7,a8,a9,a10,a11,a12,a13,a14,a15)) (hk:Ev (fun n=>k n a1 a2 a3 a4 a5 a6 a7 a8 a9 a10 a11 a12 a13 a14 a15) r):Ev (fun n=>bO15 (A n) (k n)) r:=by
 obtain⟨N,ha⟩:=ha
 obtain⟨M,hk⟩:=hk
 refine⟨N+M,fun n hn=>?_⟩
 show Go.AM.bO15 (A n) (k n)=some r
 rw[ha n (by omega)]
 exact hk n (by omega)
theorem Ev.bO16 {A1 A2 A3 A4 A5 A6 A7 A8 A9 A10 A11 A12 A13 A14 A15 A16 γ:Type}{A:Nat→Option (A1×A2×A3×A4×A5×A6×A7×A8×A9×A10×A11×A12×A13×A14×A15×A16)}{a1:A1}{a2:A2}{a3:A3}{a4:A4}{a5:A5}{a6:A6}{a7:A7}{a8:A8}{a9:A9}{a10:A10}{a11:A11}{a12:A12}{a13:A13}{a14:A14}{a15:A15}{a16:A16}{k:Nat→A1→A2→A3→A4→A5→A6→A7→A8→A9→A10→A11→A12→A13→A14→A15→A16→Option γ}{r:γ}(ha:Ev A (a1,a2,a3,a4,a5,a6,a7,a8,a9,a10,a11,a12,a13,a14,a15,a16)) (hk:Ev (fun n=>k n a1 a2 a3 a4 a5 a6 a7 a8 a9 a10 a11 a12 a13 a14 a15 a16) r):Ev (fun n=>bO16 (A n) (k n)) r:=by
 obtain⟨N,ha⟩:=ha
 obtain⟨M,hk⟩:=hk
 refine⟨N+M,fun n hn=>?_⟩
 show Go.AM.bO16 (A n) (k n)=some r
 rw[ha n (by omega)]
 exact hk n (by omega)
theorem Ev.bO18 {A1 A2 A3 A4 A5 A6 A7 A8 A9 A10 A11 A12 A13 A14 A15 A16 A17 A18 γ:Type}{A:Nat→Option (A1×A2×A3×A4×A5×A6×A7×A8×A9×A10×A11×A12×A13×A14×A15×A16×A17×A18)}{a1:A1}{a2:A2}{a3:A3}{a4:A4}{a5:A5}{a6:A6}{a7:A7}{a8:A8}{a9:A9}{a10:A10}{a11:A11}{a12:A12}{a13:A13}{a14:A14}{a15:A15}{a16:A16}{a17:A17}{a18:A18}{k:Nat→A1→A2→A3→A4→A5→A6→A7→A8→A9→A10→A11→A12→A13→A14→A15→A16→A17→A18→Option γ}{r:γ}(ha:Ev A (a1,a2,a3,a4,a5,a6,a7,a8,a9,a10,a11,a12,a13,a14,a15,a16,a17,a18)) (hk:Ev (fun n=>k n a1 a2 a3 a4 a5 a6 a7 a8 a9 a10 a11 a12 a13 a14 a15 a16 a17 a18) r):Ev (fun n=>bO18 (A n) (k n)) r:=by
 obtain⟨N,ha⟩:=ha
 obtain⟨M,hk⟩:=hk
 refine⟨N+M,fun n hn=>?_⟩
 show Go.AM.bO18 (A n) (k n)=some r
 rw[ha n (by omega)]
 exact hk n (by omega)
end Go.AM
namespace Go.AM
open Go Go.RowKit Go.ChangeShapes Go.WideShapes
def Shapes (ti:Types):List TypeId→List D→Prop
 | [],[]=>True
 | t::ts,x::xs=>Shape ti t x.cells∧(∀y,ti t=some y→x.isAgg=rowD y.desc)∧Shapes ti ts xs
 | _,_=>False
theorem Shapes.length {ti:Types}:∀{ts:List TypeId}{xs:List D},Shapes ti ts xs→xs.length=ts.length
 | [],[],_=>rfl
 | _::_,_::_,h=>by simp[Shapes.length h.2.2]
 | [],_::_,h=>h.elim
 | _::_,[],h=>h.elim
section
variable {H:Type}{enc:TypeId×Value→H}{P:Program}{ti:Types}{T:List TypeId}{w:World}
theorem conv_arg (hti:TIok P ti) (hT:plainB ti T=true) {Z:Zone}(hZ:∀b o,¬Z b o) {base base':Nat}{spare:Nat→Bool}{held:Bool}{r:Reach}{t:TypeId}{v:Value}{d:DataW H}{ps:List MemPlace}(ht:t∈T)
  (hok:Value.okWide P w r base' t v) (h:DataW.Trod enc P w base spare held t v d ps):∃x:D,Shape ti t x.cells∧(∀y,ti t=some y→x.isAgg=rowD y.desc)∧RelD w Z x v:=by
 obtain⟨fuel,h⟩:=h
 obtain⟨ds,hs,h1,h2,h3⟩:=conv hti hT (Z:=Z) hZ fuel t _ _ _ ht h
 have hp:=List.all_eq_true.1 hT t ht
 split at hp
 ·rename_i y hy
  have hu:=(hti t y hy).1
  have single:rowD y.desc=false→v.cells.toList=[v]→∃x:D,Shape ti t x.cells∧(∀y,ti t=some y→x.isAgg=rowD y.desc)∧RelD w Z x v:=by
   intro hr hv
   rw[hv]at h1 h3
   obtain⟨c,rfl⟩:=List.length_eq_one_iff.1 h1
   have hc:=h2 c (by simp)
   have e:c.cells=[c]:=by cases c<;>first | rfl | simp[D.isAgg]at hc
   refine⟨c,by rw[e];exact hs,fun y' hy'=>?_,h3 0 c v rfl rfl⟩
   rw[hy]at hy'
   obtain rfl:y=y':=by simpa using hy'
   rw[hc,hr]
  split at hp
  ·rename_i hd
   rw[hd]at hu
   obtain⟨b,rfl⟩:=okWide_bool hu hok
   exact single (by rw[hd];rfl) rfl
  ·rename_i k hd
   rw[hd]at hu
   obtain⟨b,rfl⟩:=okWide_int hu hok
   exact single (by rw[hd];rfl) rfl
  ·rename_i hd
   rw[hd]at hu
   obtain⟨b,rfl⟩:=okWide_string hu hok
   exact single (by rw[hd];rfl) rfl
  ·rename_i e hd
   rw[hd]at hu
   obtain⟨a,l,c,rfl⟩:=okWide_slice hu hok
   exact single (by rw[hd];rfl) rfl
  ·rename_i fs hd
   rw[hd]at hu
   obtain⟨cs,rfl,_⟩:=okWide_struct hu hok
   refine⟨.agg ds,hs,fun y' hy'=>?_,.agg ds cs (by simpa [Value.cells] using h1.symm) h2 (fun j c u hc hu'=>h3 j c u hc (by simpa [Value.cells] using hu'))⟩
   rw[hy]at hy'
   obtain rfl:y=y':=by simpa using hy'
   rw[hd];rfl
  ·simp at hp
 ·simp at hp
theorem conv_args (hti:TIok P ti) (hT:plainB ti T=true) {Z:Zone}(hZ:∀b o,¬Z b o) {base base':Nat}{spare:Nat→Bool}{held:Bool}{r:Reach}:
  ∀(ts:List TypeId) (vs:List Value) (ds:List (DataW H)) (ps:List MemPlace),(∀t∈ts,t∈T)→DataW.TrodAll enc P w base spare held ts vs ds ps→
   (∀(j:Nat) t v,ts[j]?=some t→vs[j]?=some v→Value.okWide P w r base' t v)→
   ∃xs,Shapes ti ts xs∧∀(j:Nat) x v,xs[j]?=some x→vs[j]?=some v→RelD w Z x v
 | [],vs,ds,ps,_,h,_=>⟨[],trivial,by simp⟩
 | t::ts,vs,ds,ps,ht,h,hok=>by
  obtain⟨v,vs1,d,ds1,a,b,rfl,rfl,rfl,h1,h2⟩:=trodAll_cons h
  obtain⟨x,k1,k2,k3⟩:=conv_arg hti hT hZ (ht t (by simp)) (hok 0 t v rfl rfl) h1
  obtain⟨xs,k4,k5⟩:=conv_args hti hT hZ ts vs1 ds1 b (fun t ht'=>ht t (by simp[ht'])) h2 (fun j t v h1 h2=>hok (j+1) t v (by simpa using h1) (by simpa using h2))
  refine⟨x::xs,⟨k1,k2,k4⟩,fun j x' v' hx hv=>?_⟩
  match j with
  | 0=>simp at hx hv;subst hx;subst hv;exact k3
  | j+1=>simp at hx hv;exact k5 j x' v' hx hv
theorem again_all (hl:laidOutB P=true) {W W':World}(hb:Below W.heap.size W W'):∀(ts:List TypeId) (vs:List Value) (ds:List (DataW H)) (ps:List MemPlace),
  (∀t∈ts,P.readableRec t=true∧t<P.types.size)→DataW.TrodAll enc P W 0 (fun _=>true) true ts vs ds ps→(∀x∈ps,x.block<W.heap.size)→
  DataW.TrodAll enc P W' 0 (fun b=>decide (b<W.heap.size)) true ts vs ds ps
 | [],vs,ds,ps,_,h,_=>by
  obtain⟨rfl,rfl,rfl⟩:=trodAll_nil h
  exact rfl
 | t::ts,vs,ds,ps,ht,h,hlt=>by
  obtain⟨v,vs1,d,ds1,a,b,rfl,rfl,rfl,h1,h2⟩:=trodAll_cons h
  have ht1:=ht t (by simp)
  exact⟨a,b,Below.trod hl ht1.1 ht1.2 h1 hb (fun x hx=>hlt x (by simp[hx])),again_all hl hb ts vs1 ds1 b (fun t ht'=>ht t (by simp[ht'])) h2 (fun x hx=>hlt x (by simp[hx])),rfl⟩
theorem law_calls {I:Inv}(hti:TIok P ti) (hT:plainB ti T=true) {s:ChangeSpec}{fn:Func}{f:FuncId}{ts:List TypeId}{bt:TypeId}
  (hp:fn.params.toList=ts) (hv:s.vars=[]) (hr:fn.resultTypes=#[bt]) (hb:P.underlying bt=some .bool) (htT:∀t∈ts,t∈T)
  (hs:∀ds:List (DataW H),ds.length=ts.length→(s.fn H ds).results=[.lit (.bool true)]∧(s.fn H ds).args=ds∧(s.fn H ds).vars=[])
  (hl:laidOutB P=true) (hrec:∀t∈ts,P.readableRec t=true∧t<P.types.size)
  (hc:∀xs:List D,Shapes ti ts xs→Trip P I f (xs.map V1.d) [] (.v (.d (.bool true))) [] [])
  {W:World} {base:Nat} {args:Array Value} {ds gs:List (DataW H)} {before:List MemPlace}
  (hI:I.at W fun _ _=>False) (hval:∀(j:Nat) t v,fn.params[j]?=some t→args[j]?=some v→Value.okWide P W .any base t v)
  (hW:DataW.Whole enc P fn.params.toList s.vars false W args.toList ds gs before):
  Calls P f args W fun e W'=>∃v,e= .returned v∧s.post enc P fn false true false false W args v W':=by
 have hW':=hW
 obtain⟨p,q,hA,hV,rfl,_,_⟩:=hW
 rw[hv]at hV
 obtain⟨rfl,rfl⟩:gs=[]∧q=[]:=by
  cases gs with
  | nil=>exact⟨rfl,hV⟩
  | cons _ _=>exact hV.elim
 rw[hp]at hA
 obtain⟨hlen,hdl⟩:=trodAll_length hA
 obtain⟨xs,hsh,hrel⟩:=conv_args hti hT (Z:=fun _ _=>False) (fun _ _ h=>h) (r:=.any) (base':=base) ts args.toList ds p htT hA (fun j t v h1 h2=>hval j t v (by
  rw[←Array.getElem?_toList,hp];exact h1) (by simpa using h2))
 have hxl:=hsh.length
 have hcall:=hc xs hsh
 have hheap:∀i o,heapOf [] i=some o→False:=by
  intro i o h
  cases i<;>simp[heapOf]at h
 have hzone:∀(g:Ghost) b o,¬zone g (heapOf []) b o:=by
  rintro g b o ⟨i,ob,h,_⟩
  exact hheap i ob h
 refine (hcall.calls (w:=W) (X:=fun _ _=>False) (g:=fun _=>undef) (vals:=args) (fun _ _ h=>h.elim) (hI.mono fun b o hz=>hz.elim (hzone _ b o) id) ⟨fun i o h=>(hheap i o h).elim,fun i _ _ _ _ h=>(hheap i _ h).elim,fun i _ _ _ h=>(hheap i _ h).elim⟩ (fun _=>rfl)
  (by simp at hlen;simp;omega) (fun j x v hx hvv=>?_)).mono ?_
 ·simp only[List.getElem?_map,Option.map_eq_some_iff]at hx
  obtain⟨d,hd,rfl⟩:=hx
  exact (hrel j d v hd (by simpa using hvv)).mono (fun b o u hu _=>⟨hu,fun hz=>hz.elim (hzone _ b o) id⟩)
 ·rintro e W' ⟨v,g',rfl,hpost⟩
  obtain rfl:v= .bool true:=by cases (show RelD _ _ (.bool true) v from hpost.res);rfl
  have hbel:Below W.heap.size W W':=⟨hpost.frame.os,hpost.frame.tape,hpost.frame.output,hpost.frame.size,fun k hk=>hpost.frame.block k hk (fun o=>hzone _ k o)⟩
  obtain⟨s1,s2,s3⟩:=hs (ds++[]) (by simp[hdl])
  refine⟨_,rfl,ds,[],p++[],[],p,[],hW',?_,?_,?_,hbel.frame _,fun h=>by cases h⟩
  ·rw[s1,hr]
   exact trodAll_mk1 (shut_bool hb true)
  ·rw[s2,hp,List.append_nil]
   exact again_all hl hbel ts args.toList ds p hrec hA (fun x hx=>hW'.lt x (by simp[hx]))
  ·rw[s3,hv];rfl
end
end Go.AM
set_option linter.unusedVariables false
noncomputable section
namespace Go.Proofs.YtjmofeakajdbiaaGreatDoor
open Go Go.AM
abbrev emp (s:ByteArray):Bool:=decide (s=ByteArray.empty)
def intB (z1 z2:Int):Bool:=if z1=1 then decide (0≤z2)else if z1=2 then decide (z2=0) || decide (z2=1)else decide (z2=0)
def nameB (z1:Int) (s:ByteArray):Bool:=if z1=18 then nm 97 122 s else if z1=19∨z1=20 then nm 65 90 s else emp s
def secB (z1:Int) (s:ByteArray):Bool:=if z1=20 then nm 65 90 s else emp s
def fldB (s:ByteArray) (l6 l7:List D):Bool:=emp s&&(decide (l6.length=l7.length)&&l6.all nmB)
def placB (z1:Int) (hp:Bool) (s:ByteArray) (l6 l7:List D):Bool:=if hp=true then plB s l6 else if z1=19 then fldB s l6 l7 else emp s&&decide (l6.length=0)
section
variable {z1 z2:Int}{s3 s4 s5:ByteArray}{l6 l7:List D}{z8:Int}
theorem ev43 (h6:ListS tab 9 l6):Ev (fun n=>F136 n z1 z2 s3 s4 s5 l6 l7 z8) (fldB s5 l6 l7):=by
 have loop:∀i,i≤l6.length→Ev (fun n=>L136_2 n l6 (i:Int)) ((l6.drop i).all nmB):=by
  refine down l6.length (Ev.succ ?_) (fun i hi ih=>?_)
  ·simp only[L136_2,lenF,Int.lt_irrefl,if_false,List.drop_length]
   exact Ev.succ (by simp only[L136_3,Bool.false_eq_true,if_false];exact Ev.ret)
  ·obtain⟨x,hx,_,hr⟩:=h6.get hi
   obtain⟨s,rfl,hs⟩:=rs9 hr
   rw[all_drop hx]
   refine Ev.succ ?_
   simp only[L136_2,lenF,if_pos (show (i:Int)<(l6.length:Int)by omega)]
   refine Ev.succ ?_
   simp only[L136_3,if_true,getF_nat hx,ds_str,nmB]
   refine Ev.bO1 (ev14 hs) ?_
   cases nm 97 122 s
   ·simp only[letB,Bool.not_false,if_true,Bool.false_and];exact Ev.ret
   ·simp only[letB,Bool.not_true,Bool.false_eq_true,if_false,letF,wrap_succ hi h6.1,Bool.true_and];exact ih
 have no:Ev (fun n=>L136_1 n l6 true) false:=Ev.succ (by simp only[L136_1,if_true];exact Ev.ret)
 unfold F136 fldB
 by_cases e:s5=ByteArray.empty
 ·simp only[if_pos e,lenF,decide_eq_true e,Bool.true_and]
  by_cases e2:l6.length=l7.length
  ·simp only[if_pos (show (l6.length:Int)=(l7.length:Int)by omega),decide_eq_true e2,Bool.true_and]
   exact Ev.succ (by simp only[L136_1,Bool.false_eq_true,if_false];exact loop 0 (Nat.zero_le _))
  ·simp only[if_neg (show ¬(l6.length:Int)=(l7.length:Int)by omega),decide_eq_false e2,Bool.false_and];exact no
 ·simp only[if_neg e,decide_eq_false e,Bool.false_and];exact no
variable {f:ByteArray}{hp:Bool}{least most:Int}(G:Good z1 f hp least most) {deep:Int}{A:Bool}
theorem g9 (hA:Ev (fun n=>L84_10 n z1 l7 deep (0:Int)) A) (b:Bool):Ev (fun n=>L84_9 n z1 l7 deep (!b)) (b&&A):=by
 refine .succ ?_
 cases b
 ·simp only[L84_9,Bool.not_false,if_true,Bool.false_and];exact Ev.ret
 ·simp only[L84_9,Bool.not_true,Bool.false_eq_true,if_false,Bool.true_and];exact hA
include G
theorem g8 (h4:s4.size≤maxLen) (hA:Ev (fun n=>L84_10 n z1 l7 deep (0:Int)) A) (b:Bool):Ev (fun n=>L84_8 n z1 s4 l7 deep f (!b)) (b&&(secB z1 s4&&A)):=by
 have k9:=g9 hA
 refine .succ ?_
 cases b
 ·simp only[L84_8,Bool.not_false,if_true,Bool.false_and];exact Ev.ret
 simp only[L84_8,Bool.not_true,Bool.false_eq_true,if_false,Bool.true_and]
 refine Ev.bO1 G.hv ?_
 by_cases c:z1=20
 ·simp only[decide_eq_true c,if_true,secB,if_pos c]
  refine Ev.bO1 (ev16 h4) ?_
  cases nm 65 90 s4
  ·simp only[letB,Bool.not_false,if_true];exact k9 false
  ·simp only[letB,Bool.not_true,Bool.false_eq_true,if_false]
   refine Ev.bO1 G.hv ?_
   simp only[decide_eq_true c,letB,Bool.not_true,Bool.false_eq_true,if_false];exact k9 true
 ·simp only[decide_eq_false c,Bool.false_eq_true,if_false,secB,if_neg c]
  refine Ev.bO1 G.hv ?_
  simp only[decide_eq_false c,letB,Bool.not_false,if_true]
  by_cases e:s4=ByteArray.empty
  ·simp only[if_pos e,emp,decide_eq_true e];exact k9 true
  ·simp only[if_neg e,emp,decide_eq_false e];exact k9 false
theorem g7 (h3:s3.size≤maxLen) (h4:s4.size≤maxLen) (hA:Ev (fun n=>L84_10 n z1 l7 deep (0:Int)) A):Ev (fun n=>L84_7 n z1 s3 s4 l7 deep f) (nameB z1 s3&&(secB z1 s4&&A)):=by
 have k8:=g8 G h4 hA
 refine .succ ?_
 simp only[L84_7]
 refine Ev.bO1 G.hn ?_
 by_cases c:z1=18
 ·have ct:¬(z1=19∨z1=20):=by omega
  simp only[decide_eq_true c,if_true,nameB,if_pos c]
  refine Ev.bO1 (ev14 h3) ?_
  cases nm 97 122 s3
  ·simp only[letB,Bool.not_false,if_true];exact k8 false
  ·simp only[letB,Bool.not_true,Bool.false_eq_true,if_false]
   refine Ev.bO1 G.ht ?_
   simp only[decide_eq_false ct,Bool.false_eq_true,if_false]
   refine Ev.bO1 G.hn ?_
   simp only[decide_eq_true c,letB,Bool.not_true,Bool.false_eq_true,if_false];exact k8 true
 simp only[decide_eq_false c,Bool.false_eq_true,if_false,nameB,if_neg c]
 refine Ev.bO1 G.ht ?_
 by_cases ct:z1=19∨z1=20
 ·simp only[decide_eq_true ct,if_true,if_pos ct]
  refine Ev.bO1 (ev16 h3) ?_
  cases nm 65 90 s3
  ·simp only[letB,Bool.not_false,if_true];exact k8 false
  ·simp only[letB,Bool.not_true,Bool.false_eq_true,if_false]
   refine Ev.bO1 G.hn ?_
   simp only[decide_eq_false c,letB,Bool.not_false,if_true]
   refine Ev.bO1 G.ht ?_
   simp only[decide_eq_true ct,letB,Bool.not_true,Bool.false_eq_true,if_false];exact k8 true
 ·simp only[decide_eq_false ct,Bool.false_eq_true,if_false,if_neg ct]
  refine Ev.bO1 G.hn ?_
  simp only[decide_eq_false c,letB,Bool.not_false,if_true]
  refine Ev.bO1 G.ht ?_
  simp only[decide_eq_false ct,letB,Bool.not_false,if_true]
  by_cases e:s3=ByteArray.empty
  ·simp only[if_pos e,emp,decide_eq_true e];exact k8 true
  ·simp only[if_neg e,emp,decide_eq_false e];exact k8 false
theorem g5 (h3:s3.size≤maxLen) (h4:s4.size≤maxLen) (h5:s5.size≤maxLen) (h6:ListS tab 9 l6) (hA:Ev (fun n=>L84_10 n z1 l7 deep (0:Int)) A):
  Ev (fun n=>L84_5 n z1 z2 s3 s4 s5 l6 l7 z8 deep f) (placB z1 hp s5 l6 l7&&(nameB z1 s3&&(secB z1 s4&&A))):=by
 have k7:=g7 G h3 h4 hA
 refine .succ ?_
 simp only[L84_5]
 refine Ev.bO1 G.h112 ?_
 cases hp
 ·simp only[Bool.false_eq_true,if_false,placB]
  refine Ev.bO1 G.hf ?_
  by_cases c:z1=19
  ·simp only[decide_eq_true c,if_true,if_pos c]
   refine Ev.bO1 (ev43 h6) ?_
   cases fldB s5 l6 l7
   ·simp only[letB,Bool.not_false,if_true,Bool.false_and];exact Ev.ret
   ·simp only[letB,Bool.not_true,Bool.false_eq_true,if_false,Bool.true_and];exact k7
  ·simp only[decide_eq_false c,Bool.false_eq_true,if_false,if_neg c]
   have k6:∀b,Ev (fun n=>L84_6 n z1 s3 s4 l7 deep f (!b)) (b&&(nameB z1 s3&&(secB z1 s4&&A))):=by
    intro b
    refine .succ ?_
    cases b
    ·simp only[L84_6,Bool.not_false,if_true,Bool.false_and];exact Ev.ret
    ·simp only[L84_6,Bool.not_true,Bool.false_eq_true,if_false,Bool.true_and];exact k7
   by_cases e:s5=ByteArray.empty
   ·simp only[if_pos e,emp,decide_eq_true e,Bool.true_and,lenF]
    by_cases e2:l6.length=0
    ·simp only[if_neg (show ¬0<(l6.length:Int)by omega),decide_eq_true e2];exact k6 true
    ·simp only[if_pos (show 0<(l6.length:Int)by omega),decide_eq_false e2];exact k6 false
   ·simp only[if_neg e,emp,decide_eq_false e,Bool.false_and];exact k6 false
 ·simp only[if_true,placB]
  refine Ev.bO1 (ev25 h5 h6) ?_
  cases plB s5 l6
  ·simp only[letB,Bool.not_false,if_true,Bool.false_and];exact Ev.ret
  ·simp only[letB,Bool.not_true,Bool.false_eq_true,if_false,Bool.true_and];exact k7
theorem g1 (h3:s3.size≤maxLen) (h4:s4.size≤maxLen) (h5:s5.size≤maxLen) (h6:ListS tab 9 l6) (hA:Ev (fun n=>L84_10 n z1 l7 deep (0:Int)) A):
  Ev (fun n=>L84_1 n z1 z2 s3 s4 s5 l6 l7 z8 deep f false) (intB z1 z2&&(placB z1 hp s5 l6 l7&&(nameB z1 s3&&(secB z1 s4&&A)))):=by
 have k5:=g5 (z2:=z2) (z8:=z8) G h3 h4 h5 h6 hA
 refine .succ ?_
 simp only[L84_1,Bool.false_eq_true,if_false]
 refine Ev.bO1 G.hi ?_
 by_cases c1:z1=1
 ·simp only[decide_eq_true c1,if_true,intB,if_pos c1]
  by_cases c:0≤z2
  ·simp only[if_neg (show ¬z2<0 by omega),decide_eq_true c,Bool.true_and]
   exact .succ (by simp only[L84_2,Bool.false_eq_true,if_false];exact k5)
  ·simp only[if_pos (show z2<0 by omega),decide_eq_false c,Bool.false_and]
   exact .succ (by simp only[L84_2,if_true];exact Ev.ret)
 simp only[decide_eq_false c1,Bool.false_eq_true,if_false,intB,if_neg c1]
 refine Ev.bO1 G.hb ?_
 by_cases c2:z1=2
 ·simp only[decide_eq_true c2,if_true,if_pos c2]
  have y:Ev (fun n=>L84_3 n z1 z2 s3 s4 s5 l6 l7 z8 deep f false) (placB z1 hp s5 l6 l7&&(nameB z1 s3&&(secB z1 s4&&A))):=.succ (by simp only[L84_3,Bool.false_eq_true,if_false];exact k5)
  by_cases c:z2=0
  ·simp only[if_pos c,decide_eq_true c,Bool.true_or,Bool.true_and];exact y
  ·by_cases d:z2=1
   ·simp only[if_neg c,if_pos d,decide_eq_true d,Bool.or_true,Bool.true_and];exact y
   ·simp only[if_neg c,if_neg d,decide_eq_false c,decide_eq_false d,Bool.or_false,Bool.false_and]
    exact .succ (by simp only[L84_3,if_true];exact Ev.ret)
 ·simp only[decide_eq_false c2,Bool.false_eq_true,if_false,if_neg c2]
  by_cases c:z2=0
  ·simp only[if_pos c,decide_eq_true c,Bool.true_and]
   exact .succ (by simp only[L84_4,Bool.false_eq_true,if_false];exact k5)
  ·simp only[if_neg c,decide_eq_false c,Bool.false_and]
   exact .succ (by simp only[L84_4,if_true];exact Ev.ret)
end
end Go.Proofs.YtjmofeakajdbiaaGreatDoor
end
set_option linter.unusedVariables false
noncomputable section
namespace Go.Proofs.YtjmofeakajdbiaaGreatDoor
open Go Go.AM
theorem getF_zero {γ:Type}(x:D) (l:List D) (k:D→Option γ):getF (x::l) (0:Int) k=k x:=getF_nat (i:=0) rfl
theorem evk {α:Type}{A:Nat→Option α}{r:α}(h:∀m,A (m+300)=some r):Ev A r:=⟨300,fun n hn=>by obtain⟨m,rfl⟩:∃m,n=m+300:=⟨n - 300,by omega⟩;exact h m⟩
set_option maxRecDepth 100000 in
set_option maxHeartbeats 40000000 in
theorem aw0:Ev (fun n=>F10 n []) true:=evk (fun m=>by kernel_rfl)
set_option maxRecDepth 100000 in
set_option maxHeartbeats 40000000 in
theorem aw1:Ev (fun n=>F10 n [(.agg [.int .u8 3,.str k_main,.list true 4 [],.int .u8 1,.str ByteArray.empty,.list true 3 [],.list true 15 [],.int .u8 1,.int .i64 0,.str ByteArray.empty,.str ByteArray.empty,.str ByteArray.empty,.list false 1 [],.list true 8 [],.int .i64 0,.int .i64 0]:D)]) true:=evk (fun m=>by kernel_rfl)
set_option maxRecDepth 100000 in
set_option maxHeartbeats 40000000 in
theorem aw2:Ev (fun n=>F12 n [(.agg [.int .u8 3,.str k_main,.list true 4 [],.int .u8 1,.str ByteArray.empty,.list true 3 [],.list true 15 [],.int .u8 1,.int .i64 0,.str ByteArray.empty,.str ByteArray.empty,.str ByteArray.empty,.list false 1 [],.list true 8 [],.int .i64 0,.int .i64 0]:D)]) (3:Int):=evk (fun m=>by kernel_rfl)
set_option maxRecDepth 100000 in
set_option maxHeartbeats 40000000 in
theorem aw3:Ev (fun n=>F14 n [(.agg [.int .u8 3,.str k_main,.list true 4 [],.int .u8 1,.str ByteArray.empty,.list true 3 [],.list true 15 [],.int .u8 1,.int .i64 0,.str ByteArray.empty,.str ByteArray.empty,.str ByteArray.empty,.list false 1 [],.list true 8 [],.int .i64 0,.int .i64 0]:D)]) (2:Int):=evk (fun m=>by kernel_rfl)
set_option maxRecDepth 100000 in
set_option maxHeartbeats 40000000 in
theorem aw4:Ev (fun n=>F12 n []) (1:Int):=evk (fun m=>by kernel_rfl)
set_option maxRecDepth 100000 in
set_option maxHeartbeats 40000000 in
theorem aw5:Ev (fun n=>F21 n (1:Int) ByteArray.empty ([]:List D)) true:=evk (fun m=>by kernel_rfl)
set_option maxRecDepth 100000 in
set_option maxHeartbeats 40000000 in
theorem aw6:Ev (fun n=>F21 n (5:Int) ByteArray.empty ([]:List D)) false:=evk (fun m=>by kernel_rfl)
set_option maxRecDepth 100000 in
set_option maxHeartbeats 40000000 in
theorem aw7:Ev (fun n=>F21 n (1:Int) k_T ([]:List D)) false:=evk (fun m=>by kernel_rfl)
set_option maxRecDepth 100000 in
set_option maxHeartbeats 40000000 in
theorem aw8:Ev (fun n=>F20 n (1:Int) (-1:Int) ByteArray.empty ByteArray.empty ByteArray.empty ([]:List D) ([]:List D) (0:Int)) false:=evk (fun m=>by kernel_rfl)
set_option maxRecDepth 100000 in
set_option maxHeartbeats 40000000 in
theorem aw9:Ev (fun n=>F20 n (5:Int) (0:Int) ByteArray.empty ByteArray.empty k_x ([]:List D) ([]:List D) (0:Int)) false:=evk (fun m=>by kernel_rfl)
set_option maxRecDepth 100000 in
set_option maxHeartbeats 40000000 in
theorem aw10:Ev (fun n=>F20 n (18:Int) (0:Int) k_f ByteArray.empty ByteArray.empty ([]:List D) [(.agg [.int .u8 5,.int .i64 0,.str ByteArray.empty,.str ByteArray.empty,.str k_x,.list false 1 [],.list true 8 [],.int .i64 0]:D)] (0:Int)) true:=evk (fun m=>by kernel_rfl)
set_option maxRecDepth 100000 in
set_option maxHeartbeats 40000000 in
theorem aw11:Ev (fun n=>F52 n k_x [.str k_a,.str k__]) true:=evk (fun m=>by kernel_rfl)
set_option maxRecDepth 100000 in
set_option maxHeartbeats 40000000 in
theorem aw12:Ev (fun n=>F52 n k_X []) false:=evk (fun m=>by kernel_rfl)
set_option maxRecDepth 100000 in
set_option maxHeartbeats 40000000 in
theorem aw13:Ev (fun n=>F25 n [(.agg [.int .u8 3,.str k_main,.list true 4 [],.int .u8 1,.str ByteArray.empty,.list true 3 [],.list true 15 [],.int .u8 1,.int .i64 0,.str ByteArray.empty,.str ByteArray.empty,.str ByteArray.empty,.list false 1 [],.list true 8 [],.int .i64 0,.int .i64 0]:D)] [(.agg [.int .u8 3,.str k_main,.list true 4 [],.int .u8 1,.str ByteArray.empty,.list true 3 [],.list true 15 [],.int .u8 1,.int .i64 0,.str ByteArray.empty,.str ByteArray.empty,.str ByteArray.empty,.list false 1 [],.list true 8 [],.int .i64 0,.int .i64 7]:D)]) true:=evk (fun m=>by kernel_rfl)
set_option maxRecDepth 100000 in
set_option maxHeartbeats 40000000 in
theorem aw14:Ev (fun n=>F115 n []) ([]:List D):=evk (fun m=>by kernel_rfl)
set_option maxRecDepth 100000 in
set_option maxHeartbeats 40000000 in
theorem aw15:Ev (fun n=>F102 n 1 ByteArray.empty []) ((1:Int),ByteArray.empty,([]:List D)):=evk (fun m=>by kernel_rfl)
set_option maxRecDepth 100000 in
set_option maxHeartbeats 40000000 in
theorem aw16:Ev (fun n=>F109 n []) ([]:List D):=evk (fun m=>by kernel_rfl)
set_option maxRecDepth 100000 in
set_option maxHeartbeats 40000000 in
theorem aw17:Ev (fun n=>F107 n []) ([]:List D):=evk (fun m=>by kernel_rfl)
theorem ev105:Ev (fun n=>F105 n []) []:=by
 have h:Ev (fun n=>L105_1 n [] false) ([]:List D):=.succ (by simp[L105_1,appF];exact .ret)
 have h':Ev (fun n=>L105_1 n [] true) ([]:List D):=.succ (by simp[L105_1];exact .ret)
 obtain⟨N,hN⟩:=h
 obtain⟨N',hN'⟩:=h'
 refine⟨N+N',fun n hn=>?_⟩
 have e1:=hN n (by omega)
 have e2:=hN' n (by omega)
 show nilF _ _ _=_
 rw[nilF_eq (fun _=>by rw[show L105_1 n [] true=_ from e2,show L105_1 n [] false=_ from e1])]
 exact e1
theorem ev24k:Ev (fun n=>F24 n [(.agg [.int .u8 3,.str k_main,.list true 4 [],.int .u8 1,.str ByteArray.empty,.list true 3 [],.list true 15 [],.int .u8 1,.int .i64 0,.str ByteArray.empty,.str ByteArray.empty,.str ByteArray.empty,.list false 1 [],.list true 8 [],.int .i64 0,.int .i64 7]:D)]) [(.agg [.int .u8 3,.str k_main,.list true 4 [],.int .u8 1,.str ByteArray.empty,.list true 3 [],.list true 15 [],.int .u8 1,.int .i64 0,.str ByteArray.empty,.str ByteArray.empty,.str ByteArray.empty,.list false 1 [],.list true 8 [],.int .i64 0,.int .i64 0]:D)]:=by
 have h106:Ev (fun n=>F106 n 1 0 ByteArray.empty ByteArray.empty ByteArray.empty [] [] 0) (1,0,ByteArray.empty,ByteArray.empty,ByteArray.empty,[],[]):=by
  refine .succ ?_
  simp only[F106,F104]
  refine Ev.bO2 (Ev.bO1 ev105 .ret) (Ev.bO1 aw17 ?_)
  exact .of fun n=>rfl
 have h114:Ev (fun n=>F114 n 3 k_main [] 1 ByteArray.empty [] [] 1 0 ByteArray.empty ByteArray.empty ByteArray.empty [] [] 0 7) (3,k_main,[],1,ByteArray.empty,[],[],1,0,ByteArray.empty,ByteArray.empty,ByteArray.empty,[],[]):=by
  unfold F114
  refine Ev.bO1 aw14 (Ev.bO3 aw15 (Ev.bO1 aw16 (Ev.bO7 h106 ?_)))
  exact .of fun n=>rfl
 unfold F24 F56 F113
 refine Ev.bO1 (Ev.bO1 ?_ .ret) .ret
 simp only[lenF]
 refine .succ ?_
 simp only[L113_1,List.length_cons,List.length_nil,show (0:Int)<((0+1:Nat):Int)by decide,if_true]
 refine .succ ?_
 simp only[L113_2,if_true,getF_zero,ds_t45]
 refine Ev.bO14 h114 ?_
 simp only[appF,List.length_nil,List.length_cons,letF]
 simp only[if_pos (show 0+(0+1)≤maxLen∧(0+(0+1))*248≤140737488355328 by decide)]
 refine .succ ?_
 simp only[L113_1,if_neg (show ¬IntKind.wrap .i64 ((0:Int)+1)<((0+1:Nat):Int)by decide)]
 refine .succ ?_
 simp only[L113_2,Bool.false_eq_true,if_false]
 exact .ret
theorem ev_awake:Ev (fun n=>F17 n) true:=by
 have h22:Ev (fun n=>F22 n) [(.agg [.int .u8 3,.str k_main,.list true 4 [],.int .u8 1,.str ByteArray.empty,.list true 3 [],.list true 15 [],.int .u8 1,.int .i64 0,.str ByteArray.empty,.str ByteArray.empty,.str ByteArray.empty,.list false 1 [],.list true 8 [],.int .i64 0,.int .i64 0]:D)]:=.of fun n=>rfl
 refine Ev.bO1 h22 (Ev.bO1 h22 ?_)
 refine (Ev.bO1 ev24k (k:=fun n l21=>lenF l21 fun z22=>(if z22=(1:Int)then L17_1 n [(.agg [.int .u8 3,.str k_main,.list true 4 [],.int .u8 1,.str ByteArray.empty,.list true 3 [],.list true 15 [],.int .u8 1,.int .i64 0,.str ByteArray.empty,.str ByteArray.empty,.str ByteArray.empty,.list false 1 [],.list true 8 [],.int .i64 0,.int .i64 0]:D)] [(.agg [.int .u8 3,.str k_main,.list true 4 [],.int .u8 1,.str ByteArray.empty,.list true 3 [],.list true 15 [],.int .u8 1,.int .i64 0,.str ByteArray.empty,.str ByteArray.empty,.str ByteArray.empty,.list false 1 [],.list true 8 [],.int .i64 0,.int .i64 7]:D)] l21 false else L17_1 n [(.agg [.int .u8 3,.str k_main,.list true 4 [],.int .u8 1,.str ByteArray.empty,.list true 3 [],.list true 15 [],.int .u8 1,.int .i64 0,.str ByteArray.empty,.str ByteArray.empty,.str ByteArray.empty,.list false 1 [],.list true 8 [],.int .i64 0,.int .i64 0]:D)] [(.agg [.int .u8 3,.str k_main,.list true 4 [],.int .u8 1,.str ByteArray.empty,.list true 3 [],.list true 15 [],.int .u8 1,.int .i64 0,.str ByteArray.empty,.str ByteArray.empty,.str ByteArray.empty,.list false 1 [],.list true 8 [],.int .i64 0,.int .i64 7]:D)] l21 true)) ?_).congr fun n=>rfl
 simp only[lenF,List.length_cons,List.length_nil,show ((0+1:Nat):Int)=1 from rfl,if_true]
 refine .succ ?_
 simp only[L17_1,Bool.false_eq_true,if_false]
 refine Ev.bO1 aw0 ?_
 simp only[if_true]
 refine Ev.bO1 aw1 ?_
 simp only[if_true]
 refine Ev.bO1 aw2 ?_
 simp only[if_true]
 refine Ev.bO1 aw3 ?_
 simp only[if_true]
 refine Ev.bO1 aw4 ?_
 simp only[if_true]
 refine Ev.bO1 aw5 ?_
 simp only[if_true]
 refine Ev.bO1 aw6 ?_
 simp only[letB,Bool.not_false,if_true]
 refine Ev.bO1 aw7 ?_
 simp only[letB,Bool.not_false,if_true]
 refine Ev.bO1 aw8 ?_
 simp only[letB,Bool.not_false,if_true]
 refine Ev.bO1 aw9 ?_
 simp only[letB,Bool.not_false,if_true,letL]
 refine Ev.bO1 aw10 ?_
 simp only[if_true]
 refine Ev.bO1 aw11 ?_
 simp only[if_true]
 refine Ev.bO1 aw12 ?_
 simp only[letB,Bool.not_false,if_true]
 refine Ev.bO1 aw13 ?_
 exact .of fun n=>rfl
end Go.Proofs.YtjmofeakajdbiaaGreatDoor
set_option linter.unusedVariables false
noncomputable section
namespace Go.Proofs.YtjmofeakajdbiaaGreatDoor
open Go Go.AM
section
variable {α β γ:Type}
theorem tr {r:α}:Total (fun _=>some r):=⟨r,.ret⟩
theorem t_of {A:Nat→Option α}{r:α}(h:Ev A r):Total A:=⟨r,h⟩
theorem tu {A:Nat→Option α}(h:Total fun n=>A (n+1)):Total A:=h.imp fun _ h=>.succ h
theorem t1 {A:Nat→Option α}{k:Nat→α→Option γ}(ha:Total A) (hk:∀a,Total fun n=>k n a):Total fun n=>bO1 (A n) (k n):=by
 obtain⟨a,ha⟩:=ha
 obtain⟨r,h⟩:=hk a
 exact⟨r,.bO1 ha h⟩
theorem t2 {A:Nat→Option (α×β)}{k:Nat→α→β→Option γ}(ha:Total A) (hk:∀a b,Total fun n=>k n a b):Total fun n=>bO2 (A n) (k n):=by
 obtain⟨⟨a,b⟩,ha⟩:=ha
 obtain⟨r,h⟩:=hk a b
 exact⟨r,.bO2 ha h⟩
theorem t3 {A1 A2 A3:Type}{A:Nat→Option (A1×A2×A3)}{k:Nat→A1→A2→A3→Option γ}(ha:Total A) (hk:∀a b c,Total fun n=>k n a b c):Total fun n=>bO3 (A n) (k n):=by
 obtain⟨⟨a,b,c⟩,ha⟩:=ha
 obtain⟨r,h⟩:=hk a b c
 exact⟨r,.bO3 ha h⟩
theorem t4 {A1 A2 A3 A4:Type}{A:Nat→Option (A1×A2×A3×A4)}{k:Nat→A1→A2→A3→A4→Option γ}(ha:Total A) (hk:∀a b c d,Total fun n=>k n a b c d):Total fun n=>bO4 (A n) (k n):=by
 obtain⟨⟨a,b,c,d⟩,ha⟩:=ha
 obtain⟨r,h⟩:=hk a b c d
 exact⟨r,.bO4 ha h⟩
theorem ti {c:Prop} [Decidable c] {A B:Nat→Option γ}(h1:Total A) (h2:Total B):Total fun n=>if c then A n else B n:=by
 by_cases h:c
 ·simp only[if_pos h];exact h1
 ·simp only[if_neg h];exact h2
end
theorem t_F73 {s:ByteArray}(h:s.size≤maxLen):Total fun n=>F73 n s:=t_of (ev15 h)
theorem t_F74 {s:ByteArray}(h:s.size≤maxLen):Total fun n=>F74 n s:=t_of (ev13 h)
end Go.Proofs.YtjmofeakajdbiaaGreatDoor
end
set_option linter.unusedVariables false
noncomputable section
namespace Go.Proofs.YtjmofeakajdbiaaGreatDoor
open Go Go.AM
theorem t_F55 (l:List D):ListS tab 33 l→∀(z1:Int) (s2:ByteArray) (z4:Int),s2.size≤maxLen→Total fun n=>F55 n z1 s2 l z4:=by
 refine list_ind (P:=fun l=>ListS tab 33 l→∀(z1:Int) (s2:ByteArray) (z4:Int),s2.size≤maxLen→Total fun n=>F55 n z1 s2 l z4) (fun l ih h=>?_) l
 have t_end100:∀(z2 zi:Int) (z5:Int),Total fun n=>L100_2 n l z2 zi z5 false:=by
  intros
  exact tu (by simp only[L100_2,Bool.false_eq_true,if_false,lenF];exact ti tr tr)
 have t_loop100:∀(z2:Int) (i:Nat),i≤l.length→∀(z5:Int),Total fun n=>L100_1 n l z2 (i:Int) z5:=by
  intro z2
  refine down l.length ?_ ?_
  ·intros
   exact tu (by simp only[L100_1,lenF,Int.lt_irrefl,if_false];exact t_end100 _ _ _)
  ·intro i hi ihl z5
   obtain⟨x,hx,hm,hr⟩:=h.get hi
   obtain⟨a0,a1,a2,rfl,w0,w1,w2⟩:=rs33 hr
   have hrec:=fun z=>ih a2 (size_row (ag:=true) (sz:=3) hm (by simp)) w2 a0 a1 z w1
   have t_101:∀{z:Int},Total fun n=>F101 n a0 a1 a2 z:=by
    intros
    exact tu (by simp only[F101,letF];exact t1 (hrec _) fun _=>tr)
   refine tu ?_
   simp only[L100_1,lenF,if_pos (ilt hi)]
   refine ti ?_ (t_end100 _ _ _)
   refine tu ?_
   simp only[L100_2,if_true,getF_nat hx,ds_t33,letF,wrap_succ hi h.1,letB]
   exact t2 t_101 fun _ _=>ti tr ((ihl _))
 have t_F100:∀{z2 z3:Int},Total fun n=>F100 n l z2 z3:=by
  intros
  exact tu (by simp only[F100];exact t_loop100 _ 0 (Nat.zero_le _) _)
 intro z1 s2 z4 hs
 have t_L55_7:∀{z1 z4 z12:Int} {b13:Bool},Total (fun n=>L55_7 n z1 l z4 z12 b13):=by
  intros
  exact tu (by simp only[L55_7,lenF];exact ti (ti (ti (ti (ti (t2 t_F100 fun _ _=>tr) tr) tr) tr) tr) tr)
 have t_L55_6:∀{z1 z4:Int} {b5 b10:Bool},Total (fun n=>L55_6 n z1 s2 l z4 b5 b10):=by
  intros
  exact tu (by simp only[L55_6];exact ti (t1 ((t_F73 ‹_›)) fun _=>t_L55_7) t_L55_7)
 have t_L55_5:∀{z1 z4:Int} {b5 b9:Bool},Total (fun n=>L55_5 n z1 s2 l z4 b5 b9):=by
  intros
  exact tu (by simp only[L55_5];exact ti t_L55_7 (ti t_L55_6 t_L55_6))
 have t_L55_4:∀{z1 z4:Int} {b5 b8:Bool},Total (fun n=>L55_4 n z1 s2 l z4 b5 b8):=by
  intros
  exact tu (by simp only[L55_4];exact ti t_L55_5 (ti t_L55_5 t_L55_5))
 have t_L55_3:∀{z1 z4:Int} {b5 b7:Bool},Total (fun n=>L55_3 n z1 s2 l z4 b5 b7):=by
  intros
  exact tu (by simp only[L55_3];exact ti t_L55_5 (ti t_L55_4 t_L55_4))
 have t_L55_2:∀{z1 z4:Int} {b5 b6:Bool},Total (fun n=>L55_2 n z1 s2 l z4 b5 b6):=by
  intros
  exact tu (by simp only[L55_2];exact ti t_L55_5 (ti t_L55_3 t_L55_3))
 have t_L55_1:∀{z1 z4:Int} {b5:Bool},Total (fun n=>L55_1 n z1 s2 l z4 b5):=by
  intros
  exact tu (by simp only[L55_1];exact ti t_L55_2 t_L55_2)
 exact tu (by simp only[F55];exact ti t_L55_1 t_L55_1)
theorem t_F52 {s:ByteArray}{l:List D}(hs:s.size≤maxLen) (h:ListS tab 9 l):Total fun n=>F52 n s l:=t_of (ev24 hs h)
theorem t_F93a {l:List D}(h:ListS tab 9 l) {z2:Int}:Total fun n=>F93x1 n l z2:=by
 have t_end93x1:∀(z2 zi:Int),Total fun n=>L93x1_2 n l z2 zi  false:=by
  intros
  exact tu (by simp only[L93x1_2,Bool.false_eq_true,if_false,lenF];exact ti tr tr)
 have t_loop93x1:∀(z2:Int) (i:Nat),i≤l.length→Total fun n=>L93x1_1 n l z2 (i:Int):=by
  intro z2
  refine down l.length ?_ ?_
  ·intros
   exact tu (by simp only[L93x1_1,lenF,Int.lt_irrefl,if_false];exact t_end93x1 _ _)
  ·intro i hi ihl
   obtain⟨x,hx,hm,hr⟩:=h.get hi
   obtain⟨a0,rfl,w0⟩:=rs9 hr
   refine tu ?_
   simp only[L93x1_1,lenF,if_pos (ilt hi)]
   refine ti ?_ (t_end93x1 _ _)
   refine tu ?_
   simp only[L93x1_2,if_true,getF_nat hx,ds_str,letF,wrap_succ hi h.1,letB]
   exact t1 ((t_F74 w0)) fun _=>ti tr ihl
 have t_F93x1:∀{z2:Int},Total fun n=>F93x1 n l z2:=by
  intros
  exact (by unfold F93x1;exact t_loop93x1 _ 0 (Nat.zero_le _))
 exact t_F93x1
theorem t_L95_26:∀{z1:Int}{b27:Bool},Total (fun n=>L95_26 n z1 b27):=by
 intros
 exact tu (by simp only[L95_26];exact ti tr (ti (ti tr tr) tr))
theorem t_L95_25:∀{z1:Int}{b26:Bool},Total (fun n=>L95_25 n z1 b26):=by
 intros
 exact tu (by simp only[L95_25];exact ti t_L95_26 (ti t_L95_26 t_L95_26))
theorem t_L95_24:∀{z1:Int}{b25:Bool},Total (fun n=>L95_24 n z1 b25):=by
 intros
 exact tu (by simp only[L95_24];exact ti t_L95_26 (ti t_L95_25 t_L95_25))
theorem t_L95_23:∀{z1:Int}{b24:Bool},Total (fun n=>L95_23 n z1 b24):=by
 intros
 exact tu (by simp only[L95_23];exact ti t_L95_26 (ti t_L95_24 t_L95_24))
theorem t_L95_22:∀{z1:Int}{b23:Bool},Total (fun n=>L95_22 n z1 b23):=by
 intros
 exact tu (by simp only[L95_22];exact ti t_L95_26 (ti t_L95_23 t_L95_23))
theorem t_L95_21:∀{z1:Int}{b22:Bool},Total (fun n=>L95_21 n z1 b22):=by
 intros
 exact tu (by simp only[L95_21];exact ti t_L95_26 (ti t_L95_22 t_L95_22))
theorem t_L95_20:∀{z1:Int}{b21:Bool},Total (fun n=>L95_20 n z1 b21):=by
 intros
 exact tu (by simp only[L95_20];exact ti t_L95_26 (ti t_L95_21 t_L95_21))
theorem t_L95_19:∀{z1:Int}{b20:Bool},Total (fun n=>L95_19 n z1 b20):=by
 intros
 exact tu (by simp only[L95_19];exact ti t_L95_26 (ti t_L95_20 t_L95_20))
theorem t_L95_18:∀{z1:Int}{b19:Bool},Total (fun n=>L95_18 n z1 b19):=by
 intros
 exact tu (by simp only[L95_18];exact ti t_L95_26 (ti t_L95_19 t_L95_19))
theorem t_L95_17:∀{z1:Int}{b18:Bool},Total (fun n=>L95_17 n z1 b18):=by
 intros
 exact tu (by simp only[L95_17];exact ti tr (ti t_L95_18 t_L95_18))
theorem t_L95_16:∀{z1:Int}{b17:Bool},Total (fun n=>L95_16 n z1 b17):=by
 intros
 exact tu (by simp only[L95_16];exact ti tr (ti t_L95_17 t_L95_17))
theorem t_L95_15:∀{z1:Int}{b16:Bool},Total (fun n=>L95_15 n z1 b16):=by
 intros
 exact tu (by simp only[L95_15];exact ti t_L95_16 (ti t_L95_16 t_L95_16))
theorem t_L95_14:∀{z1:Int}{b15:Bool},Total (fun n=>L95_14 n z1 b15):=by
 intros
 exact tu (by simp only[L95_14];exact ti tr (ti t_L95_15 t_L95_15))
theorem t_L95_13:∀{z1:Int}{b14:Bool},Total (fun n=>L95_13 n z1 b14):=by
 intros
 exact tu (by simp only[L95_13];exact ti t_L95_14 (ti t_L95_14 t_L95_14))
theorem t_L95_12:∀{z1:Int}{b13:Bool},Total (fun n=>L95_12 n z1 b13):=by
 intros
 exact tu (by simp only[L95_12];exact ti t_L95_14 (ti t_L95_13 t_L95_13))
theorem t_L95_11:∀{z1:Int}{b12:Bool},Total (fun n=>L95_11 n z1 b12):=by
 intros
 exact tu (by simp only[L95_11];exact ti t_L95_14 (ti t_L95_12 t_L95_12))
theorem t_L95_10:∀{z1:Int}{b11:Bool},Total (fun n=>L95_10 n z1 b11):=by
 intros
 exact tu (by simp only[L95_10];exact ti tr (ti t_L95_11 t_L95_11))
theorem t_L95_9:∀{z1:Int}{b10:Bool},Total (fun n=>L95_9 n z1 b10):=by
 intros
 exact tu (by simp only[L95_9];exact ti t_L95_10 (ti t_L95_10 t_L95_10))
theorem t_L95_8:∀{z1:Int}{b9:Bool},Total (fun n=>L95_8 n z1 b9):=by
 intros
 exact tu (by simp only[L95_8];exact ti t_L95_10 (ti t_L95_9 t_L95_9))
theorem t_L95_7:∀{z1:Int}{b8:Bool},Total (fun n=>L95_7 n z1 b8):=by
 intros
 exact tu (by simp only[L95_7];exact ti t_L95_10 (ti t_L95_8 t_L95_8))
theorem t_L95_6:∀{z1:Int}{b7:Bool},Total (fun n=>L95_6 n z1 b7):=by
 intros
 exact tu (by simp only[L95_6];exact ti t_L95_10 (ti t_L95_7 t_L95_7))
theorem t_L95_5:∀{z1:Int}{b6:Bool},Total (fun n=>L95_5 n z1 b6):=by
 intros
 exact tu (by simp only[L95_5];exact ti t_L95_10 (ti t_L95_6 t_L95_6))
theorem t_L95_4:∀{z1:Int}{b5:Bool},Total (fun n=>L95_4 n z1 b5):=by
 intros
 exact tu (by simp only[L95_4];exact ti t_L95_10 (ti t_L95_5 t_L95_5))
theorem t_L95_3:∀{z1:Int}{b4:Bool},Total (fun n=>L95_3 n z1 b4):=by
 intros
 exact tu (by simp only[L95_3];exact ti tr (ti t_L95_4 t_L95_4))
theorem t_L95_2:∀{z1:Int}{b3:Bool},Total (fun n=>L95_2 n z1 b3):=by
 intros
 exact tu (by simp only[L95_2];exact ti t_L95_3 (ti t_L95_3 t_L95_3))
theorem t_L95_1:∀{z1:Int}{b2:Bool},Total (fun n=>L95_1 n z1 b2):=by
 intros
 exact tu (by simp only[L95_1];exact ti t_L95_3 (ti t_L95_2 t_L95_2))
theorem t_F95:∀{z1:Int},Total (fun n=>F95 n z1):=by
 intros
 exact (by unfold F95;exact ti t_L95_1 t_L95_1)
theorem t_L96_7:∀{b21 b22 b23:Bool},Total (fun n=>L96_7 n b21 b22 b23):=by
 intros
 exact tu (by simp only[L96_7];exact ti (ti tr tr) tr)
theorem t_L96_6:∀{s3 s4:ByteArray}{b9 b10 b11 b18:Bool},s3.size≤maxLen→s4.size≤maxLen→Total (fun n=>L96_6 n s3 s4 b9 b10 b11 b18):=by
 intros
 exact tu (by simp only[L96_6];exact ti (t1 ((t_F73 ‹_›)) fun _=>t1 ((t_F73 ‹_›)) fun _=>t_L96_7) t_L96_7)
theorem t_L96_5:∀{z1:Int}{s3 s4:ByteArray}{b9 b10 b11 b16:Bool},s3.size≤maxLen→s4.size≤maxLen→Total (fun n=>L96_5 n z1 s3 s4 b9 b10 b11 b16):=by
 intros
 exact tu (by simp only[L96_5];exact ti (t1 ((t_F73 ‹_›)) fun _=>t_L96_7) (ti ((t_L96_6 ‹_› ‹_›)) ((t_L96_6 ‹_› ‹_›))))
theorem t_L96_4:∀{z1:Int}{s3 s4:ByteArray}{b9 b10 b11 b14:Bool},s3.size≤maxLen→s4.size≤maxLen→Total (fun n=>L96_4 n z1 s3 s4 b9 b10 b11 b14):=by
 intros
 exact tu (by simp only[L96_4];exact ti (t1 ((t_F74 ‹_›)) fun _=>t_L96_7) (ti ((t_L96_5 ‹_› ‹_›)) ((t_L96_5 ‹_› ‹_›))))
theorem t_L96_3:∀{z1 z2:Int}{s3 s4:ByteArray}{b9 b10 b11 b13:Bool},s3.size≤maxLen→s4.size≤maxLen→Total (fun n=>L96_3 n z1 z2 s3 s4 b9 b10 b11 b13):=by
 intros
 exact tu (by simp only[L96_3];exact ti (ti t_L96_7 (ti t_L96_7 t_L96_7)) (ti ((t_L96_4 ‹_› ‹_›)) ((t_L96_4 ‹_› ‹_›))))
theorem t_L96_2:∀{z1 z2:Int}{s3 s4:ByteArray}{b9 b10 b11 b12:Bool},s3.size≤maxLen→s4.size≤maxLen→Total (fun n=>L96_2 n z1 z2 s3 s4 b9 b10 b11 b12):=by
 intros
 exact tu (by simp only[L96_2];exact ti (ti t_L96_7 t_L96_7) (ti ((t_L96_3 ‹_› ‹_›)) ((t_L96_3 ‹_› ‹_›))))
theorem t_L96_1:∀{z1 z2:Int}{s3 s4:ByteArray}{b9 b10 b11:Bool},s3.size≤maxLen→s4.size≤maxLen→Total (fun n=>L96_1 n z1 z2 s3 s4 b9 b10 b11):=by
 intros
 exact tu (by simp only[L96_1];exact ti ((t_L96_2 ‹_› ‹_›)) ((t_L96_2 ‹_› ‹_›)))
theorem t_F96:∀{z1 z2:Int}{s3 s4 s5:ByteArray}{l6 l7:List D}{z8:Int},s3.size≤maxLen→s4.size≤maxLen→Total (fun n=>F96 n z1 z2 s3 s4 s5 l6 l7 z8):=by
 intros
 exact (by unfold F96;exact ti (ti (ti ((t_L96_1 ‹_› ‹_›)) ((t_L96_1 ‹_› ‹_›))) (ti ((t_L96_1 ‹_› ‹_›)) ((t_L96_1 ‹_› ‹_›)))) (ti (ti ((t_L96_1 ‹_› ‹_›)) ((t_L96_1 ‹_› ‹_›))) (ti ((t_L96_1 ‹_› ‹_›)) ((t_L96_1 ‹_› ‹_›)))))
theorem t_F126:∀{s1:ByteArray}{l2:List D},Total (fun n=>F126 n s1 l2):=by
 intros
 exact (by unfold F126;simp only[lenF];exact ti (ti tr tr) tr)
theorem t_L97_1:∀{s5:ByteArray}{l6 l7:List D}{b11:Bool},s5.size≤maxLen→ListS tab 9 l6→Total (fun n=>L97_1 n s5 l6 l7 b11):=by
 intros
 exact tu (by simp only[L97_1,lenF];exact ti (ti (ti (t1 ((t_F93a ‹_›)) fun _=>tr) tr) tr) (t1 t_F126 fun _=>tr))
theorem t_F97:∀{z1 z2:Int}{s3 s4 s5:ByteArray}{l6 l7:List D}{z8:Int}{b9:Bool},s5.size≤maxLen→ListS tab 9 l6→Total (fun n=>F97 n z1 z2 s3 s4 s5 l6 l7 z8 b9):=by
 intros
 exact (by unfold F97;exact ti (t1 ((t_F52 ‹_› ‹_›)) fun _=>tr) (ti ((t_L97_1 ‹_› ‹_›)) ((t_L97_1 ‹_› ‹_›))))
end Go.Proofs.YtjmofeakajdbiaaGreatDoor
end
set_option linter.unusedVariables false
noncomputable section
namespace Go.Proofs.YtjmofeakajdbiaaGreatDoor
open Go Go.AM
theorem t_L125_1:∀{z8:Int}{b16:Bool},Total (fun n=>L125_1 n z8 b16):=by
 intros
 exact tu (by simp only[L125_1];exact ti (ti (ti tr tr) tr) (ti tr tr))
theorem t_F125:∀{z1:Int}{s2 s3:ByteArray}{l4:List D}{z5:Int}{s6:ByteArray}{l7:List D}{z8:Int}{s9:ByteArray}{l10 l11 l12 l13 l14:List D}{z15:Int},Total (fun n=>F125 n z1 s2 s3 l4 z5 s6 l7 z8 s9 l10 l11 l12 l13 l14 z15):=by
 intros
 exact (by unfold F125;exact ti t_L125_1 t_L125_1)
theorem t_F145:∀{s1:ByteArray},Total (fun n=>F145 n s1):=by
 intros
 exact (by unfold F145;exact ti tr tr)
theorem x98_2 (n:Nat):L98x2_1 n=L98x1_1 n∧L98x2_2 n=L98x1_2 n:=by
 induction n with
 | zero=>exact⟨rfl,rfl⟩
 | succ n ih=>exact⟨by funext a b c d e f g h i j k l;simp only[L98x2_1,L98x1_1,ih.2],by funext a b c d e f g h i j k l m;simp only[L98x2_2,L98x1_2,ih.1,show F128x1=F128 from rfl]⟩
theorem e98_2:F98x2=F98x1:=by
 funext n a b c d e f g h i j k
 simp only[F98x2,F98x1,(x98_2 _).1]
theorem x98_3 (n:Nat):L98x3_1 n=L98x1_1 n∧L98x3_2 n=L98x1_2 n:=by
 induction n with
 | zero=>exact⟨rfl,rfl⟩
 | succ n ih=>exact⟨by funext a b c d e f g h i j k l;simp only[L98x3_1,L98x1_1,ih.2],by funext a b c d e f g h i j k l m;simp only[L98x3_2,L98x1_2,ih.1,show F128x2=F128 from rfl]⟩
theorem e98_3:F98x3=F98x1:=by
 funext n a b c d e f g h i j k
 simp only[F98x3,F98x1,(x98_3 _).1]
theorem x98_4 (n:Nat):L98x4_1 n=L98x1_1 n∧L98x4_2 n=L98x1_2 n:=by
 induction n with
 | zero=>exact⟨rfl,rfl⟩
 | succ n ih=>exact⟨by funext a b c d e f g h i j k l;simp only[L98x4_1,L98x1_1,ih.2],by funext a b c d e f g h i j k l m;simp only[L98x4_2,L98x1_2,ih.1,show F128x3=F128 from rfl]⟩
theorem e98_4:F98x4=F98x1:=by
 funext n a b c d e f g h i j k
 simp only[F98x4,F98x1,(x98_4 _).1]
theorem x98_5 (n:Nat):L98x5_1 n=L98x1_1 n∧L98x5_2 n=L98x1_2 n:=by
 induction n with
 | zero=>exact⟨rfl,rfl⟩
 | succ n ih=>exact⟨by funext a b c d e f g h i j k l;simp only[L98x5_1,L98x1_1,ih.2],by funext a b c d e f g h i j k l m;simp only[L98x5_2,L98x1_2,ih.1,show F128x4=F128 from rfl]⟩
theorem e98_5:F98x5=F98x1:=by
 funext n a b c d e f g h i j k
 simp only[F98x5,F98x1,(x98_5 _).1]
section
variable {z1:Int}{s2:ByteArray}{l3:List D}{z4:Int}{s5:ByteArray}{l6 l7:List D}{z8 z9:Int}{s10 s11 s12:ByteArray}{l13 l14:List D}{z15 z16:Int}
  (h2:s2.size≤maxLen) (h3:ListS tab 74 l3) (h5:s5.size≤maxLen) (h6:ListS tab 33 l6) (h7:ListS tab 50 l7) (h10:s10.size≤maxLen) (h11:s11.size≤maxLen) (h12:s12.size≤maxLen) (h13:ListS tab 9 l13) (h14:ListS tab 39 l14)
include h2 h3 h5 h6 h7 h10 h11 h12 h13 h14
end
end Go.Proofs.YtjmofeakajdbiaaGreatDoor
end
set_option linter.unusedVariables false
noncomputable section
namespace Go.Proofs.YtjmofeakajdbiaaGreatDoor
open Go Go.AM
theorem Ev.uniq {α:Type}{A:Nat→Option α}{r s:α}(h1:Ev A r) (h2:Ev A s):r=s:=by
 obtain⟨N,h1⟩:=h1
 obtain⟨M,h2⟩:=h2
 have a:=h1 (N+M) (by omega)
 have b:=h2 (N+M) (by omega)
 rw[a]at b
 exact Option.some.inj b
theorem iw {z:Int}(h1: -9223372036854775808≤z) (h2:z≤9223372036854775807):IntKind.i64.wrap z=z:=IntWalk.i64_in _ (by omega)
theorem room26 (s:ByteArray) (z:Int) (h1: -6≤z) (h2:z≤20000):∃r,Ev (fun n=>F26 n s z) r∧ -1≤r∧r≤20000∧(0≤r→r+5≤z):=by
 by_cases h3:z<5
 ·exact⟨-1,.succ (.of fun n=>by unfold F26;rw[if_pos h3,L26_1,if_pos rfl]),by omega,by omega,by omega⟩
 ·have e:IntKind.i64.wrap (z - 5)=z - 5:=iw (by omega) (by omega)
  by_cases h4:z - 5<((bl s).length:Int)
  ·exact⟨-1,.succ (.of fun n=>by unfold F26;rw[if_neg h3,szF_eq];simp only[letF];rw[e,if_pos h4,L26_1,if_pos rfl]),by omega,by omega,by omega⟩
  ·have e2:IntKind.i64.wrap (z - 5 - ((bl s).length:Int))=z - 5 - ((bl s).length:Int):=iw (by omega) (by omega)
   exact⟨z - 5 - ((bl s).length:Int),.succ (.of fun n=>by unfold F26;rw[if_neg h3,szF_eq];simp only[letF];rw[e,if_neg h4,L26_1,if_neg Bool.false_ne_true];simp only[letF];rw[szF_eq,e,e2]),by omega,by omega,by omega⟩
theorem room66 {l:List D}(h:ListS tab 9 l) (z:Int) (h1: -1≤z) (h2:z≤20000):∃r,Ev (fun n=>F66 n l z) r∧ -6≤r∧r≤20000∧(0≤r→r≤z):=by
 have main:∀i:Nat,i≤l.length→∀z,-6≤z→z≤20000→∃r,Ev (fun n=>L66_1 n l (i:Int) z) r∧ -6≤r∧r≤20000∧(0≤r→r≤z):=by
  refine down l.length ?_ ?_
  ·intro z h1 h2
   refine⟨z,.succ (.succ (.of fun n=>?_)),by omega,by omega,by omega⟩
   rw[L66_1];simp only[lenF];rw[if_neg (by omega),L66_2,if_neg Bool.false_ne_true]
  ·intro i hi ih z h1 h2
   by_cases hz:(0:Int)≤z
   ·obtain⟨x,hx,_,hr⟩:=h.get hi
    obtain⟨s,rfl,_⟩:=rs9 hr
    obtain⟨z1,g1,g2,g3,g4⟩:=room26 s z (by omega) h2
    obtain⟨r,k1,k2,k3,k4⟩:=ih z1 (by omega) (by omega)
    refine⟨r,.succ (.succ (Ev.congr (A:=fun n=>bO1 (F26 n s z) fun z10=>L66_1 n l ((i+1:Nat):Int) z10) (Ev.bO1 g1 k1) fun n=>?_)),k2,k3,by omega⟩
    rw[L66_1];simp only[lenF];rw[if_pos (by omega),if_pos hz,L66_2,if_pos rfl,getF_nat hx]
    simp only[ds_str,letF,wrap_succ hi h.1]
   ·refine⟨z,.succ (.succ (.of fun n=>?_)),by omega,by omega,by omega⟩
    rw[L66_1];simp only[lenF];rw[if_pos (by omega),if_neg hz,L66_2,if_neg Bool.false_ne_true]
 obtain⟨r,h,a,b,c⟩:=main 0 (Nat.zero_le _) (z - 5) (by omega) (by omega)
 exact⟨r,h.congr fun n=>by unfold F66;simp only[letF,iw (show -9223372036854775808≤z - 5 by omega) (by omega)];rfl,a,b,by omega⟩
theorem room67 {l:List D}(h:ListS tab 9 l) (s:ByteArray) (z:Int) (h1: -6≤z) (h2:z≤20000):∃r,Ev (fun n=>F67 n s l z) r∧ -6≤r∧r≤20000∧(0≤r→r+5≤z):=by
 obtain⟨y,g1,g2,g3,g4⟩:=room26 s z h1 h2
 obtain⟨r,k1,k2,k3,k4⟩:=room66 h y g2 g3
 exact⟨r,Ev.bO1 g1 (Ev.bO1 k1 .ret),k2,k3,by omega⟩
abbrev lentB (z:Int):Bool:=decide (z=5∨z=6)
theorem ev53 (z1 z2:Int) (s3 s4 s5:ByteArray) (l6 l7:List D) (z8:Int) (n:Nat):F53 n z1 z2 s3 s4 s5 l6 l7 z8=some (lentB z1):=by
 unfold F53 lentB
 by_cases c5:z1=5
 ·simp[c5]
 ·by_cases c6:z1=6<;>simp[c5,c6]
theorem f86nil (z:Int) (s:ByteArray):Ev (fun n=>F86 n z s []) ((1:Nat):Int):=by
 refine .succ ?_
 simp only[F86,lenF]
 refine .succ ?_
 simp only[L86_1,List.length_nil,show ¬(0:Int)<((0:Nat):Int)by decide,if_false]
 exact .succ (by simp only[L86_2,Bool.false_eq_true,if_false];exact .ret)
theorem f87nil (z1 z2:Int) (s3 s4 s5:ByteArray) (l6:List D) (z8:Int):Ev (fun n=>F87 n z1 z2 s3 s4 s5 l6 [] z8) ((1:Nat):Int):=by
 refine .succ ?_
 simp only[F87,lenF]
 refine .succ ?_
 simp only[L87_1,List.length_nil,show ¬(0:Int)<((0:Nat):Int)by decide,if_false]
 exact .succ (by simp only[L87_2,Bool.false_eq_true,if_false];exact .ret)
end Go.Proofs.YtjmofeakajdbiaaGreatDoor
set_option linter.unusedVariables false
noncomputable section
namespace Go.Proofs.YtjmofeakajdbiaaGreatDoor
open Go Go.AM
mutual
def L27_1:Nat->LD->Int->Int->Option (Int)
 | 0,_,_,_=>none
 | n+1,l1,z3,z4=>
  lenF l1 fun z5=>(if z3<z5 then (if (0:Int)<=z4 then L27_2 n l1 z3 z4 true else L27_2 n l1 z3 z4 false)else L27_2 n l1 z3 z4 false)
def L27_2:Nat->LD->Int->Int->Bool->Option (Int)
 | 0,_,_,_,_=>none
 | n+1,l1,z3,z4,b6=>
  (if b6=true then getF l1 z3 fun x7=>ds_t74 x7 fun s8 z9 s10 l11=>bO1 (F26 n s8 z4) fun z12=>getF l1 z3 fun x13=>ds_t74 x13 fun s14 z15 s16 l17=>bO1 (F28 n z15 s16 l17 z12) fun z18=>letF (IntKind.wrap .i64 (z3+1)) fun z19=>L27_1 n l1 z19 z18 else some z4)
end
def F27 (n:Nat) (l1:LD) (z2:Int):Option (Int):=
 L27_1 n l1 (0:Int) z2
theorem T27 (n:Nat):∀⦃l1 z2 r1⦄,F27 n l1 z2=some r1->
    Trip Tryz.prog inv 27 [.c (.ptr (.ext 0) 0),.d (.list true 4 l1)] [.cells [.d (.int .i64 z2)]] (.t []) [.cells [.d (.int .i64 r1)]] []:=by
 intro l1 z2 r1 h
 unfold F27 at h
 refine Trip.of tab_ok tab_one fol Tryz.func27 rfl (by kernel_rfl) rfl rfl rfl (fun M hM hI=>?_)
 try cbv
 refine seq_go ?_
 try cbv
 refine loop_inv (T:=Nat×Int×Int) [0,1,4] [.ext 0] 32 (fun t=>⟨[sE 0 0,sT 1 4 l1,sI 4 t.2.1],[(.ext 0,.cells [.d (.int .i64 t.2.2)])],32⟩)
   (fun t=>t.1<=n/\L27_1 t.1 l1 t.2.1 t.2.2=some r1) (fun t=>t.1) (n,((0:Int),z2)) ⟨Nat.le_refl _,h⟩ (by cbv) ?_
 clear h
 rintro⟨m1,z3,z4⟩ ⟨hm1,h⟩
 replace hm1:m1<=n:=hm1
 obtain _ | m1:=m1
 ·replace h:L27_1 0 l1 z3 z4=some r1:=h
  rw[L27_1]at h
  cases h
 replace h:L27_1 (m1+1) l1 z3 z4=some r1:=h
 rw[L27_1]at h
 try cbv
 refine seq_go ?_
 try cbv
 refine seq_joinB 15 [0,1,4,15] [.ext 0] 384 (fun m b=>m<=m1/\L27_2 m l1 z3 z4 b=some r1) ?_ ?_
 ·try cbv
  replace h:=lenF_inv M h
  obtain⟨z5,hz,h⟩:=h
  refine⟨z5,hz,?_⟩
  clear hz
  try cbv
  refine splitL (fun e=>?_) (fun e=>?_)
  ·replace h:=ite_t e h
   clear e
   try cbv
   refine splitLe (fun e=>?_) (fun e=>?_)
   ·replace h:=ite_t e h
    clear e
    try cbv
    exact join_next (m1,true) [0,1,4,15] [.ext 0] 384 ⟨by omega,h⟩ (by cbv)
   replace h:=ite_f (Int.not_le.2 e) h
   clear e
   try cbv
   exact join_next (m1,false) [0,1,4,15] [.ext 0] 384 ⟨by omega,h⟩ (by cbv)
  replace h:=ite_f (Int.not_lt.2 e) h
  clear e
  try cbv
  exact join_next (m1,false) [0,1,4,15] [.ext 0] 384 ⟨by omega,h⟩ (by cbv)
 clear h
 rintro⟨m2,b6⟩ ⟨hm2,h⟩
 try cbv
 replace hm2:m2<=m1:=hm2
 obtain _ | m2:=m2
 ·replace h:L27_2 0 l1 z3 z4 b6=some r1:=h
  rw[L27_2]at h
  cases h
 replace h:L27_2 (m2+1) l1 z3 z4 b6=some r1:=h
 rw[L27_2]at h
 try cbv
 cases b6
 ·replace h:=itF h
  try cbv
  obtain rfl:=Option.some.inj h
  refine fin_go ?_
  try cbv
  exact⟨[],rfl,rfl,⟨rfl,trivial⟩,trivial,trivial⟩
 replace h:=itT h
 try cbv
 refine seq_go ?_
 try cbv
 refine seq_go ?_
 try cbv
 replace h:=getF_inv h
 obtain⟨x7,⟨hx0,hx⟩,h⟩:=h
 refine⟨x7,hx0,hx,?_⟩
 clear hx0 hx
 replace h:=ds_t74_inv h
 obtain⟨s8,z9,s10,l11,rfl,h⟩:=h
 try cbv
 replace h:=bO1_inv h
 obtain⟨z12,hr,h⟩:=h
 refine call_go rfl rfl ?_
 try cbv
 refine call_with hM hI [.ext 0] (T26 _ hr) rfl (by simp) ⟨rfl,trivial⟩ ⟨trivial,trivial⟩ (by simp) ?_
 clear hr
 try cbv
 replace h:=getF_inv h
 obtain⟨x13,⟨hx0,hx⟩,h⟩:=h
 refine⟨x13,hx0,hx,?_⟩
 clear hx0 hx
 replace h:=ds_t74_inv h
 obtain⟨s14,z15,s16,l17,rfl,h⟩:=h
 try cbv
 replace h:=bO1_inv h
 obtain⟨z18,hr,h⟩:=h
 refine call_go rfl rfl ?_
 try cbv
 refine call_with hM hI [.ext 0] (T28 _ hr) rfl (by simp) ⟨rfl,trivial⟩ ⟨trivial,trivial⟩ (by simp) ?_
 clear hr
 try cbv
 replace h:=letF_inv h
 obtain⟨z19,hz,h⟩:=h
 refine⟨z19,hz,?_⟩
 clear hz
 try cbv
 exact loop_next (m2,(z19,z18)) [0,1,4] [.ext 0] 32 ⟨by omega,h⟩ (Nat.lt_succ_of_le (by omega)) (by cbv)
mutual
def L29_1:Nat->LD->Int->Int->Option (Int)
 | 0,_,_,_=>none
 | n+1,l1,z3,z4=>
  lenF l1 fun z5=>(if z3<z5 then (if (0:Int)<=z4 then L29_2 n l1 z3 z4 true else L29_2 n l1 z3 z4 false)else L29_2 n l1 z3 z4 false)
def L29_2:Nat->LD->Int->Int->Bool->Option (Int)
 | 0,_,_,_,_=>none
 | n+1,l1,z3,z4,b6=>
  (if b6=true then getF l1 z3 fun x7=>ds_t50 x7 fun z8 s9 s10 l11 z12 s13 l14 z15 s16 l17 l18 l19 l20 l21 z22=>bO1 (F26 n s9 z4) fun z23=>bO1 (F26 n s10 z23) fun z24=>bO1 (F66 n l11 z24) fun z25=>bO1 (F28 n z12 s13 l14 z25) fun z26=>bO1 (F67 n s16 l17 z26) fun z27=>L29_3 n l1 z3 l18 l19 l20 l21 (0:Int) z27 else some z4)
def L29_3:Nat->LD->Int->LD->LD->LD->LD->Int->Int->Option (Int)
 | 0,_,_,_,_,_,_,_,_=>none
 | n+1,l1,z3,l18,l19,l20,l21,z28,z29=>
  lenF l18 fun z30=>(if z28<z30 then (if (0:Int)<=z29 then L29_4 n l1 z3 l18 l19 l20 l21 z28 z29 true else L29_4 n l1 z3 l18 l19 l20 l21 z28 z29 false)else L29_4 n l1 z3 l18 l19 l20 l21 z28 z29 false)
def L29_4:Nat->LD->Int->LD->LD->LD->LD->Int->Int->Bool->Option (Int)
 | 0,_,_,_,_,_,_,_,_,_=>none
 | n+1,l1,z3,l18,l19,l20,l21,z28,z29,b31=>
  (if b31=true then getF l18 z28 fun x32=>ds_t39 x32 fun z33 z34 s35 s36 s37 l38 l39 z40=>bO1 (F30 n z33 z34 s35 s36 s37 l38 l39 z40 z29) fun z41=>letF (IntKind.wrap .i64 (z28+1)) fun z42=>L29_3 n l1 z3 l18 l19 l20 l21 z42 z41 else (if z29<(0:Int)then L29_5 n l1 z3 l19 l20 l21 z29 true else L29_5 n l1 z3 l19 l20 l21 z29 false))
def L29_5:Nat->LD->Int->LD->LD->LD->Int->Bool->Option (Int)
 | 0,_,_,_,_,_,_,_=>none
 | n+1,l1,z3,l19,l20,l21,z29,b43=>
  (if b43=true then some z29 else bO1 (F29 n l19 z29) fun z44=>bO1 (F29 n l20 z44) fun z45=>L29_6 n l1 z3 l21 (0:Int) z45)
def L29_6:Nat->LD->Int->LD->Int->Int->Option (Int)
 | 0,_,_,_,_,_=>none
 | n+1,l1,z3,l21,z46,z47=>
  lenF l21 fun z48=>(if z46<z48 then (if (0:Int)<=z47 then L29_7 n l1 z3 l21 z46 z47 true else L29_7 n l1 z3 l21 z46 z47 false)else L29_7 n l1 z3 l21 z46 z47 false)
def L29_7:Nat->LD->Int->LD->Int->Int->Bool->Option (Int)
 | 0,_,_,_,_,_,_=>none
 | n+1,l1,z3,l21,z46,z47,b49=>
  (if b49=true then getF l21 z46 fun x50=>ds_t95 x50 fun s51 s52 l53=>bO1 (F26 n s51 z47) fun z54=>getF l21 z46 fun x55=>ds_t95 x55 fun s56 s57 l58=>bO1 (F26 n s57 z54) fun z59=>getF l21 z46 fun x60=>ds_t95 x60 fun s61 s62 l63=>bO1 (F29 n l63 z59) fun z64=>letF (IntKind.wrap .i64 (z46+1)) fun z65=>L29_6 n l1 z3 l21 z65 z64 else letF (IntKind.wrap .i64 (z3+1)) fun z66=>L29_1 n l1 z66 z47)
def F29:Nat->LD->Int->Option (Int)
 | 0,_,_=>none
 | n+1,l1,z2=>
  L29_1 n l1 (0:Int) z2
end
theorem T29 (n:Nat):∀⦃l1 z2 r1⦄,F29 n l1 z2=some r1->
    Trip Tryz.prog inv 29 [.c (.ptr (.ext 0) 0),.d (.list true 15 l1)] [.cells [.d (.int .i64 z2)]] (.t []) [.cells [.d (.int .i64 r1)]] []:=by
 induction n using Nat.strongRecOn with | _ n ih=>
 obtain _ | n:=n
 ·intro l1 z2 r1 h
  cases (show (none:Option _)=some _ from h)
 intro l1 z2 r1 h
 rw[F29]at h
 refine Trip.of tab_ok tab_one fol Tryz.func29 rfl (by kernel_rfl) rfl rfl rfl (fun M hM hI=>?_)
 try cbv
 refine seq_go ?_
 try cbv
 refine loop_inv (T:=Nat×Int×Int) [0,1,4] [.ext 0] 32 (fun t=>⟨[sE 0 0,sT 1 15 l1,sI 4 t.2.1],[(.ext 0,.cells [.d (.int .i64 t.2.2)])],32⟩)
   (fun t=>t.1<=n/\L29_1 t.1 l1 t.2.1 t.2.2=some r1) (fun t=>t.1) (n,((0:Int),z2)) ⟨Nat.le_refl _,h⟩ (by cbv) ?_
 clear h
 rintro⟨m1,z3,z4⟩ ⟨hm1,h⟩
 replace hm1:m1<=n:=hm1
 obtain _ | m1:=m1
 ·replace h:L29_1 0 l1 z3 z4=some r1:=h
  rw[L29_1]at h
  cases h
 replace h:L29_1 (m1+1) l1 z3 z4=some r1:=h
 rw[L29_1]at h
 try cbv
 refine seq_go ?_
 try cbv
 refine seq_joinB 18 [0,1,4,18] [.ext 0] 384 (fun m b=>m<=m1/\L29_2 m l1 z3 z4 b=some r1) ?_ ?_
 ·try cbv
  replace h:=lenF_inv M h
  obtain⟨z5,hz,h⟩:=h
  refine⟨z5,hz,?_⟩
  clear hz
  try cbv
  refine splitL (fun e=>?_) (fun e=>?_)
  ·replace h:=ite_t e h
   clear e
   try cbv
   refine splitLe (fun e=>?_) (fun e=>?_)
   ·replace h:=ite_t e h
    clear e
    try cbv
    exact join_next (m1,true) [0,1,4,18] [.ext 0] 384 ⟨by omega,h⟩ (by cbv)
   replace h:=ite_f (Int.not_le.2 e) h
   clear e
   try cbv
   exact join_next (m1,false) [0,1,4,18] [.ext 0] 384 ⟨by omega,h⟩ (by cbv)
  replace h:=ite_f (Int.not_lt.2 e) h
  clear e
  try cbv
  exact join_next (m1,false) [0,1,4,18] [.ext 0] 384 ⟨by omega,h⟩ (by cbv)
 clear h
 rintro⟨m2,b6⟩ ⟨hm2,h⟩
 try cbv
 replace hm2:m2<=m1:=hm2
 obtain _ | m2:=m2
 ·replace h:L29_2 0 l1 z3 z4 b6=some r1:=h
  rw[L29_2]at h
  cases h
 replace h:L29_2 (m2+1) l1 z3 z4 b6=some r1:=h
 rw[L29_2]at h
 try cbv
 cases b6
 ·replace h:=itF h
  try cbv
  obtain rfl:=Option.some.inj h
  refine fin_go ?_
  try cbv
  exact⟨[],rfl,rfl,⟨rfl,trivial⟩,trivial,trivial⟩
 replace h:=itT h
 try cbv
 refine seq_go ?_
 try cbv
 refine seq_go ?_
 try cbv
 replace h:=getF_inv h
 obtain⟨x7,⟨hx0,hx⟩,h⟩:=h
 refine⟨x7,hx0,hx,?_⟩
 clear hx0 hx
 replace h:=ds_t50_inv h
 obtain⟨z8,s9,s10,l11,z12,s13,l14,z15,s16,l17,l18,l19,l20,l21,z22,rfl,h⟩:=h
 try cbv
 refine seq_go ?_
 try cbv
 replace h:=bO1_inv h
 obtain⟨z23,hr,h⟩:=h
 refine call_go rfl rfl ?_
 try cbv
 refine call_with hM hI [.ext 0] (T26 _ hr) rfl (by simp) ⟨rfl,trivial⟩ ⟨trivial,trivial⟩ (by simp) ?_
 clear hr
 try cbv
 refine seq_go ?_
 try cbv
 replace h:=bO1_inv h
 obtain⟨z24,hr,h⟩:=h
 refine call_go rfl rfl ?_
 try cbv
 refine call_with hM hI [.ext 0] (T26 _ hr) rfl (by simp) ⟨rfl,trivial⟩ ⟨trivial,trivial⟩ (by simp) ?_
 clear hr
 try cbv
 refine seq_go ?_
 try cbv
 replace h:=bO1_inv h
 obtain⟨z25,hr,h⟩:=h
 refine call_go rfl rfl ?_
 try cbv
 refine call_with hM hI [.ext 0] (T66 _ hr) rfl (by simp) ⟨rfl,trivial⟩ ⟨trivial,trivial⟩ (by simp) ?_
 clear hr
 try cbv
 refine seq_go ?_
 try cbv
 replace h:=bO1_inv h
 obtain⟨z26,hr,h⟩:=h
 refine call_go rfl rfl ?_
 try cbv
 refine call_with hM hI [.ext 0] (T28 _ hr) rfl (by simp) ⟨rfl,trivial⟩ ⟨trivial,trivial⟩ (by simp) ?_
 clear hr
 try cbv
 refine seq_go ?_
 try cbv
 replace h:=bO1_inv h
 obtain⟨z27,hr,h⟩:=h
 refine call_go rfl rfl ?_
 try cbv
 refine call_with hM hI [.ext 0] (T67 _ hr) rfl (by simp) ⟨rfl,trivial⟩ ⟨trivial,trivial⟩ (by simp) ?_
 clear hr
 try cbv
 refine seq_go ?_
 try cbv
 refine seq_go ?_
 try cbv
 refine loop_inv (T:=Nat×Int×Int) [0,1,4,5,6] [.ext 0,.loc 512] 1248 (fun t=>⟨[sE 0 0,sT 1 15 l1,sI 4 z3,sL 5 512,sI 6 t.2.1],[(.ext 0,.cells [.d (.int .i64 t.2.2)]),(.loc 512,.cells [.d (.int .u8 z8),.d (.str s9),.d (.str s10),.d (.list false 1 l11),.d (.int .u8 z12),.d (.str s13),.d (.list true 3 l14),.d (.int .i64 z15),.d (.str s16),.d (.list false 1 l17),.d (.list true 8 l18),.d (.list true 15 l19),.d (.list true 15 l20),.d (.list true 3 l21),.d (.int .i64 z22)])],1248⟩)
   (fun t=>t.1<=m2/\L29_3 t.1 l1 z3 l18 l19 l20 l21 t.2.1 t.2.2=some r1) (fun t=>t.1) (m2,((0:Int),z27)) ⟨Nat.le_refl _,h⟩ (by cbv) ?_
 clear h
 rintro⟨m3,z28,z29⟩ ⟨hm3,h⟩
 replace hm3:m3<=m2:=hm3
 obtain _ | m3:=m3
 ·replace h:L29_3 0 l1 z3 l18 l19 l20 l21 z28 z29=some r1:=h
  rw[L29_3]at h
  cases h
 replace h:L29_3 (m3+1) l1 z3 l18 l19 l20 l21 z28 z29=some r1:=h
 rw[L29_3]at h
 try cbv
 refine seq_go ?_
 try cbv
 refine seq_joinB 56 [0,1,4,5,6,56] [.ext 0,.loc 512] 1632 (fun m b=>m<=m3/\L29_4 m l1 z3 l18 l19 l20 l21 z28 z29 b=some r1) ?_ ?_
 ·try cbv
  replace h:=lenF_inv M h
  obtain⟨z30,hz,h⟩:=h
  refine⟨z30,hz,?_⟩
  clear hz
  try cbv
  refine splitL (fun e=>?_) (fun e=>?_)
  ·replace h:=ite_t e h
   clear e
   try cbv
   refine splitLe (fun e=>?_) (fun e=>?_)
   ·replace h:=ite_t e h
    clear e
    try cbv
    exact join_next (m3,true) [0,1,4,5,6,56] [.ext 0,.loc 512] 1632 ⟨by omega,h⟩ (by cbv)
   replace h:=ite_f (Int.not_le.2 e) h
   clear e
   try cbv
   exact join_next (m3,false) [0,1,4,5,6,56] [.ext 0,.loc 512] 1632 ⟨by omega,h⟩ (by cbv)
  replace h:=ite_f (Int.not_lt.2 e) h
  clear e
  try cbv
  exact join_next (m3,false) [0,1,4,5,6,56] [.ext 0,.loc 512] 1632 ⟨by omega,h⟩ (by cbv)
 clear h
 rintro⟨m4,b31⟩ ⟨hm4,h⟩
 try cbv
 replace hm4:m4<=m3:=hm4
 obtain _ | m4:=m4
 ·replace h:L29_4 0 l1 z3 l18 l19 l20 l21 z28 z29 b31=some r1:=h
  rw[L29_4]at h
  cases h
 replace h:L29_4 (m4+1) l1 z3 l18 l19 l20 l21 z28 z29 b31=some r1:=h
 rw[L29_4]at h
 try cbv
 cases b31
 rotate_left
 ·replace h:=itT h
  try cbv
  refine seq_go ?_
  try cbv
  replace h:=getF_inv h
  obtain⟨x32,⟨hx0,hx⟩,h⟩:=h
  refine⟨x32,hx0,hx,?_⟩
  clear hx0 hx
  replace h:=ds_t39_inv h
  obtain⟨z33,z34,s35,s36,s37,l38,l39,z40,rfl,h⟩:=h
  try cbv
  replace h:=bO1_inv h
  obtain⟨z41,hr,h⟩:=h
  refine call_go rfl rfl ?_
  try cbv
  refine call_with hM hI [.ext 0] (T30 _ hr) rfl (by simp) ⟨rfl,trivial⟩ ⟨trivial,trivial⟩ (by simp) ?_
  clear hr
  try cbv
  replace h:=letF_inv h
  obtain⟨z42,hz,h⟩:=h
  refine⟨z42,hz,?_⟩
  clear hz
  try cbv
  exact loop_next (m4,(z42,z41)) [0,1,4,5,6] [.ext 0,.loc 512] 1248 ⟨by omega,h⟩ (Nat.lt_succ_of_le (by omega)) (by cbv)
 replace h:=itF h
 try cbv
 refine seq_go ?_
 try cbv
 refine seq_joinB 70 [0,1,4,5,6,70] [.ext 0,.loc 512] 1792 (fun m b=>m<=m4/\L29_5 m l1 z3 l19 l20 l21 z29 b=some r1) ?_ ?_
 ·try cbv
  refine splitL (fun e=>?_) (fun e=>?_)
  ·replace h:=ite_t e h
   clear e
   try cbv
   exact join_next (m4,true) [0,1,4,5,6,70] [.ext 0,.loc 512] 1792 ⟨by omega,h⟩ (by cbv)
  replace h:=ite_f (Int.not_lt.2 e) h
  clear e
  try cbv
  exact join_next (m4,false) [0,1,4,5,6,70] [.ext 0,.loc 512] 1792 ⟨by omega,h⟩ (by cbv)
 clear h
 rintro⟨m5,b43⟩ ⟨hm5,h⟩
 try cbv
 replace hm5:m5<=m4:=hm5
 obtain _ | m5:=m5
 ·replace h:L29_5 0 l1 z3 l19 l20 l21 z29 b43=some r1:=h
  rw[L29_5]at h
  cases h
 replace h:L29_5 (m5+1) l1 z3 l19 l20 l21 z29 b43=some r1:=h
 rw[L29_5]at h
 try cbv
 cases b43
 rotate_left
 ·replace h:=itT h
  try cbv
  obtain rfl:=Option.some.inj h
  refine fin_go ?_
  try cbv
  exact⟨[],rfl,rfl,⟨rfl,trivial⟩,trivial,trivial⟩
 replace h:=itF h
 try cbv
 refine seq_go ?_
 try cbv
 replace h:=bO1_inv h
 obtain⟨z44,hr,h⟩:=h
 refine call_go rfl rfl ?_
 try cbv
 refine call_with hM hI [.ext 0] ((ih _ (by omega)) hr) rfl (by simp) ⟨rfl,trivial⟩ ⟨trivial,trivial⟩ (by simp) ?_
 clear hr
 try cbv
 refine seq_go ?_
 try cbv
 replace h:=bO1_inv h
 obtain⟨z45,hr,h⟩:=h
 refine call_go rfl rfl ?_
 try cbv
 refine call_with hM hI [.ext 0] ((ih _ (by omega)) hr) rfl (by simp) ⟨rfl,trivial⟩ ⟨trivial,trivial⟩ (by simp) ?_
 clear hr
 try cbv
 refine seq_go ?_
 try cbv
 refine loop_inv (T:=Nat×Int×Int) [0,1,4,5,6,7] [.ext 0,.loc 512] 2080 (fun t=>⟨[sE 0 0,sT 1 15 l1,sI 4 z3,sL 5 512,sI 6 z28,sI 7 t.2.1],[(.ext 0,.cells [.d (.int .i64 t.2.2)]),(.loc 512,.cells [.d (.int .u8 z8),.d (.str s9),.d (.str s10),.d (.list false 1 l11),.d (.int .u8 z12),.d (.str s13),.d (.list true 3 l14),.d (.int .i64 z15),.d (.str s16),.d (.list false 1 l17),.d (.list true 8 l18),.d (.list true 15 l19),.d (.list true 15 l20),.d (.list true 3 l21),.d (.int .i64 z22)])],2080⟩)
   (fun t=>t.1<=m5/\L29_6 t.1 l1 z3 l21 t.2.1 t.2.2=some r1) (fun t=>t.1) (m5,((0:Int),z45)) ⟨Nat.le_refl _,h⟩ (by cbv) ?_
 clear h
 rintro⟨m6,z46,z47⟩ ⟨hm6,h⟩
 replace hm6:m6<=m5:=hm6
 obtain _ | m6:=m6
 ·replace h:L29_6 0 l1 z3 l21 z46 z47=some r1:=h
  rw[L29_6]at h
  cases h
 replace h:L29_6 (m6+1) l1 z3 l21 z46 z47=some r1:=h
 rw[L29_6]at h
 try cbv
 refine seq_go ?_
 try cbv
 refine seq_joinB 90 [0,1,4,5,6,7,90] [.ext 0,.loc 512] 2464 (fun m b=>m<=m6/\L29_7 m l1 z3 l21 z46 z47 b=some r1) ?_ ?_
 ·try cbv
  replace h:=lenF_inv M h
  obtain⟨z48,hz,h⟩:=h
  refine⟨z48,hz,?_⟩
  clear hz
  try cbv
  refine splitL (fun e=>?_) (fun e=>?_)
  ·replace h:=ite_t e h
   clear e
   try cbv
   refine splitLe (fun e=>?_) (fun e=>?_)
   ·replace h:=ite_t e h
    clear e
    try cbv
    exact join_next (m6,true) [0,1,4,5,6,7,90] [.ext 0,.loc 512] 2464 ⟨by omega,h⟩ (by cbv)
   replace h:=ite_f (Int.not_le.2 e) h
   clear e
   try cbv
   exact join_next (m6,false) [0,1,4,5,6,7,90] [.ext 0,.loc 512] 2464 ⟨by omega,h⟩ (by cbv)
  replace h:=ite_f (Int.not_lt.2 e) h
  clear e
  try cbv
  exact join_next (m6,false) [0,1,4,5,6,7,90] [.ext 0,.loc 512] 2464 ⟨by omega,h⟩ (by cbv)
 clear h
 rintro⟨m7,b49⟩ ⟨hm7,h⟩
 try cbv
 replace hm7:m7<=m6:=hm7
 obtain _ | m7:=m7
 ·replace h:L29_7 0 l1 z3 l21 z46 z47 b49=some r1:=h
  rw[L29_7]at h
  cases h
 replace h:L29_7 (m7+1) l1 z3 l21 z46 z47 b49=some r1:=h
 rw[L29_7]at h
 try cbv
 cases b49
 ·replace h:=itF h
  try cbv
  replace h:=letF_inv h
  obtain⟨z66,hz,h⟩:=h
  refine⟨z66,hz,?_⟩
  clear hz
  try cbv
  exact loop_next (m7,(z66,z47)) [0,1,4] [.ext 0] 32 ⟨by omega,h⟩ (Nat.lt_succ_of_le (by omega)) (by cbv)
 replace h:=itT h
 try cbv
 refine seq_go ?_
 try cbv
 refine seq_go ?_
 try cbv
 replace h:=getF_inv h
 obtain⟨x50,⟨hx0,hx⟩,h⟩:=h
 refine⟨x50,hx0,hx,?_⟩
 clear hx0 hx
 replace h:=ds_t95_inv h
 obtain⟨s51,s52,l53,rfl,h⟩:=h
 try cbv
 replace h:=bO1_inv h
 obtain⟨z54,hr,h⟩:=h
 refine call_go rfl rfl ?_
 try cbv
 refine call_with hM hI [.ext 0] (T26 _ hr) rfl (by simp) ⟨rfl,trivial⟩ ⟨trivial,trivial⟩ (by simp) ?_
 clear hr
 try cbv
 refine seq_go ?_
 try cbv
 replace h:=getF_inv h
 obtain⟨x55,⟨hx0,hx⟩,h⟩:=h
 refine⟨x55,hx0,hx,?_⟩
 clear hx0 hx
 replace h:=ds_t95_inv h
 obtain⟨s56,s57,l58,rfl,h⟩:=h
 try cbv
 replace h:=bO1_inv h
 obtain⟨z59,hr,h⟩:=h
 refine call_go rfl rfl ?_
 try cbv
 refine call_with hM hI [.ext 0] (T26 _ hr) rfl (by simp) ⟨rfl,trivial⟩ ⟨trivial,trivial⟩ (by simp) ?_
 clear hr
 try cbv
 replace h:=getF_inv h
 obtain⟨x60,⟨hx0,hx⟩,h⟩:=h
 refine⟨x60,hx0,hx,?_⟩
 clear hx0 hx
 replace h:=ds_t95_inv h
 obtain⟨s61,s62,l63,rfl,h⟩:=h
 try cbv
 replace h:=bO1_inv h
 obtain⟨z64,hr,h⟩:=h
 refine call_go rfl rfl ?_
 try cbv
 refine call_with hM hI [.ext 0] ((ih _ (by omega)) hr) rfl (by simp) ⟨rfl,trivial⟩ ⟨trivial,trivial⟩ (by simp) ?_
 clear hr
 try cbv
 replace h:=letF_inv h
 obtain⟨z65,hz,h⟩:=h
 refine⟨z65,hz,?_⟩
 clear hz
 try cbv
 exact loop_next (m7,(z65,z64)) [0,1,4,5,6,7] [.ext 0,.loc 512] 2080 ⟨by omega,h⟩ (Nat.lt_succ_of_le (by omega)) (by cbv)
mutual
def L8_1:Nat->LD->Int->Int->Option (Bool)
 | 0,_,_,_=>none
 | n+1,l1,z2,z3=>
  lenF l1 fun z4=>(if z2<z4 then (if (0:Int)<=z3 then L8_2 n l1 z2 z3 true else L8_2 n l1 z2 z3 false)else L8_2 n l1 z2 z3 false)
def L8_2:Nat->LD->Int->Int->Bool->Option (Bool)
 | 0,_,_,_,_=>none
 | n+1,l1,z2,z3,b5=>
  (if b5=true then getF l1 z2 fun x6=>ds_t45 x6 fun z7 s8 l9 z10 s11 l12 l13 z14 z15 s16 s17 s18 l19 l20 z21 z22=>bO1 (F26 n s8 z3) fun z23=>bO1 (F27 n l9 z23) fun z24=>bO1 (F28 n z10 s11 l12 z24) fun z25=>bO1 (F29 n l13 z25) fun z26=>bO1 (F30 n z14 z15 s16 s17 s18 l19 l20 z21 z26) fun z27=>letF (IntKind.wrap .i64 (z2+1)) fun z28=>L8_1 n l1 z28 z27 else (if z3<(0:Int)then some true else some false))
end
def F8 (n:Nat) (l1:LD):Option (Bool):=
 L8_1 n l1 (0:Int) (20000:Int)
theorem T8 (n:Nat):∀⦃l1 r1⦄,F8 n l1=some r1->
    Trip Tryz.prog inv 8 [.d (.agg [.list true 16 l1])] [] (.v (.d (.bool r1))) [] []:=by
 intro l1 r1 h
 unfold F8 at h
 refine Trip.of tab_ok tab_one fol Tryz.func8 rfl (by kernel_rfl) rfl rfl rfl (fun M hM hI=>?_)
 try cbv
 refine seq_go ?_
 try cbv
 refine seq_go ?_
 try cbv
 refine seq_go ?_
 try cbv
 refine seq_go ?_
 try cbv
 refine loop_inv (T:=Nat×Int×Int) [1,2,3,4] [.loc 0,.loc 96] 192 (fun t=>⟨[sL 1 0,sB 2 false,sL 3 96,sI 4 t.2.1],[(.loc 0,.cells [.d (.list true 16 l1)]),(.loc 96,.cells [.d (.int .i64 t.2.2)])],192⟩)
   (fun t=>t.1<=n/\L8_1 t.1 l1 t.2.1 t.2.2=some r1) (fun t=>t.1) (n,((0:Int),(20000:Int))) ⟨Nat.le_refl _,h⟩ (by cbv) ?_
 clear h
 rintro⟨m1,z2,z3⟩ ⟨hm1,h⟩
 replace hm1:m1<=n:=hm1
 obtain _ | m1:=m1
 ·replace h:L8_1 0 l1 z2 z3=some r1:=h
  rw[L8_1]at h
  cases h
 replace h:L8_1 (m1+1) l1 z2 z3=some r1:=h
 rw[L8_1]at h
 try cbv
 refine seq_go ?_
 try cbv
 refine seq_joinB 19 [1,2,3,4,19] [.loc 0,.loc 96] 576 (fun m b=>m<=m1/\L8_2 m l1 z2 z3 b=some r1) ?_ ?_
 ·try cbv
  replace h:=lenF_inv M h
  obtain⟨z4,hz,h⟩:=h
  refine⟨z4,hz,?_⟩
  clear hz
  try cbv
  refine splitL (fun e=>?_) (fun e=>?_)
  ·replace h:=ite_t e h
   clear e
   try cbv
   refine splitLe (fun e=>?_) (fun e=>?_)
   ·replace h:=ite_t e h
    clear e
    try cbv
    exact join_next (m1,true) [1,2,3,4,19] [.loc 0,.loc 96] 576 ⟨by omega,h⟩ (by cbv)
   replace h:=ite_f (Int.not_le.2 e) h
   clear e
   try cbv
   exact join_next (m1,false) [1,2,3,4,19] [.loc 0,.loc 96] 576 ⟨by omega,h⟩ (by cbv)
  replace h:=ite_f (Int.not_lt.2 e) h
  clear e
  try cbv
  exact join_next (m1,false) [1,2,3,4,19] [.loc 0,.loc 96] 576 ⟨by omega,h⟩ (by cbv)
 clear h
 rintro⟨m2,b5⟩ ⟨hm2,h⟩
 try cbv
 replace hm2:m2<=m1:=hm2
 obtain _ | m2:=m2
 ·replace h:L8_2 0 l1 z2 z3 b5=some r1:=h
  rw[L8_2]at h
  cases h
 replace h:L8_2 (m2+1) l1 z2 z3 b5=some r1:=h
 rw[L8_2]at h
 try cbv
 cases b5
 ·replace h:=itF h
  try cbv
  refine seq_go ?_
  try cbv
  refine splitL (fun e=>?_) (fun e=>?_)
  ·replace h:=ite_t e h
   clear e
   try cbv
   obtain rfl:=Option.some.inj h
   refine fin_go ?_
   try cbv
   exact⟨[],by trivial⟩
  replace h:=ite_f (Int.not_lt.2 e) h
  clear e
  try cbv
  obtain rfl:=Option.some.inj h
  refine fin_go ?_
  try cbv
  exact⟨[],by trivial⟩
 replace h:=itT h
 try cbv
 refine seq_go ?_
 try cbv
 refine seq_go ?_
 try cbv
 replace h:=getF_inv h
 obtain⟨x6,⟨hx0,hx⟩,h⟩:=h
 refine⟨x6,hx0,hx,?_⟩
 clear hx0 hx
 replace h:=ds_t45_inv h
 obtain⟨z7,s8,l9,z10,s11,l12,l13,z14,z15,s16,s17,s18,l19,l20,z21,z22,rfl,h⟩:=h
 try cbv
 refine seq_go ?_
 try cbv
 replace h:=bO1_inv h
 obtain⟨z23,hr,h⟩:=h
 refine call_go rfl rfl ?_
 try cbv
 refine call_with hM hI [.loc 96] (T26 _ hr) rfl (by simp) ⟨rfl,trivial⟩ ⟨trivial,trivial⟩ (by simp) ?_
 clear hr
 try cbv
 refine seq_go ?_
 try cbv
 replace h:=bO1_inv h
 obtain⟨z24,hr,h⟩:=h
 refine call_go rfl rfl ?_
 try cbv
 refine call_with hM hI [.loc 96] (T27 _ hr) rfl (by simp) ⟨rfl,trivial⟩ ⟨trivial,trivial⟩ (by simp) ?_
 clear hr
 try cbv
 refine seq_go ?_
 try cbv
 replace h:=bO1_inv h
 obtain⟨z25,hr,h⟩:=h
 refine call_go rfl rfl ?_
 try cbv
 refine call_with hM hI [.loc 96] (T28 _ hr) rfl (by simp) ⟨rfl,trivial⟩ ⟨trivial,trivial⟩ (by simp) ?_
 clear hr
 try cbv
 refine seq_go ?_
 try cbv
 replace h:=bO1_inv h
 obtain⟨z26,hr,h⟩:=h
 refine call_go rfl rfl ?_
 try cbv
 refine call_with hM hI [.loc 96] (T29 _ hr) rfl (by simp) ⟨rfl,trivial⟩ ⟨trivial,trivial⟩ (by simp) ?_
 clear hr
 try cbv
 replace h:=bO1_inv h
 obtain⟨z27,hr,h⟩:=h
 refine call_go rfl rfl ?_
 try cbv
 refine call_with hM hI [.loc 96] (T30 _ hr) rfl (by simp) ⟨rfl,trivial⟩ ⟨trivial,trivial⟩ (by simp) ?_
 clear hr
 try cbv
 replace h:=letF_inv h
 obtain⟨z28,hz,h⟩:=h
 refine⟨z28,hz,?_⟩
 clear hz
 try cbv
 exact loop_next (m2,(z28,z27)) [1,2,3,4] [.loc 0,.loc 96] 192 ⟨by omega,h⟩ (Nat.lt_succ_of_le (by omega)) (by cbv)
end Go.Proofs.YtjmofeakajdbiaaGreatDoor
end
set_option linter.unusedVariables false
noncomputable section
namespace Go.Proofs.YtjmofeakajdbiaaGreatDoor
open Go Go.AM
def dR (c:Int) (l:List D):Prop:=∀x∈l,∃d:Nat,5*(d:Int)≤c∧Ev (fun n=>ds_t50 x (F88 n)) (d:Int)
def eR (c:Int) (l:List D):Prop:=∀x∈l,∃d:Nat,5*(d:Int)≤c∧Ev (fun n=>ds_t39 x (F87 n)) (d:Int)
theorem dR.mono {c c':Int}{l:List D}(h:dR c l) (hc:c≤c'):dR c' l:=fun x hx=>by
 obtain⟨d,h1,h2⟩:=h x hx
 exact⟨d,by omega,h2⟩
theorem eR.mono {c c':Int}{l:List D}(h:eR c l) (hc:c≤c'):eR c' l:=fun x hx=>by
 obtain⟨d,h1,h2⟩:=h x hx
 exact⟨d,by omega,h2⟩
theorem mx (a b:Nat):(if (b:Int)>(a:Int)then (b:Int)else (a:Int))=((max a b:Nat):Int):=by
 split<;>omega
theorem ty_dp (l:List D):ListS tab 33 l→∃m:Nat,(m<100000→∀z1 s2,Ev (fun n=>F86 n z1 s2 l) ((m+1:Nat):Int))∧
  (∀z1 s2 z,-6≤z→z≤20000→∃r,Ev (fun n=>F28 n z1 s2 l z) r∧ -6≤r∧r≤20000∧(0≤r→r+5*((m:Int)+1)≤z)):=by
 refine list_ind (P:=fun l=>ListS tab 33 l→∃m:Nat,(m<100000→∀z1 s2,Ev (fun n=>F86 n z1 s2 l) ((m+1:Nat):Int))∧
  (∀z1 s2 z,-6≤z→z≤20000→∃r,Ev (fun n=>F28 n z1 s2 l z) r∧ -6≤r∧r≤20000∧(0≤r→r+5*((m:Int)+1)≤z))) (fun l ih h=>?_) l
 have loop:∀i:Nat,i≤l.length→∃m:Nat,(m<100000→∀acc:Nat,acc<100000→Ev (fun n=>L86_1 n l (l.length:Int) (acc:Int) (i:Int)) ((max acc m+1:Nat):Int))∧
   (∀z,-6≤z→z≤20000→∃r,Ev (fun n=>L28_1 n l (i:Int) z) r∧ -6≤r∧r≤20000∧(0≤r→r+5*(m:Int)≤z)):=by
  refine down l.length ⟨0,fun _ acc ha=>?_,fun z h1 h2=>⟨z,?_,h1,h2,by omega⟩⟩ (fun i hi hP=>?_)
  ·refine .succ ?_
   simp only[L86_1,Int.lt_irrefl,if_false]
   refine .succ ?_
   simp only[L86_2,Bool.false_eq_true,if_false,letF,iw (show -9223372036854775808≤(acc:Int)+1 by omega) (by omega)]
   rw[show max acc 0=acc by omega]
   exact .ret
  ·refine .succ (.succ (.of fun n=>?_))
   rw[L28_1];simp only[lenF];rw[if_neg (by omega),L28_2,if_neg Bool.false_ne_true]
  ·obtain⟨m,p1,p2⟩:=hP
   obtain⟨x,hx,hm,hr⟩:=h.get hi
   obtain⟨a,s,l',rfl,_,hs,hl'⟩:=rs33 hr
   obtain⟨k,q1,q2⟩:=ih l' (size_row (ag:=true) (sz:=3) hm (by simp)) hl'
   refine⟨max (k+1) m,fun hk acc ha=>?_,fun z h1 h2=>?_⟩
   ·refine .succ ?_
    simp only[L86_1,if_pos (ilt hi)]
    refine .succ ?_
    simp only[L86_2,if_true,getF_nat hx,ds_t33]
    refine Ev.bO1 (q1 (by omega) a s) ?_
    simp only[letF,wrap_succ hi h.1]
    rw[mx,show max acc (max (k+1) m)=max (max acc (k+1)) m by omega]
    exact p1 (by omega) _ (by omega)
   ·by_cases hz:(0:Int)≤z
    ·obtain⟨y,g1,g2,g3,g4⟩:=q2 a s z h1 h2
     obtain⟨r,k1,k2,k3,k4⟩:=p2 y g2 g3
     refine⟨r,.succ (.succ (Ev.congr (A:=fun n=>bO1 (F28 n a s l' z) fun z10=>L28_1 n l ((i+1:Nat):Int) z10) (Ev.bO1 g1 k1) fun n=>?_)),k2,k3,by omega⟩
     rw[L28_1];simp only[lenF];rw[if_pos (by omega),if_pos hz,L28_2,if_pos rfl,getF_nat hx]
     simp only[ds_t33,letF,wrap_succ hi h.1]
    ·refine⟨z,.succ (.succ (.of fun n=>?_)),h1,h2,by omega⟩
     rw[L28_1];simp only[lenF];rw[if_pos (by omega),if_neg hz,L28_2,if_neg Bool.false_ne_true]
 obtain⟨m,p1,p2⟩:=loop 0 (Nat.zero_le _)
 refine⟨m,fun hm z1 s2=>?_,fun z1 s2 z h1 h2=>?_⟩
 ·refine .succ ?_
  simp only[F86,lenF]
  have:=p1 hm 0 (by omega)
  rwa [show max 0 m=m by omega]at this
 ·obtain⟨y,g1,g2,g3,g4⟩:=room26 s2 z h1 h2
  obtain⟨r,k1,k2,k3,k4⟩:=p2 y (by omega) g3
  exact⟨r,.succ ((Ev.bO1 g1 k1).congr fun n=>by rw[F28];rfl),k2,k3,by omega⟩
theorem ex_dp (l:List D):ListS tab 39 l→∃m:Nat,(m<100000→∀z1 z2 s3 s4 s5 l6 z8,Ev (fun n=>F87 n z1 z2 s3 s4 s5 l6 l z8) ((m+1:Nat):Int))∧
  (∀z1 z2 s3 s4 s5 l6 z8 z,ListS tab 9 l6→ -6≤z→z≤20000→∃r,Ev (fun n=>F30 n z1 z2 s3 s4 s5 l6 l z8 z) r∧ -6≤r∧r≤20000∧(0≤r→r+5*((m:Int)+1)≤z)):=by
 refine list_ind (P:=fun l=>ListS tab 39 l→∃m:Nat,(m<100000→∀z1 z2 s3 s4 s5 l6 z8,Ev (fun n=>F87 n z1 z2 s3 s4 s5 l6 l z8) ((m+1:Nat):Int))∧
  (∀z1 z2 s3 s4 s5 l6 z8 z,ListS tab 9 l6→ -6≤z→z≤20000→∃r,Ev (fun n=>F30 n z1 z2 s3 s4 s5 l6 l z8 z) r∧ -6≤r∧r≤20000∧(0≤r→r+5*((m:Int)+1)≤z))) (fun l ih h=>?_) l
 have loop:∀i:Nat,i≤l.length→∃m:Nat,(m<100000→∀acc:Nat,acc<100000→Ev (fun n=>L87_1 n l (l.length:Int) (acc:Int) (i:Int)) ((max acc m+1:Nat):Int))∧
   (∀z,-6≤z→z≤20000→∃r,Ev (fun n=>L30_1 n l (i:Int) z) r∧ -6≤r∧r≤20000∧(0≤r→r+5*(m:Int)≤z)):=by
  refine down l.length ⟨0,fun _ acc ha=>?_,fun z h1 h2=>⟨z,?_,h1,h2,by omega⟩⟩ (fun i hi hP=>?_)
  ·refine .succ ?_
   simp only[L87_1,Int.lt_irrefl,if_false]
   refine .succ ?_
   simp only[L87_2,Bool.false_eq_true,if_false,letF,iw (show -9223372036854775808≤(acc:Int)+1 by omega) (by omega)]
   rw[show max acc 0=acc by omega]
   exact .ret
  ·refine .succ (.succ (.of fun n=>?_))
   rw[L30_1];simp only[lenF];rw[if_neg (by omega),L30_2,if_neg Bool.false_ne_true]
  ·obtain⟨m,p1,p2⟩:=hP
   obtain⟨x,hx,hm,hr⟩:=h.get hi
   obtain⟨a0,a1,a2,a3,a4,a5,a6,a7,rfl,w0,_,w2,w3,w4,w5,w6,_⟩:=rs39 hr
   obtain⟨k,q1,q2⟩:=ih a6 (size_row (ag:=true) (sz:=8) hm (by simp)) w6
   refine⟨max (k+1) m,fun hk acc ha=>?_,fun z h1 h2=>?_⟩
   ·refine .succ ?_
    simp only[L87_1,if_pos (ilt hi)]
    refine .succ ?_
    simp only[L87_2,if_true,getF_nat hx,ds_t39]
    refine Ev.bO1 (q1 (by omega) a0 a1 a2 a3 a4 a5 a7) ?_
    simp only[letF,wrap_succ hi h.1]
    rw[mx,show max acc (max (k+1) m)=max (max acc (k+1)) m by omega]
    exact p1 (by omega) _ (by omega)
   ·by_cases hz:(0:Int)≤z
    ·obtain⟨y,g1,g2,g3,g4⟩:=q2 a0 a1 a2 a3 a4 a5 a7 z w5 h1 h2
     obtain⟨r,k1,k2,k3,k4⟩:=p2 y g2 g3
     refine⟨r,.succ (.succ (Ev.congr (A:=fun n=>bO1 (F30 n a0 a1 a2 a3 a4 a5 a6 a7 z) fun z10=>L30_1 n l ((i+1:Nat):Int) z10) (Ev.bO1 g1 k1) fun n=>?_)),k2,k3,by omega⟩
     rw[L30_1];simp only[lenF];rw[if_pos (by omega),if_pos hz,L30_2,if_pos rfl,getF_nat hx]
     simp only[ds_t39,letF,wrap_succ hi h.1]
    ·refine⟨z,.succ (.succ (.of fun n=>?_)),h1,h2,by omega⟩
     rw[L30_1];simp only[lenF];rw[if_pos (by omega),if_neg hz,L30_2,if_neg Bool.false_ne_true]
 obtain⟨m,p1,p2⟩:=loop 0 (Nat.zero_le _)
 refine⟨m,fun hm z1 z2 s3 s4 s5 l6 z8=>?_,fun z1 z2 s3 s4 s5 l6 z8 z h6 h1 h2=>?_⟩
 ·refine .succ ?_
  simp only[F87,lenF]
  have:=p1 hm 0 (by omega)
  rwa [show max 0 m=m by omega]at this
 ·obtain⟨y1,g1,g2,g3,g4⟩:=room26 s3 z h1 h2
  obtain⟨y2,j1,j2,j3,j4⟩:=room26 s4 y1 (by omega) g3
  obtain⟨y3,i1,i2,i3,i4⟩:=room67 h6 s5 y2 (by omega) j3
  obtain⟨r,k1,k2,k3,k4⟩:=p2 y3 i2 i3
  exact⟨r,.succ ((Ev.bO1 g1 (Ev.bO1 j1 (Ev.bO1 i1 k1))).congr fun n=>by rw[F30]),k2,k3,by omega⟩
section
variable {z1:Int}{s2 s3:ByteArray}{l4:List D}{z5:Int}{s6:ByteArray}{l7:List D}{z8:Int}{s9:ByteArray}{l10 l11 l12 l13 l14:List D}{z15:Int}{c:Int}
theorem d_one {x:D}{d a:Nat}(hx:RowS tab 50 x) (h:Ev (fun n=>ds_t50 x (F88 n)) (d:Int)):Ev (fun n=>ds_t50 x fun z1 s2 s3 l4 z5 s6 l7 z8 s9 l10 l11 l12 l13 l14 z15=>F88r0 n z1 s2 s3 l4 z5 s6 l7 z8 s9 l10 l11 l12 l13 l14 z15 (a:Int)) ((max a d:Nat):Int):=by
 obtain⟨a0,a1,a2,a3,a4,a5,a6,a7,a8,a9,a10,a11,a12,a13,a14,rfl,_⟩:=rs50 hx
 refine Ev.congr (A:=fun n=>F88r0 n a0 a1 a2 a3 a4 a5 a6 a7 a8 a9 a10 a11 a12 a13 a14 (a:Int)) (.succ ?_) (fun n=>rfl)
 simp only[F88r0]
 refine Ev.bO1 h ?_
 simp only[letF,mx]
 exact .ret
end
theorem room_ex {l18:List D}(h:ListS tab 39 l18) (l1:List D) (z3:Int) (l19 l20 l21:List D):∀i:Nat,i≤l18.length→∀z:Int,-6≤z→z≤20000→∃r,-6≤r∧r≤20000∧(0≤r→r≤z∧∀j x,i≤j→l18[j]?=some x→∃d:Nat,5*(d:Int)≤z - r∧Ev (fun n=>ds_t39 x (F87 n)) (d:Int))∧
  ∀R,Ev (fun n=>if r<(0:Int)then L29_5 n l1 z3 l19 l20 l21 r true else L29_5 n l1 z3 l19 l20 l21 r false) R→Ev (fun n=>L29_3 n l1 z3 l18 l19 l20 l21 (i:Int) z) R:=by
 refine down l18.length ?_ ?_
 ·intro z h1 h2
  refine⟨z,h1,h2,fun _=>⟨by omega,fun j x hj hx=>absurd (List.getElem?_eq_some_iff.1 hx).1 (by omega)⟩,fun R hR=>.succ ?_⟩
  simp only[L29_3,lenF,Int.lt_irrefl,if_false]
  exact .succ (by simp only[L29_4,Bool.false_eq_true,if_false];exact hR)
 ·intro i hi ih z h1 h2
  by_cases c:(0:Int)≤z
  ·obtain⟨x,hx,hm,hr⟩:=h.get hi
   obtain⟨a0,a1,a2,a3,a4,a5,a6,a7,rfl,w0,w1,w2,w3,w4,w5,w6,w7⟩:=rs39 hr
   obtain⟨m,m1,m2⟩:=ex_dp a6 w6
   obtain⟨y,y1,y2,y3,y4⟩:=m2 a0 a1 a2 a3 a4 a5 a7 z w5 h1 h2
   obtain⟨r,r1,r2,r3,r4⟩:=ih y y2 y3
   refine⟨r,r1,r2,fun hr0=>⟨by have:=(r3 hr0).1;have:=y4 (by omega);omega,fun j x hj hx'=>?_⟩,fun R hR=>.succ ?_⟩
   ·have hy:=y4 (by have:=(r3 hr0).1;omega)
    by_cases e:j=i
    ·subst e
     rw[hx]at hx'
     cases hx'
     exact⟨m+1,by have:=(r3 hr0).1;omega,m1 (by omega) _ _ _ _ _ _ _⟩
    ·obtain⟨d,d1,d2⟩:=(r3 hr0).2 j x (by omega) hx'
     exact⟨d,by omega,d2⟩
   ·simp only[L29_3,lenF,if_pos (ilt hi),if_pos c]
    refine .succ ?_
    simp only[L29_4,if_true,getF_nat hx,ds_t39]
    refine Ev.bO1 y1 ?_
    simp only[letF,wrap_succ hi h.1]
    exact r4 R hR
  ·refine⟨z,h1,h2,fun h=>absurd h c,fun R hR=>.succ ?_⟩
   simp only[L29_3,lenF,if_pos (ilt hi),if_neg c]
   exact .succ (by simp only[L29_4,Bool.false_eq_true,if_false];exact hR)
end Go.Proofs.YtjmofeakajdbiaaGreatDoor
end
set_option linter.unusedVariables false
noncomputable section
namespace Go.Proofs.YtjmofeakajdbiaaGreatDoor
open Go Go.AM
def Dr (lo:Int) (m:Nat) (A:Int→Nat→Option Bool):Prop:=∃b:Bool,∀d:Int,lo≤d→d≤40→Ev (A d) (b&&decide ((m:Int)≤d))
section
variable {α β:Type}{lo:Int}{m:Nat}
theorem q_f:Dr lo m (fun _ _=>some false):=⟨false,fun _ _ _=>.ret⟩
theorem q_no {A:Int→Nat→Option Bool}(h:∀d,lo≤d→d≤40→Ev (A d) false):Dr lo m A:=⟨false,h⟩
theorem q_u {A:Int→Nat→Option Bool}(h:Dr lo m fun d n=>A d (n+1)):Dr lo m A:=h.imp fun _ h d h1 h2=>.succ (h d h1 h2)
theorem q_i {c:Prop} [Decidable c] {A B:Int→Nat→Option Bool}(h1:Dr lo m A) (h2:Dr lo m B):Dr lo m fun d n=>if c then A d n else B d n:=by
 by_cases h:c
 ·simp only[if_pos h];exact h1
 ·simp only[if_neg h];exact h2
theorem q_1 {G:Nat→Option α}{k:α→Int→Nat→Option Bool}(hg:Total G) (hk:∀a,Dr lo m (k a)):Dr lo m fun d n=>bO1 (G n) fun a=>k a d n:=by
 obtain⟨a,ha⟩:=hg
 obtain⟨b,h⟩:=hk a
 exact⟨b,fun d h1 h2=>Ev.bO1 ha (h d h1 h2)⟩
theorem q_lt {A B:Int→Nat→Option Bool}(ha:∀d,Ev (A d) false) (hb:Dr 1 (m+1) B):Dr 0 (m+1) fun d n=>if d<1 then A d n else B d n:=by
 obtain⟨b,h⟩:=hb
 refine⟨b,fun d h1 h2=>?_⟩
 by_cases c:d<1
 ·simp only[if_pos c]
  rw[decide_eq_false (by omega),Bool.and_false]
  exact ha d
 ·simp only[if_neg c]
  exact h d (by omega) h2
theorem q_gt {B:Int→Nat→Option Bool}(hb:Dr 1 (m+1) B):Dr 0 (m+1) fun d n=>if 0<d then B d n else some false:=by
 obtain⟨b,h⟩:=hb
 refine⟨b,fun d h1 h2=>?_⟩
 by_cases c:0<d
 ·simp only[if_pos c]
  exact h d (by omega) h2
 ·simp only[if_neg c]
  rw[decide_eq_false (by omega),Bool.and_false]
  exact .ret
theorem Dr.congr {A B:Int→Nat→Option Bool}(h:Dr lo m A) (e:∀d n,A d n=B d n):Dr lo m B:=h.imp fun _ h d h1 h2=>(h d h1 h2).congr (e d)
theorem Dr.any {m m':Nat}{A:Int→Nat→Option Bool}(h:Dr 0 m A) (hm:m<41→m=m'):Dr 0 m' A:=by
 by_cases c:m<41
 ·rw[←hm c];exact h
 ·obtain⟨b,h⟩:=h
  refine⟨false,fun d h1 h2=>?_⟩
  have:=h d h1 h2
  rwa [decide_eq_false (by omega),Bool.and_false]at this
end
theorem ev_ite {X Y:Bool}{B:Nat→Option Bool}(h:X=true→Ev B Y):Ev (fun n=>if X=true then B n else some false) (X&&Y):=by
 cases X
 ·simp only[Bool.false_eq_true,if_false];exact .ret
 ·simp only[if_true];exact h rfl
theorem two_d (b c:Bool) (k m:Nat) (d:Int):((b&&decide ((k:Int)≤d - 1))&&(c&&decide ((m:Int)+1≤d)))=((b&&c)&&decide (((max k m:Nat):Int)+1≤d)):=by
 rw[Bool.eq_iff_iff]
 simp only[Bool.and_eq_true,decide_eq_true_eq]
 constructor
 ·rintro⟨⟨h1,h2⟩,h3,h4⟩;exact⟨⟨h1,h3⟩,by omega⟩
 ·rintro⟨⟨h1,h3⟩,h4⟩;exact⟨⟨h1,by omega⟩,h3,by omega⟩
theorem ty_w (l:List D):ListS tab 33 l→∃m:Nat,(m<100000→∀z1 s2,Ev (fun n=>F86 n z1 s2 l) ((m+1:Nat):Int))∧
  (∀z1 (s2:ByteArray),s2.size≤maxLen→Dr 0 (m+1) fun d n=>F55 n z1 s2 l d):=by
 refine list_ind (P:=fun l=>ListS tab 33 l→∃m:Nat,(m<100000→∀z1 s2,Ev (fun n=>F86 n z1 s2 l) ((m+1:Nat):Int))∧
  (∀z1 (s2:ByteArray),s2.size≤maxLen→Dr 0 (m+1) fun d n=>F55 n z1 s2 l d)) (fun l ih h=>?_) l
 have loop:∀i:Nat,i≤l.length→∃m:Nat,(m<100000→∀acc:Nat,acc<100000→Ev (fun n=>L86_1 n l (l.length:Int) (acc:Int) (i:Int)) ((max acc m+1:Nat):Int))∧
   (∃b:Bool,∀d:Int,1≤d→d≤40→Ev (fun n=>L100_1 n l 1 (i:Int) d) ((b&&decide ((m:Int)+1≤d)),d)):=by
  refine down l.length ⟨0,fun _ acc ha=>?_,decide (l.length≤1),fun d h1 h2=>?_⟩ (fun i hi hP=>?_)
  ·refine .succ ?_
   simp only[L86_1,Int.lt_irrefl,if_false]
   refine .succ ?_
   simp only[L86_2,Bool.false_eq_true,if_false,letF,iw (show -9223372036854775808≤(acc:Int)+1 by omega) (by omega)]
   rw[show max acc 0=acc by omega]
   exact .ret
  ·refine .succ ?_
   simp only[L100_1,lenF,Int.lt_irrefl,if_false]
   refine .succ ?_
   simp only[L100_2,Bool.false_eq_true,if_false,lenF]
   rw[decide_eq_true (show ((0:Nat):Int)+1≤d by omega),Bool.and_true]
   by_cases c:l.length≤1
   ·rw[if_pos (by omega),decide_eq_true c];exact .ret
   ·rw[if_neg (by omega),decide_eq_false c];exact .ret
  ·obtain⟨m,p1,b2,p2⟩:=hP
   obtain⟨x,hx,hm,hr⟩:=h.get hi
   obtain⟨a,s,l',rfl,_,hs,hl'⟩:=rs33 hr
   obtain⟨k,q1,q3⟩:=ih l' (size_row (ag:=true) (sz:=3) hm (by simp)) hl'
   obtain⟨b1,q3⟩:=q3 a s hs
   refine⟨max (k+1) m,fun hk acc ha=>?_,?_⟩
   ·refine .succ ?_
    simp only[L86_1,if_pos (ilt hi)]
    refine .succ ?_
    simp only[L86_2,if_true,getF_nat hx,ds_t33]
    refine Ev.bO1 (q1 (by omega) a s) ?_
    simp only[letF,wrap_succ hi h.1]
    rw[mx,show max acc (max (k+1) m)=max (max acc (k+1)) m by omega]
    exact p1 (by omega) _ (by omega)
   ·by_cases c:i<1
    ·refine⟨b1&&b2,fun d h1 h2=>.succ ?_⟩
     simp only[L100_1,lenF,if_pos (ilt hi),if_pos (show (i:Int)<1 by omega)]
     refine .succ ?_
     simp only[L100_2,if_true,getF_nat hx,ds_t33,letB]
     refine Ev.bO2 (A:=fun n=>F101 n a s l' d) (a:=b1&&decide (((k+1:Nat):Int)≤d - 1)) (b:=d) (.succ ?_) ?_
     ·simp only[F101,letF,iw (show -9223372036854775808≤d - 1 by omega) (by omega)]
      exact Ev.bO1 (q3 (d - 1) (by omega) (by omega)) .ret
     ·rw[←two_d]
      cases b1&&decide (((k+1:Nat):Int)≤d - 1)
      ·simp only[Bool.not_false,if_true,Bool.false_and];exact .ret
      ·simp only[Bool.not_true,Bool.false_eq_true,if_false,letF,wrap_succ hi h.1,Bool.true_and]
       exact p2 d h1 h2
    ·refine⟨false,fun d h1 h2=>.succ ?_⟩
     simp only[L100_1,lenF,if_pos (ilt hi),if_neg (show ¬(i:Int)<1 by omega)]
     refine .succ ?_
     simp only[L100_2,Bool.false_eq_true,if_false,lenF,if_neg (show ¬(l.length:Int)≤1 by omega),Bool.false_and]
     exact .ret
 obtain⟨m,p1,b,p2⟩:=loop 0 (Nat.zero_le _)
 refine⟨m,fun hm z1 s2=>?_,fun z1 s2 hs=>?_⟩
 ·refine .succ ?_
  simp only[F86,lenF]
  have:=p1 hm 0 (by omega)
  rwa [show max 0 m=m by omega]at this
 ·have q100:Dr 1 (m+1) fun d n=>bO2 (F100 n l (1:Int) d) fun b15 z16=>some b15:=
   ⟨b,fun d h1 h2=>Ev.bO2 (A:=fun n=>F100 n l 1 d) (.succ (by simp only[F100];exact p2 d h1 h2)) (by
    rw[show decide (((m+1:Nat):Int)≤d)=decide ((m:Int)+1≤d)from decide_eq_decide.2 (by omega)];exact .ret)⟩
  have t_L55_7:∀{z1 z12:Int} {b13:Bool},Dr 0 (m+1) (fun d n=>L55_7 n z1 l d z12 b13):=by
   intros
   exact q_u (by simp only[L55_7,lenF];exact q_gt (q_i (q_i (q_i (q_i q100 q_f) q_f) q_f) q_f))
  have t_L55_6:∀{z1:Int} {b5 b10:Bool},Dr 0 (m+1) (fun d n=>L55_6 n z1 s2 l d b5 b10):=by
   intros
   exact q_u (by simp only[L55_6];exact q_i (q_1 (t_F73 ‹_›) fun _=>t_L55_7) t_L55_7)
  have t_L55_5:∀{z1:Int} {b5 b9:Bool},Dr 0 (m+1) (fun d n=>L55_5 n z1 s2 l d b5 b9):=by
   intros
   exact q_u (by simp only[L55_5];exact q_i t_L55_7 (q_i t_L55_6 t_L55_6))
  have t_L55_4:∀{z1:Int} {b5 b8:Bool},Dr 0 (m+1) (fun d n=>L55_4 n z1 s2 l d b5 b8):=by
   intros
   exact q_u (by simp only[L55_4];exact q_i t_L55_5 (q_i t_L55_5 t_L55_5))
  have t_L55_3:∀{z1:Int} {b5 b7:Bool},Dr 0 (m+1) (fun d n=>L55_3 n z1 s2 l d b5 b7):=by
   intros
   exact q_u (by simp only[L55_3];exact q_i t_L55_5 (q_i t_L55_4 t_L55_4))
  have t_L55_2:∀{z1:Int} {b5 b6:Bool},Dr 0 (m+1) (fun d n=>L55_2 n z1 s2 l d b5 b6):=by
   intros
   exact q_u (by simp only[L55_2];exact q_i t_L55_5 (q_i t_L55_3 t_L55_3))
  have t_L55_1:∀{z1:Int} {b5:Bool},Dr 0 (m+1) (fun d n=>L55_1 n z1 s2 l d b5):=by
   intros
   exact q_u (by simp only[L55_1];exact q_i t_L55_2 t_L55_2)
  exact q_u (by simp only[F55];exact q_i t_L55_1 t_L55_1)
theorem ty_z {l:List D}(h:ListS tab 33 l) {z1:Int}{s2:ByteArray}(hs:s2.size≤maxLen) {d:Nat}(hd:Ev (fun n=>F86 n z1 s2 l) (d:Int)):Dr 0 d fun d n=>F55 n z1 s2 l d:=by
 obtain⟨m,h1,h2⟩:=ty_w l h
 exact (h2 z1 s2 hs).any fun c=>by have:=Ev.uniq (h1 (by omega) z1 s2) hd;omega
theorem ex_w (l:List D):ListS tab 39 l→∃m:Nat,(m<100000→∀z1 z2 s3 s4 s5 l6 z8,Ev (fun n=>F87 n z1 z2 s3 s4 s5 l6 l z8) ((m+1:Nat):Int))∧
  (∀z1 z2 (s3 s4 s5:ByteArray) l6 z8,s3.size≤maxLen→s4.size≤maxLen→s5.size≤maxLen→ListS tab 9 l6→Dr 0 (m+1) fun d n=>F54 n z1 z2 s3 s4 s5 l6 l z8 d):=by
 refine list_ind (P:=fun l=>ListS tab 39 l→∃m:Nat,(m<100000→∀z1 z2 s3 s4 s5 l6 z8,Ev (fun n=>F87 n z1 z2 s3 s4 s5 l6 l z8) ((m+1:Nat):Int))∧
  (∀z1 z2 (s3 s4 s5:ByteArray) l6 z8,s3.size≤maxLen→s4.size≤maxLen→s5.size≤maxLen→ListS tab 9 l6→Dr 0 (m+1) fun d n=>F54 n z1 z2 s3 s4 s5 l6 l z8 d)) (fun l ih h=>?_) l
 have loop:∀i:Nat,i≤l.length→∃m:Nat,(m<100000→∀acc:Nat,acc<100000→Ev (fun n=>L87_1 n l (l.length:Int) (acc:Int) (i:Int)) ((max acc m+1:Nat):Int))∧
   (∀z2 z13 z14 s15 s16 s17 l18 l19 z20,∃b:Bool,∀d:Int,1≤d→d≤40→Ev (fun n=>L98_1 n l z2 (i:Int) z13 z14 s15 s16 s17 l18 l19 z20 d) ((b&&decide ((m:Int)+1≤d)),z13,z14,s15,s16,s17,l18,l19,z20,d)):=by
  refine down l.length ⟨0,fun _ acc ha=>?_,fun z2 z13 z14 s15 s16 s17 l18 l19 z20=>⟨decide ((l.length:Int)≤z2),fun d h1 h2=>?_⟩⟩ (fun i hi hP=>?_)
  ·refine .succ ?_
   simp only[L87_1,Int.lt_irrefl,if_false]
   refine .succ ?_
   simp only[L87_2,Bool.false_eq_true,if_false,letF,iw (show -9223372036854775808≤(acc:Int)+1 by omega) (by omega)]
   rw[show max acc 0=acc by omega]
   exact .ret
  ·refine .succ ?_
   simp only[L98_1,lenF,Int.lt_irrefl,if_false]
   refine .succ ?_
   simp only[L98_2,Bool.false_eq_true,if_false,lenF]
   rw[decide_eq_true (show ((0:Nat):Int)+1≤d by omega),Bool.and_true]
   by_cases c:(l.length:Int)≤z2
   ·rw[if_pos c,decide_eq_true c];exact .ret
   ·rw[if_neg c,decide_eq_false c];exact .ret
  ·obtain⟨m,p1,p2⟩:=hP
   obtain⟨x,hx,hm,hr⟩:=h.get hi
   obtain⟨a0,a1,a2,a3,a4,a5,a6,a7,rfl,w0,_,w2,w3,w4,w5,w6,_⟩:=rs39 hr
   obtain⟨k,q1,q2⟩:=ih a6 (size_row (ag:=true) (sz:=8) hm (by simp)) w6
   obtain⟨b1,q3⟩:=q2 a0 a1 a2 a3 a4 a5 a7 w2 w3 w4 w5
   refine⟨max (k+1) m,fun hk acc ha=>?_,fun z2 z13 z14 s15 s16 s17 l18 l19 z20=>?_⟩
   ·refine .succ ?_
    simp only[L87_1,if_pos (ilt hi)]
    refine .succ ?_
    simp only[L87_2,if_true,getF_nat hx,ds_t39]
    refine Ev.bO1 (q1 (by omega) a0 a1 a2 a3 a4 a5 a7) ?_
    simp only[letF,wrap_succ hi h.1]
    rw[mx,show max acc (max (k+1) m)=max (max acc (k+1)) m by omega]
    exact p1 (by omega) _ (by omega)
   ·by_cases c:(i:Int)<z2
    ·obtain⟨b2,p2⟩:=p2 z2 z13 z14 s15 s16 s17 l18 l19 z20
     have g:∀d:Int,1≤d→d≤40→Ev (fun n=>F54 n a0 a1 a2 a3 a4 a5 a6 a7 (d - 1)) (b1&&decide (((k+1:Nat):Int)≤d - 1)):=fun d h1 h2=>q3 (d - 1) (by omega) (by omega)
     have e99:∃b0:Bool,∀d:Int,1≤d→d≤40→Ev (fun n=>F99 n a0 a1 a2 a3 a4 a5 a6 a7 z13 z14 s15 s16 s17 l18 l19 z20 d) ((b0&&decide (((k+1:Nat):Int)≤d - 1)),z13,z14,s15,s16,s17,l18,l19,z20,d):=by
      by_cases c18:z13=18
      ·refine⟨b1,fun d h1 h2=>.succ ?_⟩
       simp only[F99,if_pos c18,letF,iw (show -9223372036854775808≤d - 1 by omega) (by omega)]
       exact Ev.bO1 (g d h1 h2) .ret
      ·cases hl:lentB a0 with
       | true=>
        refine⟨false,fun d h1 h2=>.succ ?_⟩
        simp only[F99,if_neg c18]
        refine Ev.bO1 (.of fun n=>(ev53 a0 a1 a2 a3 a4 a5 a6 a7 n)) ?_
        rw[hl]
        simp only[letB,Bool.not_true,Bool.false_eq_true,if_false,Bool.false_and]
        exact .ret
       | false=>
        refine⟨b1,fun d h1 h2=>.succ ?_⟩
        simp only[F99,if_neg c18]
        refine Ev.bO1 (.of fun n=>(ev53 a0 a1 a2 a3 a4 a5 a6 a7 n)) ?_
        rw[hl]
        simp only[letB,Bool.not_false,if_true,letF,iw (show -9223372036854775808≤d - 1 by omega) (by omega)]
        exact Ev.bO1 (g d h1 h2) .ret
     obtain⟨b0,e99⟩:=e99
     refine⟨b0&&b2,fun d h1 h2=>.succ ?_⟩
     simp only[L98_1,lenF,if_pos (ilt hi),if_pos c]
     refine .succ ?_
     simp only[L98_2,if_true,getF_nat hx,ds_t39,letB]
     refine Ev.bO10 (e99 d h1 h2) ?_
     rw[←two_d]
     cases b0&&decide (((k+1:Nat):Int)≤d - 1)
     ·simp only[Bool.not_false,if_true,Bool.false_and];exact .ret
     ·simp only[Bool.not_true,Bool.false_eq_true,if_false,letF,wrap_succ hi h.1,Bool.true_and]
      exact p2 d h1 h2
    ·refine⟨false,fun d h1 h2=>.succ ?_⟩
     simp only[L98_1,lenF,if_pos (ilt hi),if_neg c]
     refine .succ ?_
     simp only[L98_2,Bool.false_eq_true,if_false,lenF,if_neg (show ¬(l.length:Int)≤z2 by omega),Bool.false_and]
     exact .ret
 obtain⟨m,p1,p2⟩:=loop 0 (Nat.zero_le _)
 refine⟨m,fun hm z1 z2 s3 s4 s5 l6 z8=>?_,fun z1 z2 s3 s4 s5 l6 z8 h3 h4 h5 h6=>?_⟩
 ·refine .succ ?_
  simp only[F87,lenF]
  have:=p1 hm 0 (by omega)
  rwa [show max 0 m=m by omega]at this
 ·have q98:∀z12,Dr 1 (m+1) fun d n=>bO10 (F98 n l z12 z1 z2 s3 s4 s5 l6 l z8 d) fun b21 z22 z23 s24 s25 s26 l27 l28 z29 z30=>some b21:=fun z12=>by
   obtain⟨b,p2⟩:=p2 z12 z1 z2 s3 s4 s5 l6 l z8
   exact⟨b,fun d h1 h2=>Ev.bO10 (A:=fun n=>F98 n l z12 z1 z2 s3 s4 s5 l6 l z8 d) (.succ (by simp only[F98];exact p2 d h1 h2)) (by
    rw[show decide (((m+1:Nat):Int)≤d)=decide ((m:Int)+1≤d)from decide_eq_decide.2 (by omega)];exact .ret)⟩
  have t_L54_1:∀{z12:Int} {b20:Bool},Dr 1 (m+1) (fun d n=>L54_1 n z1 z2 s3 s4 s5 l6 l z8 d z12 b20):=by
   intros
   exact q_u (by simp only[L54_1];exact q_i q_f (q98 _))
  have no:∀{z12:Int} (d:Int),Ev (fun n=>L54_1 n z1 z2 s3 s4 s5 l6 l z8 d z12 true) false:=fun d=>.succ (by simp only[L54_1,if_true];exact .ret)
  refine q_u ?_
  simp only[F54,lenF,letB]
  obtain⟨⟨r0,r1,r2,r3⟩,hr⟩:=t_F95 (z1:=z1)
  have main:Dr 0 (m+1) fun d n=>if d<(1:Int)then L54_1 n z1 z2 s3 s4 s5 l6 l z8 d r2 true else if (!r3)=true then L54_1 n z1 z2 s3 s4 s5 l6 l z8 d r2 true else bO1 (F96 n z1 z2 s3 s4 s5 l6 l z8) fun b15=>if (!b15)=true then L54_1 n z1 z2 s3 s4 s5 l6 l z8 d r2 true else if (l.length:Int)<r1 then L54_1 n z1 z2 s3 s4 s5 l6 l z8 d r2 true else bO1 (F97 n z1 z2 s3 s4 s5 l6 l z8 r0) fun b18=>L54_1 n z1 z2 s3 s4 s5 l6 l z8 d r2 (!b18):=
   q_lt no (q_i t_L54_1 (q_1 (t_F96 h3 h4) fun _=>q_i t_L54_1 (q_i t_L54_1 (q_1 (t_F97 h5 h6) fun _=>t_L54_1))))
  obtain⟨b,hb⟩:=main
  exact⟨b,fun d h1 h2=>Ev.bO4 hr (hb d h1 h2)⟩
theorem ex_z {l6 l7:List D}(h:ListS tab 39 l7) {z1 z2:Int}{s3 s4 s5:ByteArray}{z8:Int}(h3:s3.size≤maxLen) (h4:s4.size≤maxLen) (h5:s5.size≤maxLen) (h6:ListS tab 9 l6) {d:Nat}(hd:Ev (fun n=>F87 n z1 z2 s3 s4 s5 l6 l7 z8) (d:Int)):Dr 0 d fun d n=>F54 n z1 z2 s3 s4 s5 l6 l7 z8 d:=by
 obtain⟨m,h1,h2⟩:=ex_w l7 h
 exact (h2 z1 z2 s3 s4 s5 l6 z8 h3 h4 h5 h6).any fun c=>by have:=Ev.uniq (h1 (by omega) z1 z2 s3 s4 s5 l6 z8) hd;omega
end Go.Proofs.YtjmofeakajdbiaaGreatDoor
end
set_option linter.unusedVariables false
noncomputable section
namespace Go.Proofs.YtjmofeakajdbiaaGreatDoor
open Go Go.AM
def dW (c:Int) (l:List D):Prop:=∀x∈l,∃d:Nat,5*(d:Int)≤c∧Ev (fun n=>ds_t50 x (F88 n)) (d:Int)∧(Dr 0 d fun e n=>ds_t50 x fun z1 s2 s3 l4 z5 s6 l7 z8 s9 l10 l11 l12 l13 l14 z15=>F77 n z1 s2 s3 l4 z5 s6 l7 z8 s9 l10 l11 l12 l13 l14 z15 e)∧1≤d
def eW (c:Int) (l:List D):Prop:=∀x∈l,∃d:Nat,5*(d:Int)≤c∧Ev (fun n=>ds_t39 x (F87 n)) (d:Int)∧Dr 0 d fun e n=>ds_t39 x fun z1 z2 s3 s4 s5 l6 l7 z8=>F54 n z1 z2 s3 s4 s5 l6 l7 z8 e
theorem dW.mono {c c':Int}{l:List D}(h:dW c l) (hc:c≤c'):dW c' l:=fun x hx=>by
 obtain⟨d,h1,h2⟩:=h x hx
 exact⟨d,by omega,h2⟩
theorem eW.of {c:Int}{l:List D}(hl:ListS tab 39 l) (h:eR c l):eW c l:=fun x hx=>by
 obtain⟨d,h1,h2⟩:=h x hx
 obtain⟨a0,a1,a2,a3,a4,a5,a6,a7,rfl,w0,_,w2,w3,w4,w5,w6,_⟩:=rs39 (hl.2 x hx)
 exact⟨d,h1,h2,ex_z w6 w2 w3 w4 w5 h2⟩
theorem one_d (b c:Bool) (k m:Nat) (d:Int):((b&&decide ((k:Int)+1≤d))&&(c&&decide ((m:Int)+1≤d)))=((b&&c)&&decide (((max k m:Nat):Int)+1≤d)):=by
 rw[Bool.eq_iff_iff]
 simp only[Bool.and_eq_true,decide_eq_true_eq]
 constructor
 ·rintro⟨⟨h1,h2⟩,h3,h4⟩;exact⟨⟨h1,h3⟩,by omega⟩
 ·rintro⟨⟨h1,h3⟩,h4⟩;exact⟨⟨h1,by omega⟩,h3,by omega⟩
theorem w_end1 {l:List D}(z13 z14:Int) (b15 b16 b17 b18 b19 b20:Bool):∃b:Bool,∀d:Int,1≤d→d≤40→Ev (fun n=>L98x1_1 n l 6 (l.length:Int) z13 z14 b15 b16 b17 b18 b19 b20 d) ((b&&decide (((0:Nat):Int)+1≤d)),z13,z14,b15,b16,b17,b18,b19,b20,d):=by
 refine⟨decide (l.length≤6),fun d h1 h2=>.succ ?_⟩
 simp only[L98x1_1,lenF,Int.lt_irrefl,if_false]
 refine .succ ?_
 simp only[L98x1_2,Bool.false_eq_true,if_false,lenF]
 rw[decide_eq_true (show ((0:Nat):Int)+1≤d by omega),Bool.and_true]
 by_cases c:l.length≤6
 ·rw[if_pos (by omega),decide_eq_true c];exact .ret
 ·rw[if_neg (by omega),decide_eq_false c];exact .ret
theorem w_one1 {l:List D}(hl:l.length≤maxLen) {i k m:Nat}(hi:i<l.length) {a0 a1:Int}{a2 a3 a4:ByteArray}{a5 a6:List D}{a7:Int}(hx:l[i]?=some (.agg [.int .u8 a0,.int .i64 a1,.str a2,.str a3,.str a4,.list false 1 a5,.list true 8 a6,.int .i64 a7])) (hz:Dr 0 k fun e n=>F54 n a0 a1 a2 a3 a4 a5 a6 a7 e)
  (hn:∀z13 z14 b15 b16 b17 b18 b19 b20,∃b:Bool,∀d:Int,1≤d→d≤40→Ev (fun n=>L98x1_1 n l 6 ((i+1:Nat):Int) z13 z14 b15 b16 b17 b18 b19 b20 d) ((b&&decide ((m:Int)+1≤d)),z13,z14,b15,b16,b17,b18,b19,b20,d))
  (z13 z14:Int) (b15 b16 b17 b18 b19 b20:Bool):∃b:Bool,∀d:Int,1≤d→d≤40→Ev (fun n=>L98x1_1 n l 6 (i:Int) z13 z14 b15 b16 b17 b18 b19 b20 d) ((b&&decide (((max k m:Nat):Int)+1≤d)),z13,z14,b15,b16,b17,b18,b19,b20,d):=by
 obtain⟨b1,q3⟩:=hz
 by_cases c:(i:Int)<6
 ·obtain⟨b2,p2⟩:=hn z13 z14 b15 b16 b17 b18 b19 b20
  have g:∀d:Int,1≤d→d≤40→Ev (fun n=>F54 n a0 a1 a2 a3 a4 a5 a6 a7 (d - 1)) (b1&&decide ((k:Int)≤d - 1)):=fun d h1 h2=>q3 (d - 1) (by omega) (by omega)
  have e99:∃b0:Bool,∀d:Int,1≤d→d≤40→Ev (fun n=>F128 n a0 a1 a2 a3 a4 a5 a6 a7 z13 z14 b15 b16 b17 b18 b19 b20 d) ((b0&&decide ((k:Int)≤d - 1)),z13,z14,b15,b16,b17,b18,b19,b20,d):=by
   cases b20 with
   | true=>
    refine⟨b1,fun d h1 h2=>?_⟩
    simp only[F128,if_true,letF,iw (show -9223372036854775808≤d - 1 by omega) (by omega)]
    exact Ev.bO1 (g d h1 h2) .ret
   | false=>
    cases hl:lentB a0 with
    | true=>
     refine⟨false,fun d h1 h2=>?_⟩
     simp only[F128,Bool.false_eq_true,if_false]
     refine Ev.bO1 (.of fun n=>(ev53 a0 a1 a2 a3 a4 a5 a6 a7 n)) ?_
     rw[hl]
     simp only[letB,Bool.not_true,Bool.false_eq_true,if_false,Bool.false_and]
     exact .ret
    | false=>
     refine⟨b1,fun d h1 h2=>?_⟩
     simp only[F128,Bool.false_eq_true,if_false]
     refine Ev.bO1 (.of fun n=>(ev53 a0 a1 a2 a3 a4 a5 a6 a7 n)) ?_
     rw[hl]
     simp only[letB,Bool.not_false,if_true,letF,iw (show -9223372036854775808≤d - 1 by omega) (by omega)]
     exact Ev.bO1 (g d h1 h2) .ret
  obtain⟨b0,e99⟩:=e99
  refine⟨b0&&b2,fun d h1 h2=>.succ ?_⟩
  simp only[L98x1_1,lenF,if_pos (ilt hi),if_pos c]
  refine .succ ?_
  simp only[L98x1_2,if_true,getF_nat hx,ds_t39,letB]
  refine Ev.bO10 (e99 d h1 h2) ?_
  rw[←two_d]
  cases b0&&decide ((k:Int)≤d - 1)
  ·simp only[Bool.not_false,if_true,Bool.false_and];exact .ret
  ·simp only[Bool.not_true,Bool.false_eq_true,if_false,letF,wrap_succ hi hl,Bool.true_and]
   exact p2 d h1 h2
 ·refine⟨false,fun d h1 h2=>.succ ?_⟩
  simp only[L98x1_1,lenF,if_pos (ilt hi),if_neg c]
  refine .succ ?_
  simp only[L98x1_2,Bool.false_eq_true,if_false,lenF,if_neg (show ¬(l.length:Int)≤6 by omega),Bool.false_and]
  exact .ret
def ExW (l:List D) (i m:Nat):Prop:=(∀z13 z14 b15 b16 b17 b18 b19 b20,∃b:Bool,∀d:Int,1≤d→d≤40→Ev (fun n=>L98x1_1 n l 6 (i:Int) z13 z14 b15 b16 b17 b18 b19 b20 d) ((b&&decide ((m:Int)+1≤d)),z13,z14,b15,b16,b17,b18,b19,b20,d))
section
variable (z1:Int) (s2 s3:ByteArray) (l4:List D) (z5:Int) (s6:ByteArray) (l7:List D) (z8:Int) (s9:ByteArray) (l10 l11 l12 l13 l14:List D) (z15:Int) {c:Int}
theorem w_ex (hc0:0≤c) (h:ListS tab 39 l11) (he:eW c l11):∀i:Nat,i≤l11.length→∃k:Nat,5*(k:Int)≤c∧ExW l11 i k∧∀a:Nat,∀R,Ev (fun n=>L88_4 n z1 s2 s3 l4 z5 s6 l7 z8 s9 l10 l11 l12 l13 l14 z15 (l11.length:Int) (l11.length:Int) ((max a k:Nat):Int) false) R→Ev (fun n=>L88_3 n z1 s2 s3 l4 z5 s6 l7 z8 s9 l10 l11 l12 l13 l14 z15 (l11.length:Int) (i:Int) (a:Int)) R:=by
 refine down l11.length ?_ ?_
 ·refine⟨0,by omega,w_end1,fun a R hR=>.succ ?_⟩
  simp only[L88_3,Int.lt_irrefl,if_false]
  rw[show max a 0=a by omega]at hR
  exact hR
 ·rintro i hi ⟨m,m1,e1,m2⟩
  obtain⟨x,hx,hm,hr⟩:=h.get hi
  obtain⟨d,d1,d2,d3⟩:=he x hm
  obtain⟨b0,b1,b2,b3,b4,b5,b6,b7,rfl,_⟩:=rs39 hr
  refine⟨max d m,by omega,w_one1 h.1 hi hx d3 e1,fun a R hR=>.succ ?_⟩
  simp only[L88_3,if_pos (ilt hi)]
  refine .succ ?_
  simp only[L88_4,if_true,getF_nat hx,ds_t39]
  refine Ev.bO1 d2 ?_
  simp only[letF,mx,wrap_succ hi h.1]
  refine m2 (max a d) R ?_
  rwa [show max (max a d) m=max a (max d m)by omega]
end
def BoW (l:List D) (i m:Nat):Prop:=∃b:Bool,∀d:Int,1≤d→d≤40→Ev (fun n=>L75x1_1 n l (l.length:Int) (i:Int) d) ((b&&decide ((m:Int)+1≤d)),d)
def BoX (l:List D) (i m:Nat):Prop:=∃b:Bool,(∀d:Int,1≤d→d≤40→Ev (fun n=>L75x1_1 n l (l.length:Int) (i:Int) d) ((b&&decide ((m:Int)+1≤d)),d))∧∀d:Int,1≤d→d≤40→Ev (fun n=>L75_1 n l (l.length:Int) (i:Int) d) ((b&&decide ((m:Int)+1≤d)),d)
theorem BoX.w {l:List D}{i m:Nat}(h:BoX l i m):BoW l i m:=h.imp fun _ h=>h.1
theorem w_body {c:Int}(hc0:0≤c) {l:List D}(hl:ListS tab 50 l) (hd:dW c l):∀i:Nat,i≤l.length→∃k:Nat,5*(k:Int)≤c∧BoX l i k∧(i<l.length→1≤k)∧(∀a:Nat,a≤100000→c≤100000→Ev (fun n=>L39_3 n l (l.length:Int) (a:Int) (i:Int)) ((max a k+1:Nat):Int))∧
  (∀z1 s2 s3 l4 z5 s6 l7 z8 s9 l10 l11 l12 l13 l14 z15 z17 (a:Nat) R,Ev (fun n=>L138_1 n z1 s2 s3 l4 z5 s6 l7 z8 s9 l10 l11 l12 l13 l14 z15 (IntKind.wrap .i64 (z17+1)) ((max a k:Nat):Int)) R→Ev (fun n=>L138_3 n z1 s2 s3 l4 z5 s6 l7 z8 s9 l10 l11 l12 l13 l14 z15 z17 l (l.length:Int) (i:Int) (a:Int)) R)∧
  (∀z1 s2 s3 l4 z5 s6 l7 z8 s9 l10 l11 l12 l13 l14 z15 z45 z46 (a:Nat) R,Ev (fun n=>L138_5 n z1 s2 s3 l4 z5 s6 l7 z8 s9 l10 l11 l12 l13 l14 z15 z45 (IntKind.wrap .i64 (z46+1)) ((max a k:Nat):Int)) R→Ev (fun n=>L138_7 n z1 s2 s3 l4 z5 s6 l7 z8 s9 l10 l11 l12 l13 l14 z15 z45 z46 l (l.length:Int) (i:Int) (a:Int)) R):=by
 refine down l.length ?_ ?_
 ·refine⟨0,by omega,⟨true,fun d h1 h2=>.succ ?_,fun d h1 h2=>.succ ?_⟩,fun h=>by omega,fun a ha hcc=>.succ ?_,fun z1 s2 s3 l4 z5 s6 l7 z8 s9 l10 l11 l12 l13 l14 z15 z17 a R h=>.succ ?_,fun z1 s2 s3 l4 z5 s6 l7 z8 s9 l10 l11 l12 l13 l14 z15 z45 z46 a R h=>.succ ?_⟩
  ·simp only[L75x1_1,lenF,Int.lt_irrefl,if_false]
   refine .succ ?_
   simp only[L75x1_2,Bool.false_eq_true,if_false,lenF,Int.le_refl,if_true]
   rw[decide_eq_true (show ((0:Nat):Int)+1≤d by omega),Bool.and_true]
   exact .ret
  ·simp only[L75_1,lenF,Int.lt_irrefl,if_false]
   refine .succ ?_
   simp only[L75_2,Bool.false_eq_true,if_false,lenF,Int.le_refl,if_true]
   rw[decide_eq_true (show ((0:Nat):Int)+1≤d by omega),Bool.and_true]
   exact .ret
  ·simp only[L39_3,Int.lt_irrefl,if_false]
   refine .succ ?_
   simp only[L39_4,Bool.false_eq_true,if_false,letF]
   rw[iw (by omega) (by omega),show (a:Int)+1=((max a 0+1:Nat):Int)by omega]
   exact .ret
  ·simp only[L138_3,Int.lt_irrefl,if_false]
   rw[show max a 0=a by omega]at h
   exact .succ (by simp only[L138_4,Bool.false_eq_true,if_false,letF];exact h)
  ·simp only[L138_7,Int.lt_irrefl,if_false]
   rw[show max a 0=a by omega]at h
   exact .succ (by simp only[L138_8,Bool.false_eq_true,if_false,letF];exact h)
 ·rintro i hi ⟨m,m1,⟨c2,p2,p3⟩,m0,m4,m2,m3⟩
  obtain⟨x,hx,hm,hr⟩:=hl.get hi
  obtain⟨d,d1,d2,⟨b1,d3⟩,d0⟩:=hd x hm
  have h3:=fun a:Nat=>d_one (a:=a) hr d2
  obtain⟨e0,e1,e2,e3,e4,e5,e6,e7,e8,e9,e10,e11,e12,e13,e14,rfl,_⟩:=rs50 hr
  refine⟨max d m,by omega,⟨b1&&c2,fun e h1 h2=>.succ ?_,fun e h1 h2=>.succ ?_⟩,fun _=>by omega,fun a ha hcc=>.succ ?_,fun z1 s2 s3 l4 z5 s6 l7 z8 s9 l10 l11 l12 l13 l14 z15 z17 a R h=>.succ ?_,fun z1 s2 s3 l4 z5 s6 l7 z8 s9 l10 l11 l12 l13 l14 z15 z45 z46 a R h=>.succ ?_⟩
  ·simp only[L75x1_1,lenF,if_pos (ilt hi)]
   refine .succ ?_
   simp only[L75x1_2,if_true,getF_nat hx,ds_t50,letB]
   refine Ev.bO2 (a:=(b1&&decide ((d:Int)≤e - 1))) (b:=e) (.succ ?_) ?_
   ·simp only[F127,letF,iw (show -9223372036854775808≤e - 1 by omega) (by omega)]
    exact Ev.bO1 (d3 (e - 1) (by omega) (by omega)) .ret
   ·rw[←two_d]
    cases b1&&decide ((d:Int)≤e - 1)
    ·simp only[Bool.not_false,if_true,Bool.false_and];exact .ret
    ·simp only[Bool.not_true,Bool.false_eq_true,if_false,letF,wrap_succ hi hl.1,Bool.true_and]
     exact p2 e h1 h2
  ·simp only[L75_1,lenF,if_pos (ilt hi)]
   refine .succ ?_
   simp only[L75_2,if_true,getF_nat hx,ds_t50,letB]
   refine Ev.bO2 (a:=(b1&&decide ((d:Int)≤e - 1))) (b:=e) ?_ ?_
   ·simp only[F76,letF,iw (show -9223372036854775808≤e - 1 by omega) (by omega)]
    exact Ev.bO1 (d3 (e - 1) (by omega) (by omega)) .ret
   ·rw[←two_d]
    cases b1&&decide ((d:Int)≤e - 1)
    ·simp only[Bool.not_false,if_true,Bool.false_and];exact .ret
    ·simp only[Bool.not_true,Bool.false_eq_true,if_false,letF,wrap_succ hi hl.1,Bool.true_and]
     exact p3 e h1 h2
  ·simp only[L39_3,if_pos (ilt hi)]
   refine .succ ?_
   simp only[L39_4,if_true,getF_nat hx,ds_t50]
   refine Ev.bO1 d2 ?_
   simp only[letF,mx,wrap_succ hi hl.1]
   rw[show max a (max d m)=max (max a d) m by omega]
   exact m4 (max a d) (by omega) hcc
  ·simp only[L138_3,if_pos (ilt hi)]
   refine .succ ?_
   simp only[L138_4,if_true,getF_nat hx,ds_t50]
   refine Ev.bO1 (h3 a) ?_
   simp only[letF,wrap_succ hi hl.1]
   refine m2 z1 s2 s3 l4 z5 s6 l7 z8 s9 l10 l11 l12 l13 l14 z15 z17 (max a d) R ?_
   rwa [show max (max a d) m=max a (max d m)by omega]
  ·simp only[L138_7,if_pos (ilt hi)]
   refine .succ ?_
   simp only[L138_8,if_true,getF_nat hx,ds_t50]
   refine Ev.bO1 (h3 a) ?_
   simp only[letF,wrap_succ hi hl.1]
   refine m3 z1 s2 s3 l4 z5 s6 l7 z8 s9 l10 l11 l12 l13 l14 z15 z45 z46 (max a d) R ?_
   rwa [show max (max a d) m=max a (max d m)by omega]
def ArW (l:List D) (i m:Nat):Prop:=∃b:Bool,∀d:Int,1≤d→d≤40→Ev (fun n=>L129_1 n l 6 (i:Int) d) ((b&&decide ((m:Int)+1≤d)),d)
section
variable (z1:Int) (s2 s3:ByteArray) (l4:List D) (z5:Int) (s6:ByteArray) (l7:List D) (z8:Int) (s9:ByteArray) (l10 l11 l12 l13 l14:List D) (z15:Int) {c:Int}
theorem w_arms (hc0:0≤c) (h14:ListS tab 95 l14) (hd:∀(s1 s2:ByteArray) (m:List D),.agg [.str s1,.str s2,.list true 15 m]∈l14→dW c m):∀i:Nat,i≤l14.length→∃k:Nat,5*(k:Int)≤c∧ArW l14 i k∧
  ∀a:Nat,Ev (fun n=>L138_5 n z1 s2 s3 l4 z5 s6 l7 z8 s9 l10 l11 l12 l13 l14 z15 (l14.length:Int) (i:Int) (a:Int)) (((max a k:Nat):Int),z1,s2,s3,l4,z5,s6,l7,z8,s9,l10,l11,l12,l13,l14,z15):=by
 refine down l14.length ?_ ?_
 ·refine⟨0,by omega,⟨decide (l14.length≤6),fun d h1 h2=>.succ ?_⟩,fun a=>.succ ?_⟩
  ·simp only[L129_1,lenF,Int.lt_irrefl,if_false]
   refine .succ ?_
   simp only[L129_2,Bool.false_eq_true,if_false,lenF]
   rw[decide_eq_true (show ((0:Nat):Int)+1≤d by omega),Bool.and_true]
   by_cases c:l14.length≤6
   ·rw[if_pos (by omega),decide_eq_true c];exact .ret
   ·rw[if_neg (by omega),decide_eq_false c];exact .ret
  ·simp only[L138_5,Int.lt_irrefl,if_false]
   rw[show max a 0=a by omega]
   exact .succ (by simp only[L138_6,Bool.false_eq_true,if_false];exact .ret)
 ·rintro i hi ⟨m,m1,⟨b2,p2⟩,m2⟩
  obtain⟨x,hx,hm,hr⟩:=h14.get hi
  obtain⟨t1,t2,l,rfl,w0,w1,w2⟩:=rs95 hr
  obtain⟨k,k1,⟨b1,k2,_⟩,_,_,_,k4⟩:=w_body hc0 w2 (hd _ _ _ hm) 0 (Nat.zero_le _)
  have g:∀d:Int,1≤d→d≤40→Ev (fun n=>F75x1 n l (l.length:Int) d) ((b1&&decide ((k:Int)+1≤d)),d):=fun d h1 h2=>.succ (by simp only[F75x1];exact k2 d h1 h2)
  have e130:∃b0:Bool,∀d:Int,1≤d→d≤40→Ev (fun n=>F130 n t1 t2 l d) ((b0&&decide ((k:Int)+1≤d)),d):=by
   obtain⟨r1,h1⟩:=t_F73 w0
   obtain⟨r2,h2⟩:=t_F74 w1
   cases r1 with
   | false=>exact⟨false,fun d _ _=>.succ (by simp only[F130];exact Ev.bO1 h1 (by simp only[Bool.false_eq_true,if_false,Bool.false_and];exact .ret))⟩
   | true=>
    by_cases e:t2=ByteArray.empty
    ·exact⟨b1,fun d p q=>.succ (by simp only[F130];exact Ev.bO1 h1 (by simp only[if_true,if_pos e,lenF];exact Ev.bO2 (g d p q) .ret))⟩
    ·cases r2 with
     | false=>exact⟨false,fun d _ _=>.succ (by simp only[F130];exact Ev.bO1 h1 (by simp only[if_true,if_neg e];exact Ev.bO1 h2 (by simp only[Bool.false_eq_true,if_false,Bool.false_and];exact .ret)))⟩
     | true=>exact⟨b1,fun d p q=>.succ (by simp only[F130];exact Ev.bO1 h1 (by simp only[if_true,if_neg e];exact Ev.bO1 h2 (by simp only[if_true,lenF];exact Ev.bO2 (g d p q) .ret)))⟩
  obtain⟨b0,e130⟩:=e130
  refine⟨max k m,by omega,?_,fun a=>.succ ?_⟩
  ·by_cases c6:(i:Int)<6
   ·refine⟨b0&&b2,fun d h1 h2=>.succ ?_⟩
    simp only[L129_1,lenF,if_pos (ilt hi),if_pos c6]
    refine .succ ?_
    simp only[L129_2,if_true,getF_nat hx,ds_t95,letB]
    refine Ev.bO2 (e130 d h1 h2) ?_
    rw[←one_d]
    cases b0&&decide ((k:Int)+1≤d)
    ·simp only[Bool.not_false,if_true,Bool.false_and];exact .ret
    ·simp only[Bool.not_true,Bool.false_eq_true,if_false,letF,wrap_succ hi h14.1,Bool.true_and]
     exact p2 d h1 h2
   ·refine⟨false,fun d h1 h2=>.succ ?_⟩
    simp only[L129_1,lenF,if_pos (ilt hi),if_neg c6]
    refine .succ ?_
    simp only[L129_2,Bool.false_eq_true,if_false,lenF,if_neg (show ¬(l14.length:Int)≤6 by omega),Bool.false_and]
    exact .ret
  ·simp only[L138_5,if_pos (ilt hi)]
   refine .succ ?_
   simp only[L138_6,if_true,getF_nat hx,ds_t95,lenF]
   refine k4 z1 s2 s3 l4 z5 s6 l7 z8 s9 l10 l11 l12 l13 l14 z15 _ _ a _ ?_
   rw[wrap_succ hi h14.1,show max a (max k m)=max (max a k) m by omega]
   exact m2 (max a k)
end
section
variable {z1:Int}{s2 s3:ByteArray}{l4:List D}{z5:Int}{s6:ByteArray}{l7:List D}{z8:Int}{s9:ByteArray}{l10 l11 l12 l13 l14:List D}{z15:Int}
theorem q_tail {ke kb kl ka:Nat}{E:Int→Nat→Option (Bool×Int×Int×Bool×Bool×Bool×Bool×Bool×Bool×Int)}{z1 z2:Int}{b1 b2 b3 b4 b5 b6:Bool}{l12 l13 l14:List D}
  (he:∃b:Bool,∀d:Int,1≤d→d≤40→Ev (E d) ((b&&decide ((ke:Int)+1≤d)),z1,z2,b1,b2,b3,b4,b5,b6,d)) (hb:BoW l12 0 kb) (hl:BoW l13 0 kl) (ha:ArW l14 0 ka):
  Dr 1 (max (max (max ke kb) kl) ka+1) fun d n=>bO10 (E d n) fun b69 z70 z71 b72 b73 b74 b75 b76 b77 z78=>if b69=true then bO2 (F75x1 n l12 (l12.length:Int) z78) fun b80 z81=>if b80=true then bO2 (F75x1 n l13 (l13.length:Int) z81) fun b83 z84=>if b83=true then bO2 (F129 n l14 (6:Int) z84) fun b85 z86=>some b85 else some false else some false else some false:=by
 obtain⟨c1,he⟩:=he
 obtain⟨c2,hb⟩:=hb
 obtain⟨c3,hl⟩:=hl
 obtain⟨c4,ha⟩:=ha
 refine⟨((c1&&c2)&&c3)&&c4,fun d h1 h2=>?_⟩
 rw[show decide (((max (max (max ke kb) kl) ka+1:Nat):Int)≤d)=decide (((max (max (max ke kb) kl) ka:Nat):Int)+1≤d)from decide_eq_decide.2 (by omega),←one_d,←one_d,←one_d,Bool.and_assoc,Bool.and_assoc]
 refine Ev.bO10 (he d h1 h2) (ev_ite fun _=>?_)
 refine Ev.bO2 (A:=fun n=>F75x1 n l12 (l12.length:Int) d) (.succ (by simp only[F75x1];exact hb d h1 h2)) (ev_ite fun _=>?_)
 refine Ev.bO2 (A:=fun n=>F75x1 n l13 (l13.length:Int) d) (.succ (by simp only[F75x1];exact hl d h1 h2)) (ev_ite fun _=>?_)
 exact Ev.bO2 (A:=fun n=>F129 n l14 6 d) (.succ (by simp only[F129];exact ha d h1 h2)) .ret
theorem f55zero {d:Int}:Ev (fun n=>F55 n 0 ByteArray.empty [] d) false:=by
 refine .succ ?_
 simp only[F55,if_true]
 refine .succ ?_
 simp only[L55_1,show ¬(0:Int)=1 by decide,if_false]
 refine .succ ?_
 simp only[L55_2,show ¬(0:Int)=2 by decide,Bool.false_eq_true,if_false]
 refine .succ ?_
 simp only[L55_3,show ¬(0:Int)=3 by decide,Bool.false_eq_true,if_false]
 refine .succ ?_
 simp only[L55_4,show ¬(0:Int)=10 by decide,Bool.false_eq_true,if_false]
 refine .succ ?_
 simp only[L55_5,show ¬(0:Int)=4 by decide,Bool.false_eq_true,if_false]
 refine .succ ?_
 simp only[L55_6,Bool.false_eq_true,if_false]
 refine .succ ?_
 simp only[L55_7,show ¬(1:Int)≤0 by decide,if_false]
 by_cases c:0<d
 ·simp only[if_pos c];exact .ret
 ·simp only[if_neg c];exact .ret
theorem f72 (z5:Int) (s6:ByteArray) (l7:List D):Ev (fun n=>F72 n z5 s6 l7) (decide (z5=0∧s6=ByteArray.empty∧l7=[])):=by
 unfold F72
 by_cases c1:z5=0
 ·by_cases c2:s6=ByteArray.empty
  ·by_cases c3:l7=[]
   ·subst c3
    simp only[if_pos c1,if_pos c2,lenF,List.length_nil]
    rw[decide_eq_true (by exact⟨c1,c2,trivial⟩),if_pos (by rfl)]
    exact .ret
   ·simp only[if_pos c1,if_pos c2,lenF]
    rw[decide_eq_false (fun h=>c3 h.2.2),if_neg (fun h=>c3 (List.length_eq_zero_iff.1 (by omega)))]
    exact .ret
  ·simp only[if_pos c1,if_neg c2]
   rw[decide_eq_false (fun h=>c2 h.2.1)]
   exact .ret
 ·simp only[if_neg c1]
  rw[decide_eq_false (fun h=>c1 h.1)]
  exact .ret
theorem q_zero {m:Nat}{z5:Int}{s6:ByteArray}{l7:List D}(hs:s6.size≤maxLen) (h7:ListS tab 33 l7) {N K:Int→Nat→Option Bool}(hN:∀d,Ev (N d) false) (hK:Dr 1 m K):
  Dr 1 m fun d n=>bO1 (F55 n z5 s6 l7 (IntKind.wrap .i64 (d - 1))) fun b48=>if (!(false==b48))=true then N d n else bO1 (F72 n z5 s6 l7) fun b50=>if (!b50)=true then N d n else K d n:=by
 by_cases z:z5=0∧s6=ByteArray.empty∧l7=[]
 ·have f:=f72 z5 s6 l7
  rw[decide_eq_true z]at f
  obtain⟨rfl,rfl,rfl⟩:=z
  obtain⟨b,h⟩:=hK
  refine⟨b,fun d h1 h2=>Ev.bO1 f55zero ?_⟩
  simp only[show (!(false==false))=false from rfl,Bool.false_eq_true,if_false]
  refine Ev.bO1 f ?_
  simp only[Bool.not_true,Bool.false_eq_true,if_false]
  exact h d h1 h2
 ·have f:=f72 z5 s6 l7
  rw[decide_eq_false z]at f
  refine q_no fun d h1 h2=>?_
  obtain⟨b,hb⟩:=t_F55 l7 h7 z5 s6 (IntKind.wrap .i64 (d - 1)) hs
  refine Ev.bO1 hb ?_
  cases b
  ·simp only[show (!(false==false))=false from rfl,Bool.false_eq_true,if_false]
   refine Ev.bO1 f ?_
   simp only[Bool.not_false,if_true]
   exact hN d
  ·simp only[show (!(false==true))=true from rfl,if_true]
   exact hN d
theorem q_typed {m k:Nat}{z5:Int}{s6:ByteArray}{l7:List D}(ht:Dr 0 k fun d n=>F55 n z5 s6 l7 d) {N K:Int→Nat→Option Bool}(hN:∀d,Ev (N d) false) (hK:Dr 1 (m+1) K):
  Dr 1 (max k m+1) fun d n=>bO1 (F55 n z5 s6 l7 (IntKind.wrap .i64 (d - 1))) fun b48=>if (!(true==b48))=true then N d n else K d n:=by
 obtain⟨b1,h1⟩:=ht
 obtain⟨b2,h2⟩:=hK
 refine⟨b1&&b2,fun d g1 g2=>?_⟩
 rw[show decide (((max k m+1:Nat):Int)≤d)=decide (((max k m:Nat):Int)+1≤d)from decide_eq_decide.2 (by omega),←two_d]
 have ew:IntKind.wrap .i64 (d - 1)=d - 1:=iw (show -9223372036854775808≤d - 1 by omega) (by omega)
 simp only[ew]
 refine Ev.bO1 (h1 (d - 1) (by omega) (by omega)) ?_
 cases b1&&decide ((k:Int)≤d - 1)
 ·simp only[show (!(true==false))=true from rfl,if_true,Bool.false_and]
  exact hN d
 ·simp only[show (!(true==true))=false from rfl,Bool.false_eq_true,if_false,Bool.true_and]
  have:=h2 d g1 g2
  rwa [show decide (((m+1:Nat):Int)≤d)=decide ((m:Int)+1≤d)from decide_eq_decide.2 (by omega)]at this
theorem f124c:Ev (fun n=>F124 n 12 s2 s3 l4 z5 s6 l7 z8 s9 l10 l11 l12 l13 l14 z15) (.inr (.inr (.inr (.inr ())))):=evk fun m=>(by kernel_rfl:F124 (m+300) 12 s2 s3 l4 z5 s6 l7 z8 s9 l10 l11 l12 l13 l14 z15=some (.inr (.inr (.inr (.inr ())))))
def Nl (A:Nat→Option ((Int×Int×Bool×Bool×Bool×Bool×Bool) ⊕ ((Int×Bool×Bool×Bool) ⊕ (Unit ⊕ (Unit ⊕ Unit))))):Prop:=∃r,Ev A r∧r≠ .inr (.inr (.inr (.inr ())))
theorem n_r {r}(h:r≠ .inr (.inr (.inr (.inr ())))):Nl fun _=>some r:=⟨r,.ret,h⟩
theorem n_u {A}(h:Nl fun n=>A (n+1)):Nl A:=h.imp fun _ h=>⟨.succ h.1,h.2⟩
theorem n_i {c:Prop} [Decidable c] {A B}(h1:Nl A) (h2:Nl B):Nl fun n=>if c then A n else B n:=by
 by_cases h:c
 ·simp only[if_pos h];exact h1
 ·simp only[if_neg h];exact h2
theorem f124n (h:z1≠12):Nl fun n=>F124 n z1 s2 s3 l4 z5 s6 l7 z8 s9 l10 l11 l12 l13 l14 z15:=by
 have n13:Nl fun n=>L124_13 n false:=n_u (by simp only[L124_13,Bool.false_eq_true,if_false];exact n_r nofun)
 have n12:∀b,Nl fun n=>L124_12 n z1 b:=fun b=>n_u (by simp only[L124_12,if_neg h];exact n_i (n_r nofun) n13)
 have n11:∀b,Nl fun n=>L124_11 n z1 l4 b:=fun b=>n_u (by simp only[L124_11,lenF];exact n_i (n_r nofun) (n_i (n12 _) (n12 _)))
 have n10:∀b,Nl fun n=>L124_10 n z1 l4 b:=fun b=>n_u (by simp only[L124_10,lenF];exact n_i (n_r nofun) (n_i (n11 _) (n11 _)))
 have n9:∀b,Nl fun n=>L124_9 n z1 l4 b:=fun b=>n_u (by simp only[L124_9,lenF];exact n_i (n10 _) (n_i (n10 _) (n10 _)))
 have n8:∀b,Nl fun n=>L124_8 n z1 l4 b:=fun b=>n_u (by simp only[L124_8,lenF];exact n_i (n_r nofun) (n_i (n9 _) (n9 _)))
 have n7:∀b,Nl fun n=>L124_7 n z1 l4 b:=fun b=>n_u (by simp only[L124_7,lenF];exact n_i (n_r nofun) (n_i (n8 _) (n8 _)))
 have n6:∀b,Nl fun n=>L124_6 n z1 l4 b:=fun b=>n_u (by simp only[L124_6,lenF];exact n_i (n_r nofun) (n_i (n7 _) (n7 _)))
 have n5:∀b,Nl fun n=>L124_5 n z1 l4 b:=fun b=>n_u (by simp only[L124_5,lenF];exact n_i (n_r nofun) (n_i (n6 _) (n6 _)))
 have n4:∀b,Nl fun n=>L124_4 n z1 l4 b:=fun b=>n_u (by simp only[L124_4,lenF];exact n_i (n_r nofun) (n_i (n5 _) (n5 _)))
 have n3:∀b,Nl fun n=>L124_3 n z1 l4 b:=fun b=>n_u (by simp only[L124_3,lenF];exact n_i (n_r nofun) (n_i (n4 _) (n4 _)))
 have n2:∀b,Nl fun n=>L124_2 n z1 l4 b:=fun b=>n_u (by simp only[L124_2,lenF];exact n_i (n_r nofun) (n_i (n3 _) (n3 _)))
 have n1:∀b,Nl fun n=>L124_1 n z1 l4 b:=fun b=>n_u (by simp only[L124_1,lenF];exact n_i (n_r nofun) (n_i (n2 _) (n2 _)))
 unfold F124
 exact n_i (n1 _) (n1 _)
end
end Go.Proofs.YtjmofeakajdbiaaGreatDoor
end
set_option linter.unusedVariables false
noncomputable section
namespace Go.Proofs.YtjmofeakajdbiaaGreatDoor
open Go Go.AM
section
variable {α β:Type}{lo:Int}{m:Nat}
theorem q_bl {G:Nat→Option (α ⊕ β)}{a:α}{k1:α→Int→Nat→Option Bool}{k2:β→Int→Nat→Option Bool}(hr:Ev G (.inl a)) (h:Dr lo m (k1 a)):Dr lo m fun d n=>bS (G n) (fun a=>k1 a d n) fun b=>k2 b d n:=by
 obtain⟨b,h⟩:=h
 obtain⟨N,hr⟩:=hr
 refine⟨b,fun d h1 h2=>?_⟩
 obtain⟨M,h⟩:=h d h1 h2
 refine⟨N+M,fun n hn=>?_⟩
 show bS (G n) _ _=_
 rw[hr n (by omega)]
 exact h n (by omega)
theorem q_br {G:Nat→Option (α ⊕ β)}{a:β}{k1:α→Int→Nat→Option Bool}{k2:β→Int→Nat→Option Bool}(hr:Ev G (.inr a)) (h:Dr lo m (k2 a)):Dr lo m fun d n=>bS (G n) (fun a=>k1 a d n) fun b=>k2 b d n:=by
 obtain⟨b,h⟩:=h
 obtain⟨N,hr⟩:=hr
 refine⟨b,fun d h1 h2=>?_⟩
 obtain⟨M,h⟩:=h d h1 h2
 refine⟨N+M,fun n hn=>?_⟩
 show bS (G n) _ _=_
 rw[hr n (by omega)]
 exact h n (by omega)
end
section
variable {z1:Int}{s2 s3:ByteArray}{l4:List D}{z5:Int}{s6:ByteArray}{l7:List D}{z8:Int}{s9:ByteArray}{l10 l11 l12 l13 l14:List D}{z15:Int}{c:Int}
theorem w_stmt (hc0:0≤c) (hc:c≤100000) (hs2:s2.size≤maxLen) (hs3:s3.size≤maxLen) (h4:ListS tab 9 l4) (hs6:s6.size≤maxLen) (h7:ListS tab 33 l7) (hs9:s9.size≤maxLen) (h10:ListS tab 9 l10)
  (ht:∃t:Nat,5*(t:Int)≤c∧Ev (fun n=>F86 n z5 s6 l7) (t:Int)) (h11:ListS tab 39 l11) (he:eW c l11) (h12:ListS tab 50 l12) (hd12:dW c l12) (h13:ListS tab 50 l13) (hd13:dW c l13)
  (h14:ListS tab 95 l14) (hd:∀(s1 s2:ByteArray) (m:List D),.agg [.str s1,.str s2,.list true 15 m]∈l14→dW c m):
  ∃d:Nat,5*(d:Int)≤c+5∧Ev (fun n=>F88 n z1 s2 s3 l4 z5 s6 l7 z8 s9 l10 l11 l12 l13 l14 z15) (d:Int)∧(Dr 0 d fun e n=>F77 n z1 s2 s3 l4 z5 s6 l7 z8 s9 l10 l11 l12 l13 l14 z15 e)∧1≤d:=by
 obtain⟨ke,ke1,e1,ke2⟩:=w_ex z1 s2 s3 l4 z5 s6 l7 z8 s9 l10 l11 l12 l13 l14 z15 hc0 h11 he 0 (Nat.zero_le _)
 obtain⟨kb,kb1,kbX,_,_,kb2,_⟩:=w_body hc0 h12 hd12 0 (Nat.zero_le _)
 obtain⟨kl,kl1,klX,_,_,kl2,_⟩:=w_body hc0 h13 hd13 0 (Nat.zero_le _)
 have kbW:=kbX.w
 have klW:=klX.w
 obtain⟨ka,ka1,kaW,ka2⟩:=w_arms z1 s2 s3 l4 z5 s6 l7 z8 s9 l10 l11 l12 l13 l14 z15 hc0 h14 hd 0 (Nat.zero_le _)
 have h138:∀a:Nat,Ev (fun n=>F138 n (a:Int) z1 s2 s3 l4 z5 s6 l7 z8 s9 l10 l11 l12 l13 l14 z15) (((max (max (max a kb) kl) ka:Nat):Int),z1,s2,s3,l4,z5,s6,l7,z8,s9,l10,l11,l12,l13,l14,z15):=by
  intro a
  refine .succ ?_
  simp only[F138]
  refine .succ ?_
  simp only[L138_1,show (0:Int)<2 by decide,if_true]
  refine .succ ?_
  simp only[L138_2,if_true,getF_zero,ds_listtrue15,lenF]
  refine kb2 z1 s2 s3 l4 z5 s6 l7 z8 s9 l10 l11 l12 l13 l14 z15 0 a _ ?_
  rw[show IntKind.wrap .i64 ((0:Int)+1)=1 from rfl]
  refine .succ ?_
  simp only[L138_1,show (1:Int)<2 by decide,if_true]
  refine .succ ?_
  have g1:∀{γ:Type} (k:D→Option γ),getF [.list true 15 l12,.list true 15 l13] (1:Int) k=k (.list true 15 l13):=fun k=>getF_nat (i:=1) rfl
  simp only[L138_2,if_true,g1,ds_listtrue15,lenF]
  refine kl2 z1 s2 s3 l4 z5 s6 l7 z8 s9 l10 l11 l12 l13 l14 z15 1 (max a kb) _ ?_
  rw[show IntKind.wrap .i64 ((1:Int)+1)=2 from rfl]
  refine .succ ?_
  simp only[L138_1,Int.lt_irrefl,if_false]
  refine .succ ?_
  simp only[L138_2,Bool.false_eq_true,if_false,lenF]
  exact ka2 _
 have hex:∀a:Nat,5*(a:Int)≤c→Ev (fun n=>L88_3 n z1 s2 s3 l4 z5 s6 l7 z8 s9 l10 l11 l12 l13 l14 z15 (l11.length:Int) (0:Int) (a:Int)) ((max (max (max (max a ke) kb) kl) ka+1:Nat):Int):=by
  intro a ha
  refine ke2 a _ (.succ ?_)
  simp only[L88_4,Bool.false_eq_true,if_false]
  refine Ev.bO15 (A:=fun n=>F89 n z1 s2 s3 l4 z5 s6 l7 z8 s9 l10 l11 l12 l13 l14 z15) (.of fun n=>rfl) ?_
  refine Ev.bO16 (h138 _) ?_
  simp only[letF]
  rw[iw (by omega) (by omega),show ((max (max (max (max a ke) kb) kl) ka:Nat):Int)+1=((max (max (max (max a ke) kb) kl) ka+1:Nat):Int)by omega]
  exact .ret
 have E1:∀z13 z14 b15 b16 b17 b18 b19 b20,∃b:Bool,∀d:Int,1≤d→d≤40→Ev (fun n=>F98x1 n l11 6 z13 z14 b15 b16 b17 b18 b19 b20 d) ((b&&decide ((ke:Int)+1≤d)),z13,z14,b15,b16,b17,b18,b19,b20,d):=fun z13 z14 b15 b16 b17 b18 b19 b20=>(e1 z13 z14 b15 b16 b17 b18 b19 b20).imp fun _ h d h1 h2=>by unfold F98x1;exact h d h1 h2
 by_cases e:z1=12
 ·obtain⟨t,t1,t2⟩:=ht
  refine⟨max t (max (max (max ke kb) kl) ka)+1,by omega,?_,?_,by omega⟩
  ·have:=hex t t1
   rw[show max (max (max (max t ke) kb) kl) ka+1=max t (max (max (max ke kb) kl) ka)+1 by omega]at this
   refine .succ ?_
   simp only[F88,if_pos e]
   refine .succ ?_
   simp only[L88_1,if_true]
   refine Ev.bO1 t2 ?_
   exact .succ (by simp only[L88_2,lenF];exact this)
  ·have q15:∀{b:Bool},Dr 1 (max (max (max ke kb) kl) ka+1) fun d n=>L77_15 n l11 l12 l13 l14 d b:=by
    intro b
    exact q_u (by simp only[L77_15,lenF,e98_5];exact q_i q_f (q_tail (E1 _ _ _ _ _ _ _ _) kbW klW kaW))
   have q14:∀{b:Bool},Dr 1 (max (max (max ke kb) kl) ka+1) fun d n=>L77_14 n l11 l12 l13 l14 d b:=by
    intro b
    exact q_u (by simp only[L77_14,lenF];exact q_i q_f (q_i q15 (q_i q15 (q_i q15 q15))))
   have n14:∀d,Ev (fun n=>L77_14 n l11 l12 l13 l14 d true) false:=fun d=>.succ (by simp only[L77_14,if_true];exact .ret)
   have n13:∀d,Ev (fun n=>L77_13 n z5 s6 l7 s9 l10 l11 l12 l13 l14 d true) false:=fun d=>.succ (by simp only[L77_13,if_true];exact .ret)
   have q13:∀{b:Bool},Dr 1 (max t (max (max (max ke kb) kl) ka)+1) fun d n=>L77_13 n z5 s6 l7 s9 l10 l11 l12 l13 l14 d b:=by
    intro b
    exact q_u (by simp only[L77_13,letF,letB];exact q_i q_f (q_typed (ty_z h7 hs6 t2) n14 (q_1 (t_F52 hs9 h10) fun _=>q_i q14 (q_1 t_F126 fun _=>q14))))
   refine q_u ?_
   simp only[F77,lenF,letB]
   subst e
   refine q_br f124c (q_br .ret (q_br .ret (q_br .ret ?_)))
   exact q_lt n13 (q_1 t_F125 fun _=>q_i q13 (q_1 (t_F74 hs2) fun _=>q_i q13 (q_1 (t_F74 hs3) fun _=>q_i q13 (q_i (q_1 (t_F93a h4) fun _=>q13) q13))))
 ·refine⟨max (max (max ke kb) kl) ka+1,by omega,?_,?_,by omega⟩
  ·have:=hex 0 (by omega)
   rw[show max (max (max (max 0 ke) kb) kl) ka+1=max (max (max ke kb) kl) ka+1 by omega]at this
   refine .succ ?_
   simp only[F88,if_neg e]
   refine .succ ?_
   simp only[L88_1,Bool.false_eq_true,if_false]
   exact .succ (by simp only[L88_2,lenF];exact this)
  ·obtain⟨r,hr,hne⟩:=f124n (s2:=s2) (s3:=s3) (l4:=l4) (z5:=z5) (s6:=s6) (l7:=l7) (z8:=z8) (s9:=s9) (l10:=l10) (l11:=l11) (l12:=l12) (l13:=l13) (l14:=l14) (z15:=z15) e
   have q3:∀{z17 z18:Int} {b19 b20 b21 b22 b:Bool},Dr 1 (max (max (max ke kb) kl) ka+1) fun d n=>L77_3 n l11 l12 l13 l14 d z17 z18 b19 b20 b21 b22 b:=by
    intros
    exact q_u (by simp only[L77_3,lenF];exact q_i q_f (q_tail (E1 _ _ _ _ _ _ _ _) kbW klW kaW))
   have q2:∀{z17 z18:Int} {b19 b20 b21 b22 b:Bool},Dr 1 (max (max (max ke kb) kl) ka+1) fun d n=>L77_2 n l11 l12 l13 l14 d z17 z18 b19 b20 b21 b22 b:=by
    intros
    exact q_u (by simp only[L77_2,lenF,letB];exact q_i q_f (q_i (q_i q3 (q_i (q_i q3 (q_i q3 q3)) (q_i q3 q3))) (q_i (q_i q3 (q_i q3 q3)) (q_i q3 q3))))
   have n2:∀{z17 z18:Int} {b19 b20 b21 b22:Bool},∀d,Ev (fun n=>L77_2 n l11 l12 l13 l14 d z17 z18 b19 b20 b21 b22 true) false:=by
    intros
    exact .succ (by simp only[L77_2,if_true];exact .ret)
   have n1:∀{z17 z18:Int} {b19 b20 b21 b22:Bool},∀d,Ev (fun n=>L77_1 n z5 s6 l7 s9 l10 l11 l12 l13 l14 d z17 z18 b19 b20 b21 b22 true) false:=by
    intros
    exact .succ (by simp only[L77_1,if_true];exact .ret)
   have q1:∀{z17 z18:Int} {b19 b20 b21 b22 b:Bool},Dr 1 (max (max (max ke kb) kl) ka+1) fun d n=>L77_1 n z5 s6 l7 s9 l10 l11 l12 l13 l14 d z17 z18 b19 b20 b21 b22 b:=by
    intros
    exact q_u (by simp only[L77_1,letF,letB];exact q_i q_f (q_zero hs6 h7 n2 (q_1 (t_F52 hs9 h10) fun _=>q_i q2 (q_i (q_1 t_F126 fun _=>q2) q2))))
   have q6:∀{z24:Int} {b25 b26 b27 b:Bool},Dr 1 (max (max (max ke kb) kl) ka+1) fun d n=>L77_6 n l11 l12 l13 l14 d z24 b25 b26 b27 b:=by
    intros
    exact q_u (by simp only[L77_6,lenF,e98_2];exact q_i q_f (q_tail (E1 _ _ _ _ _ _ _ _) kbW klW kaW))
   have q5:∀{z24:Int} {b25 b26 b27 b:Bool},Dr 1 (max (max (max ke kb) kl) ka+1) fun d n=>L77_5 n l11 l12 l13 l14 d z24 b25 b26 b27 b:=by
    intros
    exact q_u (by simp only[L77_5,lenF,letB];exact q_i q_f (q_i (q_i q6 (q_i q6 (q_i q6 q6))) (q_i q6 (q_i q6 q6))))
   have n5:∀{z24:Int} {b25 b26 b27:Bool},∀d,Ev (fun n=>L77_5 n l11 l12 l13 l14 d z24 b25 b26 b27 true) false:=by
    intros
    exact .succ (by simp only[L77_5,if_true];exact .ret)
   have n4:∀{z24:Int} {b25 b26 b27:Bool},∀d,Ev (fun n=>L77_4 n z5 s6 l7 s9 l10 l11 l12 l13 l14 d z24 b25 b26 b27 true) false:=by
    intros
    exact .succ (by simp only[L77_4,if_true];exact .ret)
   have q4:∀{z24:Int} {b25 b26 b27 b:Bool},Dr 1 (max (max (max ke kb) kl) ka+1) fun d n=>L77_4 n z5 s6 l7 s9 l10 l11 l12 l13 l14 d z24 b25 b26 b27 b:=by
    intros
    exact q_u (by simp only[L77_4,letF,letB];exact q_i q_f (q_zero hs6 h7 n5 (q_1 (t_F52 hs9 h10) fun _=>q_i q5 (q_i (q_1 t_F126 fun _=>q5) q5))))
   have q9:∀{b:Bool},Dr 1 (max (max (max ke kb) kl) ka+1) fun d n=>L77_9 n l11 l12 l13 l14 d b:=by
    intros
    exact q_u (by simp only[L77_9,lenF,e98_3];exact q_i q_f (q_tail (E1 _ _ _ _ _ _ _ _) kbW klW kaW))
   have q8:∀{b:Bool},Dr 1 (max (max (max ke kb) kl) ka+1) fun d n=>L77_8 n l11 l12 l13 l14 d b:=by
    intros
    exact q_u (by simp only[L77_8,lenF];exact q_i q_f (q_i q9 (q_i q9 (q_i q9 q9))))
   have n8:∀d,Ev (fun n=>L77_8 n l11 l12 l13 l14 d true) false:=by
    intros
    exact .succ (by simp only[L77_8,if_true];exact .ret)
   have n7:∀d,Ev (fun n=>L77_7 n z5 s6 l7 s9 l10 l11 l12 l13 l14 d true) false:=by
    intros
    exact .succ (by simp only[L77_7,if_true];exact .ret)
   have q7:∀{b:Bool},Dr 1 (max (max (max ke kb) kl) ka+1) fun d n=>L77_7 n z5 s6 l7 s9 l10 l11 l12 l13 l14 d b:=by
    intros
    exact q_u (by simp only[L77_7,letF,letB];exact q_i q_f (q_zero hs6 h7 n8 (q_1 (t_F52 hs9 h10) fun _=>q_i q8 (q_1 t_F126 fun _=>q8))))
   have q12:∀{b:Bool},Dr 1 (max (max (max ke kb) kl) ka+1) fun d n=>L77_12 n l11 l12 l13 l14 d b:=by
    intros
    exact q_u (by simp only[L77_12,lenF,e98_4];exact q_i q_f (q_tail (E1 _ _ _ _ _ _ _ _) kbW klW kaW))
   have q11:∀{b:Bool},Dr 1 (max (max (max ke kb) kl) ka+1) fun d n=>L77_11 n l11 l12 l13 l14 d b:=by
    intros
    exact q_u (by simp only[L77_11,lenF];exact q_i q_f (q_i q12 (q_i q12 q12)))
   have n11:∀d,Ev (fun n=>L77_11 n l11 l12 l13 l14 d true) false:=by
    intros
    exact .succ (by simp only[L77_11,if_true];exact .ret)
   have n10:∀d,Ev (fun n=>L77_10 n z5 s6 l7 s9 l10 l11 l12 l13 l14 d true) false:=by
    intros
    exact .succ (by simp only[L77_10,if_true];exact .ret)
   have q10:∀{b:Bool},Dr 1 (max (max (max ke kb) kl) ka+1) fun d n=>L77_10 n z5 s6 l7 s9 l10 l11 l12 l13 l14 d b:=by
    intros
    exact q_u (by simp only[L77_10,letF,letB];exact q_i q_f (q_zero hs6 h7 n11 (q_1 (t_F52 hs9 h10) fun _=>q_i q11 (q_1 t_F126 fun _=>q11))))
   refine q_u ?_
   simp only[F77,lenF,letB]
   rcases r with⟨z17,z18,b19,b20,b21,b22,b23⟩ | ⟨z24,b25,b26,b27⟩ | u | u | u
   ·refine q_bl hr ?_
    simp only[bO7]
    exact q_lt n1 (q_i q1 (q_1 t_F125 fun _=>q_i q1 (q_1 t_F145 fun _=>q_i q1 (q_1 t_F145 fun _=>q_i q1 (q_i (q_1 (t_F93a h4) fun _=>q1) q1)))))
   ·refine q_br hr (q_bl .ret ?_)
    simp only[bO4]
    exact q_lt n4 (q_1 t_F125 fun _=>q_i q4 (q_1 (t_F74 hs2) fun _=>q_i q4 (q_1 t_F145 fun _=>q_i q4 (q_i (q_1 (t_F93a h4) fun _=>q4) q4))))
   ·refine q_br hr (q_br .ret (q_bl .ret ?_))
    exact q_lt n7 (q_1 t_F125 fun _=>q_i q7 (q_1 (t_F73 hs2) fun _=>q_i q7 (q_1 t_F145 fun _=>q_i q7 (q_i (q_1 (t_F93a h4) fun _=>q7) q7))))
   ·refine q_br hr (q_br .ret (q_br .ret (q_bl .ret ?_)))
    exact q_lt n10 (q_1 t_F125 fun _=>q_i q10 (q_1 (t_F74 hs2) fun _=>q_i q10 (q_1 (t_F73 hs3) fun _=>q_i q10 (q_i (q_1 (t_F93a h4) fun _=>q10) q10))))
   ·exact absurd rfl hne
end
def stW (m:List D):Prop:=∀z:Int,-6≤z→z≤20000→∃r,Ev (fun n=>F29 n m z) r∧ -6≤r∧r≤20000∧(0≤r→r≤z∧dW (z - r) m)
theorem room_armW {l21:List D}(h:ListS tab 95 l21) (hin:∀(s1 s2:ByteArray) (m:List D),.agg [.str s1,.str s2,.list true 15 m]∈l21→stW m) (l1:List D) (z3:Int):∀i:Nat,i≤l21.length→∀z:Int,-6≤z→z≤20000→∃r,-6≤r∧r≤20000∧
  (0≤r→r≤z∧∀j s1 s2 m,i≤j→l21[j]?=some (.agg [.str s1,.str s2,.list true 15 m])→dW (z - r) m)∧∀R,Ev (fun n=>L29_1 n l1 (IntKind.wrap .i64 (z3+1)) r) R→Ev (fun n=>L29_6 n l1 z3 l21 (i:Int) z) R:=by
 refine down l21.length ?_ ?_
 ·intro z h1 h2
  refine⟨z,h1,h2,fun _=>⟨by omega,fun j s1 s2 m hj hx=>absurd (List.getElem?_eq_some_iff.1 hx).1 (by omega)⟩,fun R hR=>.succ ?_⟩
  simp only[L29_6,lenF,Int.lt_irrefl,if_false]
  exact .succ (by simp only[L29_7,Bool.false_eq_true,if_false,letF];exact hR)
 ·intro i hi ih z h1 h2
  by_cases c:(0:Int)≤z
  ·obtain⟨x,hx,hm,hr⟩:=h.get hi
   obtain⟨t1,t2,m,rfl,w0,w1,w2⟩:=rs95 hr
   obtain⟨a,a1,a2,a3,a4⟩:=room26 t1 z h1 h2
   obtain⟨b,b1,b2,b3,b4⟩:=room26 t2 a (by omega) a3
   obtain⟨y,y1,y2,y3,y4⟩:=hin t1 t2 m hm b (by omega) b3
   obtain⟨r,r1,r2,r3,r4⟩:=ih y y2 y3
   refine⟨r,r1,r2,fun hr0=>?_,fun R hR=>.succ ?_⟩
   ·obtain⟨r5,r6⟩:=r3 hr0
    obtain⟨y5,y6⟩:=y4 (by omega)
    have:=b4 (by omega)
    have:=a4 (by omega)
    refine⟨by omega,fun j s1 s2 m' hj hx'=>?_⟩
    by_cases e:j=i
    ·subst e
     rw[hx]at hx'
     cases hx'
     exact y6.mono (by omega)
    ·exact (r6 j s1 s2 m' (by omega) hx').mono (by omega)
   ·simp only[L29_6,lenF,if_pos (ilt hi),if_pos c]
    refine .succ ?_
    simp only[L29_7,if_true,getF_nat hx,ds_t95]
    refine Ev.bO1 a1 (Ev.bO1 b1 (Ev.bO1 y1 ?_))
    simp only[letF,wrap_succ hi h.1]
    exact r4 R hR
  ·refine⟨z,h1,h2,fun h=>absurd h c,fun R hR=>.succ ?_⟩
   simp only[L29_6,lenF,if_pos (ilt hi),if_neg c]
   exact .succ (by simp only[L29_7,Bool.false_eq_true,if_false,letF];exact hR)
theorem room_stW (l:List D):ListS tab 50 l→stW l:=by
 refine list_ind (P:=fun l=>ListS tab 50 l→stW l) (fun l ih h=>?_) l
 have loop:∀i:Nat,i≤l.length→∀z:Int,-6≤z→z≤20000→∃r,Ev (fun n=>L29_1 n l (i:Int) z) r∧ -6≤r∧r≤20000∧(0≤r→r≤z∧∀j x,i≤j→l[j]?=some x→∃d:Nat,5*(d:Int)≤z - r∧(Ev (fun n=>ds_t50 x (F88 n)) (d:Int)∧(Dr 0 d fun e n=>ds_t50 x fun z1 s2 s3 l4 z5 s6 l7 z8 s9 l10 l11 l12 l13 l14 z15=>F77 n z1 s2 s3 l4 z5 s6 l7 z8 s9 l10 l11 l12 l13 l14 z15 e)∧1≤d)):=by
  refine down l.length ?_ ?_
  ·intro z h1 h2
   refine⟨z,.succ ?_,h1,h2,fun _=>⟨by omega,fun j x hj hx=>absurd (List.getElem?_eq_some_iff.1 hx).1 (by omega)⟩⟩
   simp only[L29_1,lenF,Int.lt_irrefl,if_false]
   exact .succ (by simp only[L29_2,Bool.false_eq_true,if_false];exact .ret)
  ·intro i hi ihl z h1 h2
   by_cases c:(0:Int)≤z
   ·obtain⟨x,hx,hm,hr⟩:=h.get hi
    obtain⟨a0,a1,a2,a3,a4,a5,a6,a7,a8,a9,a10,a11,a12,a13,a14,rfl,w0,w1,w2,w3,w4,w5,w6,w7,w8,w9,w10,w11,w12,w13,w14⟩:=rs50 hr
    obtain⟨p1,p2,p3,p4,p5⟩:=room26 a1 z h1 h2
    obtain⟨q1,q2,q3,q4,q5⟩:=room26 a2 p1 (by omega) p4
    obtain⟨t1,t2,t3,t4,t5⟩:=room66 w3 q1 (by omega) q4
    obtain⟨m,m1,m2⟩:=ty_dp a6 w6
    obtain⟨u1,u2,u3,u4,u5⟩:=m2 a4 a5 t1 t3 t4
    obtain⟨v1,v2,v3,v4,v5⟩:=room67 w9 a8 u1 u3 u4
    obtain⟨e1,e2,e3,e4,e5⟩:=room_ex w10 l (i:Int) a11 a12 a13 0 (Nat.zero_le _) v1 v3 v4
    have pre:∀R,Ev (fun n=>if e1<(0:Int)then L29_5 n l (i:Int) a11 a12 a13 e1 true else L29_5 n l (i:Int) a11 a12 a13 e1 false) R→Ev (fun n=>L29_1 n l (i:Int) z) R:=by
     intro R hR
     refine .succ ?_
     simp only[L29_1,lenF,if_pos (ilt hi),if_pos c]
     refine .succ ?_
     simp only[L29_2,if_true,getF_nat hx,ds_t50]
     exact Ev.bO1 p2 (Ev.bO1 q2 (Ev.bO1 t2 (Ev.bO1 u2 (Ev.bO1 v2 (e5 R hR)))))
    by_cases ce:e1<0
    ·refine⟨e1,pre _ ?_,e2,e3,fun h=>absurd h (by omega)⟩
     simp only[if_pos ce]
     exact .succ (by simp only[L29_5,if_true];exact .ret)
    ·have s11:=ih a11 (size_row (ag:=true) (sz:=15) hm (by simp)) w11
     have s12:=ih a12 (size_row (ag:=true) (sz:=15) hm (by simp)) w12
     have s13:∀(s1 s2:ByteArray) (m:List D),.agg [.str s1,.str s2,.list true 15 m]∈a13→stW m:=fun s1 s2 m hm2=>ih m (Nat.lt_trans (size_row (ag:=true) (sz:=15) hm2 (by simp)) (size_row (ag:=true) (sz:=3) hm (by simp))) (by obtain⟨b0,b1,b2,e,_,_,w⟩:=rs95 (w13.2 _ hm2);cases e;exact w)
     obtain⟨f1,f2,f3,f4,f5⟩:=s11 e1 e2 e3
     obtain⟨g1,g2,g3,g4,g5⟩:=s12 f1 f3 f4
     obtain⟨k1,k2,k3,k4,k5⟩:=room_armW w13 s13 l (i:Int) 0 (Nat.zero_le _) g1 g3 g4
     obtain⟨r,r1,r2,r3,r4⟩:=ihl k1 k2 k3
     refine⟨r,pre _ ?_,r2,r3,fun hr0=>?_⟩
     ·simp only[if_neg ce]
      refine .succ ?_
      simp only[L29_5,Bool.false_eq_true,if_false]
      refine Ev.bO1 f2 (Ev.bO1 g2 (k5 _ ?_))
      rw[wrap_succ hi h.1]
      exact r1
     ·obtain⟨x1,x2⟩:=r4 hr0
      obtain⟨x3,x4⟩:=k4 (by omega)
      obtain⟨x5,x6⟩:=g5 (by omega)
      obtain⟨x7,x8⟩:=f5 (by omega)
      obtain⟨x9,x10⟩:=e4 (by omega)
      have y1:=v5 (by omega)
      have y2:=u5 (by omega)
      have y3:=t5 (by omega)
      have y4:=q5 (by omega)
      have y5:=p5 (by omega)
      refine⟨by omega,fun j x hj hx'=>?_⟩
      by_cases e:j=i
      ·subst e
       rw[hx]at hx'
       cases hx'
       have eX:eR (z - r - 5) a10:=fun x hx=>by
        obtain⟨j,hj⟩:=List.getElem?_of_mem hx
        obtain⟨d,d1,d2⟩:=x10 j x (Nat.zero_le _) hj
        exact⟨d,by omega,d2⟩
       obtain⟨d,d1,d2⟩:=w_stmt (z1:=a0) (z8:=a7) (z15:=a14) (c:=z - r - 5) (by omega) (by omega) w1 w2 w3 w5 w6 w8 w9 ⟨m+1,by omega,m1 (by omega) _ _⟩ w10 (eW.of w10 eX) w11 (x8.mono (by omega)) w12 (x6.mono (by omega)) w13
        (fun s1 s2 m hm2=>by
         obtain⟨j,hj⟩:=List.getElem?_of_mem hm2
         exact (x4 j s1 s2 m (Nat.zero_le _) hj).mono (by omega))
       exact⟨d,by omega,d2⟩
      ·obtain⟨d,d1,d2⟩:=x2 j x (by omega) hx'
       exact⟨d,by omega,d2⟩
   ·refine⟨z,.succ ?_,h1,h2,fun h=>absurd h c⟩
    simp only[L29_1,lenF,if_pos (ilt hi),if_neg c]
    exact .succ (by simp only[L29_2,Bool.false_eq_true,if_false];exact .ret)
 intro z h1 h2
 obtain⟨r,r1,r2,r3,r4⟩:=loop 0 (Nat.zero_le _) z h1 h2
 refine⟨r,.succ (by simp only[F29];exact r1),r2,r3,fun hr=>⟨(r4 hr).1,fun x hx=>?_⟩⟩
 obtain⟨j,hj⟩:=List.getElem?_of_mem hx
 exact (r4 hr).2 j x (Nat.zero_le _) hj
end Go.Proofs.YtjmofeakajdbiaaGreatDoor
end
set_option linter.unusedVariables false
noncomputable section
namespace Go.Proofs.YtjmofeakajdbiaaGreatDoor
open Go Go.AM
open Classical in
def val {α:Type} [Inhabited α] (A:Nat→Option α):α:=if h:Total A then h.choose else default
theorem val_ev {α:Type} [Inhabited α] {A:Nat→Option α}(h:Total A):Ev A (val A):=by
 unfold val
 rw[dif_pos h]
 exact h.choose_spec
abbrev W (z:Int):Int:=IntKind.wrap .i64 z
theorem W_add (a b:Int):W (W a+b)=W (a+b):=by simp only[W,IntKind.wrap_i64];omega
theorem W_W (a:Int):W (W a)=W a:=by simp only[W,IntKind.wrap_i64];omega
theorem t_F44 (l:List D):ListS tab 39 l→∀(z1 z2:Int) (s3 s4 s5:ByteArray) (l6:List D) (z8:Int),Total fun n=>F44 n z1 z2 s3 s4 s5 l6 l z8:=by
 refine list_ind (P:=fun l=>ListS tab 39 l→∀(z1 z2:Int) (s3 s4 s5:ByteArray) (l6:List D) (z8:Int),Total fun n=>F44 n z1 z2 s3 s4 s5 l6 l z8) (fun l ih h=>?_) l
 have loop:∀i:Nat,i≤l.length→∀z:Int,Total fun n=>L44_1 n l (l.length:Int) z (i:Int):=by
  refine down l.length ?_ ?_
  ·intro z
   exact tu (by simp only[L44_1,Int.lt_irrefl,if_false];exact tu (by simp only[L44_2,Bool.false_eq_true,if_false];exact tr))
  ·intro i hi ihl z
   obtain⟨x,hx,hm,hr⟩:=h.get hi
   obtain⟨a0,a1,a2,a3,a4,a5,a6,a7,rfl,w0,w1,w2,w3,w4,w5,w6,w7⟩:=rs39 hr
   refine tu ?_
   simp only[L44_1,if_pos (ilt hi)]
   refine tu ?_
   simp only[L44_2,if_true,getF_nat hx,ds_t39,letF,wrap_succ hi h.1]
   exact t1 (ih a6 (size_row (ag:=true) (sz:=8) hm (by simp)) w6 _ _ _ _ _ _ _) fun _=>ihl _
 intros
 exact tu (by simp only[F44,lenF];exact loop 0 (Nat.zero_le _) _)
theorem t_bO16 {X0 X1 X2 X3 X4 X5 X6 X7 X8 X9 X10 X11 X12 X13 X14 X15 γ:Type}{A:Nat→Option (X0×X1×X2×X3×X4×X5×X6×X7×X8×X9×X10×X11×X12×X13×X14×X15)}{k:Nat→X0→X1→X2→X3→X4→X5→X6→X7→X8→X9→X10→X11→X12→X13→X14→X15→Option γ}(ha:Total A) (hk:∀a0 a1 a2 a3 a4 a5 a6 a7 a8 a9 a10 a11 a12 a13 a14 a15,Total fun n=>k n a0 a1 a2 a3 a4 a5 a6 a7 a8 a9 a10 a11 a12 a13 a14 a15):Total fun n=>bO16 (A n) (k n):=by
 obtain⟨⟨a0,a1,a2,a3,a4,a5,a6,a7,a8,a9,a10,a11,a12,a13,a14,a15⟩,ha⟩:=ha
 obtain⟨r,h⟩:=hk a0 a1 a2 a3 a4 a5 a6 a7 a8 a9 a10 a11 a12 a13 a14 a15
 exact⟨r,.bO16 ha h⟩
def sT (m:List D):Prop:=∀x∈m,Total fun n=>ds_t50 x (F45 n)
section
variable {z1:Int}{s2 s3:ByteArray}{l4:List D}{z5:Int}{s6:ByteArray}{l7:List D}{z8:Int}{s9:ByteArray}{l10 l11 l12 l13 l14:List D}{z15:Int}
theorem s_one {x:D}(hx:RowS tab 50 x) (h:Total fun n=>ds_t50 x (F45 n)) (a:Int):Total fun n=>ds_t50 x fun z1 s2 s3 l4 z5 s6 l7 z8 s9 l10 l11 l12 l13 l14 z15=>F45r0 n z1 s2 s3 l4 z5 s6 l7 z8 s9 l10 l11 l12 l13 l14 z15 a:=by
 obtain⟨a0,a1,a2,a3,a4,a5,a6,a7,a8,a9,a10,a11,a12,a13,a14,rfl,_⟩:=rs50 hx
 show Total fun n=>F45r0 n a0 a1 a2 a3 a4 a5 a6 a7 a8 a9 a10 a11 a12 a13 a14 a
 refine tu ?_
 simp only[F45r0]
 exact t1 h fun _=>tr
theorem s_body {l:List D}(hl:ListS tab 50 l) (hd:sT l) (z17:Int) (hk:∀a:Int,Total fun n=>L138x1_1 n z1 s2 s3 l4 z5 s6 l7 z8 s9 l10 l11 l12 l13 l14 z15 (IntKind.wrap .i64 (z17+1)) a):∀i:Nat,i≤l.length→∀a:Int,Total fun n=>L138x1_3 n z1 s2 s3 l4 z5 s6 l7 z8 s9 l10 l11 l12 l13 l14 z15 z17 l (l.length:Int) (i:Int) a:=by
 refine down l.length ?_ ?_
 ·intro a
  exact tu (by simp only[L138x1_3,Int.lt_irrefl,if_false];exact tu (by simp only[L138x1_4,Bool.false_eq_true,if_false,letF];exact hk a))
 ·intro i hi ih a
  obtain⟨x,hx,hm,hr⟩:=hl.get hi
  have h3:=s_one hr (hd x hm) a
  obtain⟨b0,b1,b2,b3,b4,b5,b6,b7,b8,b9,b10,b11,b12,b13,b14,rfl,_⟩:=rs50 hr
  refine tu ?_
  simp only[L138x1_3,if_pos (ilt hi)]
  refine tu ?_
  simp only[L138x1_4,if_true,getF_nat hx,ds_t50,letF,wrap_succ hi hl.1]
  exact t1 h3 fun _=>ih _
theorem s_abody {l:List D}{z45 z46:Int}(hl:ListS tab 50 l) (hd:sT l) (hk:∀a:Int,Total fun n=>L138x1_5 n z1 s2 s3 l4 z5 s6 l7 z8 s9 l10 l11 l12 l13 l14 z15 z45 (IntKind.wrap .i64 (z46+1)) a):∀i:Nat,i≤l.length→∀a:Int,Total fun n=>L138x1_7 n z1 s2 s3 l4 z5 s6 l7 z8 s9 l10 l11 l12 l13 l14 z15 z45 z46 l (l.length:Int) (i:Int) a:=by
 refine down l.length ?_ ?_
 ·intro a
  exact tu (by simp only[L138x1_7,Int.lt_irrefl,if_false];exact tu (by simp only[L138x1_8,Bool.false_eq_true,if_false,letF];exact hk a))
 ·intro i hi ih a
  obtain⟨x,hx,hm,hr⟩:=hl.get hi
  have h3:=s_one hr (hd x hm) a
  obtain⟨b0,b1,b2,b3,b4,b5,b6,b7,b8,b9,b10,b11,b12,b13,b14,rfl,_⟩:=rs50 hr
  refine tu ?_
  simp only[L138x1_7,if_pos (ilt hi)]
  refine tu ?_
  simp only[L138x1_8,if_true,getF_nat hx,ds_t50,letF,wrap_succ hi hl.1]
  exact t1 h3 fun _=>ih _
theorem s_stmt (h11:ListS tab 39 l11) (h12:ListS tab 50 l12) (hd12:sT l12) (h13:ListS tab 50 l13) (hd13:sT l13)
  (h14:ListS tab 95 l14) (hd:∀(s1 s2:ByteArray) (m:List D),.agg [.str s1,.str s2,.list true 15 m]∈l14→sT m):Total fun n=>F45 n z1 s2 s3 l4 z5 s6 l7 z8 s9 l10 l11 l12 l13 l14 z15:=by
 have arms:∀i:Nat,i≤l14.length→∀a:Int,Total fun n=>L138x1_5 n z1 s2 s3 l4 z5 s6 l7 z8 s9 l10 l11 l12 l13 l14 z15 (l14.length:Int) (i:Int) a:=by
  refine down l14.length ?_ ?_
  ·intro a
   exact tu (by simp only[L138x1_5,Int.lt_irrefl,if_false];exact tu (by simp only[L138x1_6,Bool.false_eq_true,if_false];exact tr))
  ·intro i hi ih a
   obtain⟨x,hx,hm,hr⟩:=h14.get hi
   obtain⟨t1,t2,m,rfl,_,_,w2⟩:=rs95 hr
   refine tu ?_
   simp only[L138x1_5,if_pos (ilt hi)]
   refine tu ?_
   simp only[L138x1_6,if_true,getF_nat hx,ds_t95,lenF]
   exact s_abody (z1:=z1) (s2:=s2) (s3:=s3) (l4:=l4) (z5:=z5) (s6:=s6) (l7:=l7) (z8:=z8) (s9:=s9) (l10:=l10) (l11:=l11) (l12:=l12) (l13:=l13) (l14:=l14) (z15:=z15) w2 (hd _ _ _ hm) (by rw[wrap_succ hi h14.1];exact ih) 0 (Nat.zero_le _) a
 have g1:∀{γ:Type} (k:D→Option γ),getF [.list true 15 l12,.list true 15 l13] (1:Int) k=k (.list true 15 l13):=fun k=>getF_nat (i:=1) rfl
 have k2:∀a:Int,Total fun n=>L138x1_1 n z1 s2 s3 l4 z5 s6 l7 z8 s9 l10 l11 l12 l13 l14 z15 (2:Int) a:=by
  intro a
  refine tu ?_
  simp only[L138x1_1,Int.lt_irrefl,if_false]
  exact tu (by simp only[L138x1_2,Bool.false_eq_true,if_false,lenF];exact arms 0 (Nat.zero_le _) a)
 have k1:∀a:Int,Total fun n=>L138x1_1 n z1 s2 s3 l4 z5 s6 l7 z8 s9 l10 l11 l12 l13 l14 z15 (1:Int) a:=by
  intro a
  refine tu ?_
  simp only[L138x1_1,show (1:Int)<2 by decide,if_true]
  refine tu ?_
  simp only[L138x1_2,if_true,g1,ds_listtrue15,lenF]
  exact s_body (z1:=z1) (s2:=s2) (s3:=s3) (l4:=l4) (z5:=z5) (s6:=s6) (l7:=l7) (z8:=z8) (s9:=s9) (l10:=l10) (l11:=l11) (l12:=l12) (l13:=l13) (l14:=l14) (z15:=z15) h13 hd13 1 (by rw[show IntKind.wrap .i64 ((1:Int)+1)=2 from rfl];exact k2) 0 (Nat.zero_le _) a
 have k0:∀a:Int,Total fun n=>F138x1 n a z1 s2 s3 l4 z5 s6 l7 z8 s9 l10 l11 l12 l13 l14 z15:=by
  intro a
  refine tu ?_
  simp only[F138x1]
  refine tu ?_
  simp only[L138x1_1,show (0:Int)<2 by decide,if_true]
  refine tu ?_
  simp only[L138x1_2,if_true,getF_zero,ds_listtrue15,lenF]
  exact s_body (z1:=z1) (s2:=s2) (s3:=s3) (l4:=l4) (z5:=z5) (s6:=s6) (l7:=l7) (z8:=z8) (s9:=s9) (l10:=l10) (l11:=l11) (l12:=l12) (l13:=l13) (l14:=l14) (z15:=z15) h12 hd12 0 (by rw[show IntKind.wrap .i64 ((0:Int)+1)=1 from rfl];exact k1) 0 (Nat.zero_le _) a
 have hex:∀i:Nat,i≤l11.length→∀a:Int,Total fun n=>L45_1 n z1 s2 s3 l4 z5 s6 l7 z8 s9 l10 l11 l12 l13 l14 z15 (l11.length:Int) (i:Int) a:=by
  refine down l11.length ?_ ?_
  ·intro a
   refine tu ?_
   simp only[L45_1,Int.lt_irrefl,if_false]
   refine tu ?_
   simp only[L45_2,Bool.false_eq_true,if_false]
   obtain⟨r,hr⟩:=t_bO16 (k:=fun n z47 z48 s49 s50 l51 z52 s53 l54 z55 s56 l57 l58 l59 l60 l61 z62=>some z47) (k0 a) (fun _ _ _ _ _ _ _ _ _ _ _ _ _ _ _ _=>tr)
   exact⟨r,Ev.bO15 (A:=fun n=>F89 n z1 s2 s3 l4 z5 s6 l7 z8 s9 l10 l11 l12 l13 l14 z15) (.of fun n=>rfl) hr⟩
  ·intro i hi ih a
   obtain⟨x,hx,hm,hr⟩:=h11.get hi
   obtain⟨a0,a1,a2,a3,a4,a5,a6,a7,rfl,w0,w1,w2,w3,w4,w5,w6,w7⟩:=rs39 hr
   refine tu ?_
   simp only[L45_1,if_pos (ilt hi)]
   refine tu ?_
   simp only[L45_2,if_true,getF_nat hx,ds_t39,letF,wrap_succ hi h11.1]
   exact t1 (t_F44 a6 w6 _ _ _ _ _ _ _) fun _=>ih _
 exact tu (by simp only[F45,lenF];exact hex 0 (Nat.zero_le _) _)
end
theorem s_all (l:List D):ListS tab 50 l→sT l:=by
 refine list_ind (P:=fun l=>ListS tab 50 l→sT l) (fun l ih h=>?_) l
 intro x hm
 obtain⟨a0,a1,a2,a3,a4,a5,a6,a7,a8,a9,a10,a11,a12,a13,a14,rfl,w0,w1,w2,w3,w4,w5,w6,w7,w8,w9,w10,w11,w12,w13,w14⟩:=rs50 (h.2 x hm)
 exact s_stmt (z1:=a0) (s2:=a1) (s3:=a2) (l4:=a3) (z5:=a4) (s6:=a5) (l7:=a6) (z8:=a7) (s9:=a8) (l10:=a9) (l11:=a10) (l12:=a11) (l13:=a12) (l14:=a13) (z15:=a14) w10 w11 (ih a11 (size_row (ag:=true) (sz:=15) hm (by simp)) w11) w12 (ih a12 (size_row (ag:=true) (sz:=15) hm (by simp)) w12) w13
  (fun s1 s2 m hm2=>ih m (Nat.lt_trans (size_row (ag:=true) (sz:=15) hm2 (by simp)) (size_row (ag:=true) (sz:=3) hm (by simp))) (by obtain⟨b0,b1,b2,e,_,_,w⟩:=rs95 (w13.2 _ hm2);cases e;exact w))
def sv (x:D):Int:=val fun n=>ds_t50 x (F45 n)
def sm (l:List D):Int:=(l.map sv).sum
theorem size_st {l13:List D}(h:ListS tab 50 l13) (l1:List D) (z2 z4:Int) {R:Int}:∀i:Nat,i≤l13.length→∀z:Int,W z=z→Ev (fun n=>L14_1 n l1 z2 (W (z+sm (l13.drop i))) (IntKind.wrap .i64 (z4+1))) R→Ev (fun n=>L14_5 n l1 z2 z4 l13 (l13.length:Int) z (i:Int)) R:=by
 refine down l13.length ?_ ?_
 ·intro z hz hR
  refine .succ ?_
  simp only[L14_5,Int.lt_irrefl,if_false]
  refine .succ ?_
  simp only[L14_6,Bool.false_eq_true,if_false,letF]
  rw[List.drop_length,show sm []=0 from rfl,Int.add_zero,hz]at hR
  exact hR
 ·intro i hi ih z hz hR
  obtain⟨x,hx,hm,hr⟩:=h.get hi
  have hv:Ev (fun n=>ds_t50 x (F45 n)) (sv x):=val_ev (s_all l13 h x hm)
  have hd:l13.drop i=x::l13.drop (i+1):=by rw[List.drop_eq_getElem_cons hi];congr 1;exact (List.getElem?_eq_some_iff.1 hx).2
  have hs:sm (l13.drop i)=sv x+sm (l13.drop (i+1)):=by rw[hd];rfl
  rw[hs]at hR
  have hih:=ih (W (z+sv x)) (W_W _) (by rw[W_add,Int.add_assoc];exact hR)
  refine .succ ?_
  simp only[L14_5,if_pos (ilt hi)]
  refine .succ ?_
  generalize hsv:sv x=v at hv hih
  obtain⟨b0,b1,b2,b3,b4,b5,b6,b7,b8,b9,b10,b11,b12,b13,b14,rfl,_⟩:=rs50 hr
  simp only[L14_6,if_true,getF_nat hx,ds_t50]
  refine Ev.bO1 hv ?_
  simp only[letF,wrap_succ hi h.1]
  exact hih
end Go.Proofs.YtjmofeakajdbiaaGreatDoor
end
set_option linter.unusedVariables false
noncomputable section
namespace Go.Proofs.YtjmofeakajdbiaaGreatDoor
open Go Go.AM
def L6_2:Nat->LD->LD->Int->Option (Bool)
 | 0,_,_,_=>none
 | n+1,l23,l42,z47=>
  bO1 (F14 n l42) fun z48=>bO1 (F14 n l23) fun z49=>letF (IntKind.wrap .i64 (z49+1)) fun z50=>(if z48=z50 then bO1 (F12 n l42) fun z51=>(if z51=z47 then bO1 (F10 n l42) fun b52=>bO1 (F10 n l23) fun b53=>(if b53=true then bO1 (F12 n l42) fun z54=>(if z54<=(40:Int)then letB (b52==true) fun b55=>some b55 else letB (b52==false) fun b56=>some b56)else letB (b52==false) fun b57=>some b57)else some false)else some false)
def L6_1:Nat->LD->LD->Int->Bool->Option (Bool)
 | 0,_,_,_,_=>none
 | n+1,l23,l42,z43,b45=>
  (if b45=true then letF (IntKind.wrap .i64 (z43+1)) fun z46=>L6_2 n l23 l42 z46 else L6_2 n l23 l42 z43)
def F6 (n:Nat) (l1:LD):Option (Bool):=
 bO1 (F17 n) fun b2=>letB (!b2) fun b3=>(if b3=true then some false else bO1 (F22 n) fun l4=>bO1 (F22 n) fun l5=>needF (0<=(0:Int)/\(0:Int).toNat<l4.length) (getN l4 ((0:Int).toNat) fun x6=>ds_t45 x6 fun z7 s8 l9 z10 s11 l12 l13 z14 z15 s16 s17 s18 l19 l20 z21 z22=>setF l4 ((0:Int).toNat) (.agg [.int .u8 z7,.str s8,.list true 4 l9,.int .u8 z10,.str s11,.list true 3 l12,.list true 15 l1,.int .u8 z14,.int .i64 z15,.str s16,.str s17,.str s18,.list false 1 l19,.list true 8 l20,.int .i64 z21,.int .i64 z22]) fun l23=>bO1 (F8 n l23) fun b24=>(if b24=true then some true else needF (0<=(0:Int)/\(0:Int).toNat<l5.length) (getN l5 ((0:Int).toNat) fun x25=>ds_t45 x25 fun z26 s27 l28 z29 s30 l31 l32 z33 z34 s35 s36 s37 l38 l39 z40 z41=>setF l5 ((0:Int).toNat) (.agg [.int .u8 z26,.str s27,.list true 4 l28,.int .u8 z29,.str s30,.list true 3 l31,.list true 15 ([.agg [.int .u8 13,.str ByteArray.empty,.str ByteArray.empty,.list false 1 [],.int .u8 0,.str ByteArray.empty,.list true 3 [],.int .i64 0,.str ByteArray.empty,.list false 1 [],.list true 8 [],.list true 15 l1,.list true 15 [],.list true 3 [],.int .i64 0]]),.int .u8 z33,.int .i64 z34,.str s35,.str s36,.str s37,.list false 1 l38,.list true 8 l39,.int .i64 z40,.int .i64 z41]) fun l42=>bO1 (F12 n l23) fun z43=>lenF l1 fun z44=>(if (0:Int)<z44 then L6_1 n l23 l42 z43 true else L6_1 n l23 l42 z43 false)))))
theorem T6 (n:Nat):∀⦃l1 r1⦄,F6 n l1=some r1->
    Trip Tryz.prog inv 6 [.d (.list true 15 l1)] [] (.v (.d (.bool r1))) [] []:=by
 intro l1 r1 h
 unfold F6 at h
 refine Trip.of tab_ok tab_one fol Tryz.func6 rfl (by kernel_rfl) rfl rfl rfl (fun M hM hI=>?_)
 try cbv
 refine seq_go ?_
 try cbv
 refine seq_go ?_
 try cbv
 refine seq_go ?_
 try cbv
 replace h:=bO1_inv h
 obtain⟨b2,hr,h⟩:=h
 refine call_go rfl rfl ?_
 try cbv
 refine call_pure hM hI (T17 _ hr) rfl ?_
 clear hr
 try cbv
 replace h:=letB_inv h
 obtain⟨b3,hz,h⟩:=h
 refine⟨b3,not_eq' hz,?_⟩
 clear hz
 try cbv
 cases b3
 rotate_left
 ·replace h:=itT h
  try cbv
  refine seq_go ?_
  try cbv
  obtain rfl:=Option.some.inj h
  refine fin_go ?_
  try cbv
  exact⟨[],by trivial⟩
 replace h:=itF h
 try cbv
 refine seq_go ?_
 try cbv
 replace h:=bO1_inv h
 obtain⟨l4,hr,h⟩:=h
 refine call_go rfl rfl ?_
 try cbv
 refine call_with hM hI [] (T22 _ hr) rfl (by simp) trivial trivial (by simp) ?_
 clear hr
 try cbv
 replace h:=bO1_inv h
 obtain⟨l5,hr,h⟩:=h
 refine call_go rfl rfl ?_
 try cbv
 refine call_with hM hI [] (T22 _ hr) rfl (by simp) trivial trivial (by simp) ?_
 clear hr
 try cbv
 refine seq_go ?_
 try cbv
 replace h:=needF_inv h
 obtain⟨hn,h⟩:=h
 refine⟨(M.lock_iff _).2 hn,?_⟩
 clear hn
 try cbv
 refine op_gs [.flatten (.loc 96)] ?_
 try cbv
 first | refine⟨(rfl:(_:Nat)=_),?_⟩ | refine⟨True.intro,?_⟩ | skip
 try cbv
 replace h:=getN_inv h
 obtain⟨x6,hx,h⟩:=h
 replace h:=ds_t45_inv h
 obtain⟨z7,s8,l9,z10,s11,l12,l13,z14,z15,s16,s17,s18,l19,l20,z21,z22,rfl,h⟩:=h
 refine⟨_,hx,?_⟩
 clear hx
 try cbv
 replace h:=setF_inv h
 obtain⟨l23,hz,h⟩:=h
 refine⟨l23,hz,?_⟩
 clear hz
 try cbv
 refine seq_go ?_
 try cbv
 refine seq_go ?_
 try cbv
 replace h:=bO1_inv h
 obtain⟨b24,hr,h⟩:=h
 refine call_gs [.freeze (.loc 96)] rfl rfl ?_
 try cbv
 first | refine⟨(rfl:(_:Nat)=_),?_⟩ | refine⟨True.intro,?_⟩ | skip
 refine callfv_with hM hI [] rfl rfl (T8 _ hr) rfl (by simp) trivial trivial (by simp) ?_
 clear hr
 try cbv
 cases b24
 rotate_left
 ·replace h:=itT h
  try cbv
  refine seq_go ?_
  try cbv
  obtain rfl:=Option.some.inj h
  refine fin_go ?_
  try cbv
  exact⟨[],by trivial⟩
 replace h:=itF h
 try cbv
 refine seq_go ?_
 try cbv
 refine⟨false,?_⟩
 try cbv
 refine⟨true,?_⟩
 try cbv
 replace h:=needF_inv h
 obtain⟨hn,h⟩:=h
 refine⟨(M.lock_iff _).2 hn,?_⟩
 clear hn
 try cbv
 refine op_gs [.flatten (.loc 128)] ?_
 try cbv
 first | refine⟨(rfl:(_:Nat)=_),?_⟩ | refine⟨True.intro,?_⟩ | skip
 try cbv
 replace h:=getN_inv h
 obtain⟨x25,hx,h⟩:=h
 replace h:=ds_t45_inv h
 obtain⟨z26,s27,l28,z29,s30,l31,l32,z33,z34,s35,s36,s37,l38,l39,z40,z41,rfl,h⟩:=h
 refine⟨_,hx,?_⟩
 clear hx
 try cbv
 replace h:=setF_inv h
 obtain⟨l42,hz,h⟩:=h
 refine⟨l42,hz,?_⟩
 clear hz
 try cbv
 refine seq_go ?_
 try cbv
 replace h:=bO1_inv h
 obtain⟨z43,hr,h⟩:=h
 refine call_go rfl rfl ?_
 try cbv
 refine call_pure hM hI (T12 _ hr) rfl ?_
 clear hr
 try cbv
 refine seq_join (T:=Nat×Int) (fun t=>⟨[sB 2 false,sL 3 160,sL 4 192,sI 5 t.2],[(.loc 160,.cells [.d (.list true 16 l23)]),(.loc 192,.cells [.d (.list true 16 l42)])],1088⟩) (fun t=>t.1<=n/\L6_2 t.1 l23 l42 t.2=some r1) ?_ ?_
 ·try cbv
  refine seq_join (T:=Nat×Bool) (fun t=>⟨[sB 2 false,sL 3 160,sL 4 192,sI 5 z43,sB 28 t.2],[(.loc 160,.cells [.d (.list true 16 l23)]),(.loc 192,.cells [.d (.list true 16 l42)])],992⟩) (fun t=>t.1<=n/\L6_1 t.1 l23 l42 z43 t.2=some r1) ?_ ?_
  ·try cbv
   replace h:=lenF_inv M h
   obtain⟨z44,hz,h⟩:=h
   refine⟨z44,hz,?_⟩
   clear hz
   try cbv
   refine splitL (fun e=>?_) (fun e=>?_)
   ·replace h:=ite_t e h
    clear e
    try cbv
    refine join_nextG (n,true) [.freeze (.loc 128)] [] [2,3,4,5,28] [.loc 160,.loc 192] 992 ⟨by omega,h⟩ ?_
    try cbv
    first | done | exact rfl | cbv
   replace h:=ite_f (Int.not_lt.2 e) h
   clear e
   try cbv
   refine join_nextG (n,false) [.freeze (.loc 128)] [] [2,3,4,5,28] [.loc 160,.loc 192] 992 ⟨by omega,h⟩ ?_
   try cbv
   first | done | exact rfl | cbv
  clear h
  rintro⟨m1,b45⟩ ⟨hm1,h⟩
  replace hm1:m1<=n:=hm1
  obtain _ | m1:=m1
  ·replace h:L6_1 0 l23 l42 z43 b45=some r1:=h
   rw[L6_1]at h
   cases h
  replace h:L6_1 (m1+1) l23 l42 z43 b45=some r1:=h
  rw[L6_1]at h
  try cbv
  cases b45
  ·replace h:=itF h
   try cbv
   exact join_next (m1,z43) [2,3,4,5] [.loc 160,.loc 192] 1088 ⟨by omega,h⟩ (by cbv)
  replace h:=itT h
  try cbv
  replace h:=letF_inv h
  obtain⟨z46,hz,h⟩:=h
  refine⟨z46,hz,?_⟩
  clear hz
  try cbv
  exact join_next (m1,z46) [2,3,4,5] [.loc 160,.loc 192] 1088 ⟨by omega,h⟩ (by cbv)
 clear h
 rintro⟨m2,z47⟩ ⟨hm2,h⟩
 replace hm2:m2<=n:=hm2
 obtain _ | m2:=m2
 ·replace h:L6_2 0 l23 l42 z47=some r1:=h
  rw[L6_2]at h
  cases h
 replace h:L6_2 (m2+1) l23 l42 z47=some r1:=h
 rw[L6_2]at h
 try cbv
 refine seq_go ?_
 try cbv
 replace h:=bO1_inv h
 obtain⟨z48,hr,h⟩:=h
 first | refine .inr (.inl ⟨[],?_⟩) | refine .inl ⟨[],?_⟩
 try cbv
 refine call_pure hM hI (T14 _ hr) rfl ?_
 clear hr
 try cbv
 replace h:=bO1_inv h
 obtain⟨z49,hr,h⟩:=h
 first | refine .inr (.inl ⟨[],?_⟩) | refine .inl ⟨[],?_⟩
 try cbv
 refine call_pure hM hI (T14 _ hr) rfl ?_
 clear hr
 try cbv
 replace h:=letF_inv h
 obtain⟨z50,hz,h⟩:=h
 refine⟨z50,hz,?_⟩
 clear hz
 try cbv
 refine splitI (fun e=>?_) (fun e=>?_)
 rotate_left
 ·replace h:=ite_f e h
  clear e
  try cbv
  refine drawn ?_ ?_
  ·show _=true
   kernel_rfl
  try cbv
  obtain rfl:=Option.some.inj h
  refine fin_go ?_
  try cbv
  exact⟨[],by trivial⟩
 replace h:=ite_t e h
 clear e
 try cbv
 replace h:=bO1_inv h
 obtain⟨z51,hr,h⟩:=h
 first | refine .inr (.inl ⟨[],?_⟩) | refine .inl ⟨[],?_⟩
 try cbv
 refine call_pure hM hI (T12 _ hr) rfl ?_
 clear hr
 try cbv
 refine splitI (fun e=>?_) (fun e=>?_)
 rotate_left
 ·replace h:=ite_f e h
  clear e
  try cbv
  refine drawn ?_ ?_
  ·show _=true
   kernel_rfl
  try cbv
  obtain rfl:=Option.some.inj h
  refine fin_go ?_
  try cbv
  exact⟨[],by trivial⟩
 replace h:=ite_t e h
 clear e
 try cbv
 replace h:=bO1_inv h
 obtain⟨b52,hr,h⟩:=h
 first | refine .inr (.inl ⟨[],?_⟩) | refine .inl ⟨[],?_⟩
 try cbv
 refine call_pure hM hI (T10 _ hr) rfl ?_
 clear hr
 try cbv
 replace h:=bO1_inv h
 obtain⟨b53,hr,h⟩:=h
 first | refine .inr (.inl ⟨[],?_⟩) | refine .inl ⟨[],?_⟩
 try cbv
 refine call_pure hM hI (T10 _ hr) rfl ?_
 clear hr
 try cbv
 cases b53
 ·replace h:=itF h
  try cbv
  replace h:=letB_inv h
  obtain⟨b57,hz,h⟩:=h
  refine⟨b57,eqv_eq hz,?_⟩
  clear hz
  try cbv
  refine drawn ?_ ?_
  ·show _=true
   kernel_rfl
  try cbv
  obtain rfl:=Option.some.inj h
  refine fin_go ?_
  try cbv
  exact⟨[],by trivial⟩
 replace h:=itT h
 try cbv
 replace h:=bO1_inv h
 obtain⟨z54,hr,h⟩:=h
 first | refine .inr (.inl ⟨[],?_⟩) | refine .inl ⟨[],?_⟩
 try cbv
 refine call_pure hM hI (T12 _ hr) rfl ?_
 clear hr
 try cbv
 refine splitLe (fun e=>?_) (fun e=>?_)
 ·replace h:=ite_t e h
  clear e
  try cbv
  replace h:=letB_inv h
  obtain⟨b55,hz,h⟩:=h
  refine⟨b55,eqv_eq hz,?_⟩
  clear hz
  try cbv
  refine drawn ?_ ?_
  ·show _=true
   kernel_rfl
  try cbv
  obtain rfl:=Option.some.inj h
  refine fin_go ?_
  try cbv
  exact⟨[],by trivial⟩
 replace h:=ite_f (Int.not_le.2 e) h
 clear e
 try cbv
 replace h:=letB_inv h
 obtain⟨b56,hz,h⟩:=h
 refine⟨b56,eqv_eq hz,?_⟩
 clear hz
 try cbv
 refine drawn ?_ ?_
 ·show _=true
  kernel_rfl
 try cbv
 obtain rfl:=Option.some.inj h
 refine fin_go ?_
 try cbv
 exact⟨[],by trivial⟩
end Go.Proofs.YtjmofeakajdbiaaGreatDoor
end
set_option linter.unusedVariables false
noncomputable section
namespace Go.Proofs.YtjmofeakajdbiaaGreatDoor
open Go Go.AM
section
variable {z1:Int}{s2 s3:ByteArray}{l4:List D}{z5:Int}{s6:ByteArray}{l7:List D}{z8:Int}{s9:ByteArray}{l10 l11 l12 l13 l14:List D}{z15:Int}
theorem nn0:((0:Int)<(([]:List D).length:Int))=False:=by simp
theorem n11 (x:D):((1:Int)<(([x]:List D).length:Int))=False:=by simp
theorem p130 (x:D):(((([x]:List D).length:Nat):Int)≤30)=True:=by simp
theorem p11 (x:D):(((([x]:List D).length:Nat):Int)≤1)=True:=by simp
theorem z00:(([]:List D).length:Int)=0:=rfl
theorem sv_body {l:List D}(hl:ListS tab 50 l) (z17:Int) {R:Int×Int×ByteArray×ByteArray×List D×Int×ByteArray×List D×Int×ByteArray×List D×List D×List D×List D×List D×Int}:∀i:Nat,i≤l.length→∀a:Int,W a=a→Ev (fun n=>L138x1_1 n z1 s2 s3 l4 z5 s6 l7 z8 s9 l10 l11 l12 l13 l14 z15 (IntKind.wrap .i64 (z17+1)) (W (a+sm (l.drop i)))) R→Ev (fun n=>L138x1_3 n z1 s2 s3 l4 z5 s6 l7 z8 s9 l10 l11 l12 l13 l14 z15 z17 l (l.length:Int) (i:Int) a) R:=by
 refine down l.length ?_ ?_
 ·intro a ha hR
  refine .succ ?_
  simp only[L138x1_3,Int.lt_irrefl,if_false]
  refine .succ ?_
  simp only[L138x1_4,Bool.false_eq_true,if_false,letF]
  rw[List.drop_length,show sm []=0 from rfl,Int.add_zero,ha]at hR
  exact hR
 ·intro i hi ih a ha hR
  obtain⟨x,hx,hm,hr⟩:=hl.get hi
  have hv:Ev (fun n=>ds_t50 x (F45 n)) (sv x):=val_ev (s_all l hl x hm)
  have hd:l.drop i=x::l.drop (i+1):=by rw[List.drop_eq_getElem_cons hi];congr 1;exact (List.getElem?_eq_some_iff.1 hx).2
  have hs:sm (l.drop i)=sv x+sm (l.drop (i+1)):=by rw[hd];rfl
  rw[hs]at hR
  have hih:=ih (W (a+sv x)) (W_W _) (by rw[W_add,Int.add_assoc];exact hR)
  refine .succ ?_
  simp only[L138x1_3,if_pos (ilt hi)]
  refine .succ ?_
  generalize hsv:sv x=v at hv hih
  obtain⟨b0,b1,b2,b3,b4,b5,b6,b7,b8,b9,b10,b11,b12,b13,b14,rfl,_⟩:=rs50 hr
  simp only[L138x1_4,if_true,getF_nat hx,ds_t50]
  refine Ev.bO1 (a:=W (a+v)) (.succ ?_) ?_
  ·simp only[F45r0]
   refine Ev.bO1 hv ?_
   simp only[letF]
   exact .ret
  ·simp only[letF,wrap_succ hi hl.1]
   exact hih
end
theorem blk45 {l:List D}(h:ListS tab 50 l):Ev (fun n=>F45 n 13 ByteArray.empty ByteArray.empty [] 0 ByteArray.empty [] 0 ByteArray.empty [] [] l [] [] 0) (W (1+sm l)):=by
 have h138:Ev (fun n=>F138x1 n 1 13 ByteArray.empty ByteArray.empty [] 0 ByteArray.empty [] 0 ByteArray.empty [] [] l [] [] 0) (W (1+sm l),13,ByteArray.empty,ByteArray.empty,[],0,ByteArray.empty,[],0,ByteArray.empty,[],[],l,[],[],0):=by
  refine .succ ?_
  simp only[F138x1]
  refine .succ ?_
  simp only[L138x1_1,show (0:Int)<2 by decide,if_true]
  refine .succ ?_
  simp only[L138x1_2,if_true,getF_zero,ds_listtrue15,lenF]
  refine sv_body h 0 0 (Nat.zero_le _) 1 rfl ?_
  rw[show IntKind.wrap .i64 ((0:Int)+1)=1 from rfl,List.drop_zero]
  refine .succ ?_
  simp only[L138x1_1,show (1:Int)<2 by decide,if_true]
  refine .succ ?_
  have g1:∀{γ:Type} (k:D→Option γ),getF [.list true 15 l,.list true 15 []] (1:Int) k=k (.list true 15 []):=fun k=>getF_nat (i:=1) rfl
  simp only[L138x1_2,if_true,g1,ds_listtrue15,lenF]
  refine sv_body (l:=[]) ⟨by simp[maxLen],fun x hx=>by cases hx⟩ 1 0 (Nat.zero_le _) (W (1+sm l)) (W_W _) ?_
  rw[show IntKind.wrap .i64 ((1:Int)+1)=2 from rfl,List.drop_zero,show sm []=0 from rfl,Int.add_zero,W_W]
  refine .succ ?_
  simp only[L138x1_1,Int.lt_irrefl,if_false]
  refine .succ ?_
  simp only[L138x1_2,Bool.false_eq_true,if_false,lenF]
  refine .succ ?_
  simp only[L138x1_5]
  simp only[nn0,if_false]
  refine .succ ?_
  simp only[L138x1_6,Bool.false_eq_true,if_false]
  exact .ret
 refine .succ ?_
 simp only[F45,lenF]
 refine .succ ?_
 simp only[L45_1]
 simp only[nn0,if_false]
 refine .succ ?_
 simp only[L45_2,Bool.false_eq_true,if_false]
 refine Ev.bO15 (A:=fun n=>F89 n 13 ByteArray.empty ByteArray.empty [] 0 ByteArray.empty [] 0 ByteArray.empty [] [] l [] [] 0) (.of fun n=>rfl) ?_
 exact Ev.bO16 h138 .ret
def itm (l:List D):D:=.agg [.int .u8 3,.str k_main,.list true 4 [],.int .u8 1,.str ByteArray.empty,.list true 3 [],.list true 15 l,.int .u8 1,.int .i64 0,.str ByteArray.empty,.str ByteArray.empty,.str ByteArray.empty,.list false 1 [],.list true 8 [],.int .i64 0,.int .i64 0]
def blk (l:List D):D:=.agg [.int .u8 13,.str ByteArray.empty,.str ByteArray.empty,.list false 1 [],.int .u8 0,.str ByteArray.empty,.list true 3 [],.int .i64 0,.str ByteArray.empty,.list false 1 [],.list true 8 [],.list true 15 l,.list true 15 [],.list true 3 [],.int .i64 0]
theorem nilS {e:TypeId}:ListS tab e []:=⟨by simp[maxLen],fun x hx=>by cases hx⟩
theorem great_b {l:List D}(h:ListS tab 50 l):∃b,Ev (fun n=>F8 n [itm l]) b∧(b=false→dW 20000 l):=by
 have t_end:∀z:Int,Ev (fun n=>L8_2 n [itm l] 1 z false) (decide (z<0)):=by
  intro z
  refine .succ ?_
  simp only[L8_2,Bool.false_eq_true,if_false]
  by_cases c:z<0
  ·simp only[if_pos c,decide_eq_true c];exact .ret
  ·simp only[if_neg c,decide_eq_false c];exact .ret
 obtain⟨p1,p2,p3,p4,p5⟩:=room26 k_main 20000 (by omega) (by omega)
 have q2:Ev (fun n=>F27 n [] p1) p1:=evk fun m=>by kernel_rfl
 obtain⟨m,m1,m2⟩:=ty_dp [] nilS
 obtain⟨u1,u2,u3,u4,u5⟩:=m2 1 ByteArray.empty p1 (by omega) p4
 obtain⟨v1,v2,v3,v4,v5⟩:=room_stW l h u1 u3 u4
 obtain⟨k,k1,k2⟩:=ex_dp [] nilS
 obtain⟨y1,y2,y3,y4,y5⟩:=k2 1 0 ByteArray.empty ByteArray.empty ByteArray.empty [] 0 v1 nilS v3 v4
 refine⟨decide (y1<0),?_,fun hb=>?_⟩
 ·unfold F8
  refine .succ ?_
  have one:(([itm l]:List D).length:Int)=1:=rfl
  simp only[L8_1,lenF,one,show (0:Int)<1 by decide,show (0:Int)≤20000 by decide,if_true]
  refine .succ ?_
  simp only[L8_2,if_true,getF_zero,itm,ds_t45]
  refine Ev.bO1 p2 (Ev.bO1 q2 (Ev.bO1 u2 (Ev.bO1 v2 (Ev.bO1 y2 ?_))))
  simp only[letF,show IntKind.wrap .i64 ((0:Int)+1)=1 from rfl]
  refine .succ ?_
  simp only[L8_1,lenF]
  simp only[n11,if_false]
  exact t_end y1
 ·have hy:=of_decide_eq_false hb
  have h1:=y5 (by omega)
  obtain⟨h2,h3⟩:=v5 (by omega)
  have h4:=u5 (by omega)
  exact h3.mono (by omega)
structure Know (l:List D) (k:Nat) (b:Bool):Prop where
 le:k≤4000
 one:0<l.length→1≤k
 nil:l.length=0→k=0
 deep:∀a:Nat,a≤4000→Ev (fun n=>L39_3 n l (l.length:Int) (a:Int) 0) ((max a k+1:Nat):Int)
 inner:∀d:Int,1≤d→d≤40→Ev (fun n=>F75x1 n l (l.length:Int) d) ((b&&decide ((k:Int)+1≤d)),d)
 outer:∀d:Int,1≤d→d≤40→Ev (fun n=>F75 n l (l.length:Int) d) ((b&&decide ((k:Int)+1≤d)),d)
theorem item_d {m:List D}{k:Nat}(hk:k≤5000) (hd:Ev (fun n=>L39_3 n m (m.length:Int) ((1:Nat):Int) 0) ((max 1 k+1:Nat):Int)):Ev (fun n=>F12 n [itm m]) ((max 1 k+2:Nat):Int):=by
 have e39:Ev (fun n=>F39 n 3 k_main [] 1 ByteArray.empty [] m 1 0 ByteArray.empty ByteArray.empty ByteArray.empty [] [] 0 0) ((max 1 k+1:Nat):Int):=by
  simp only[F39]
  refine Ev.bO1 (f86nil _ _) (Ev.bO1 (f87nil _ _ _ _ _ _ _) ?_)
  simp only[letF,mx,lenF]
  refine .succ ?_
  simp only[L39_1]
  simp only[nn0,if_false]
  refine .succ ?_
  simp only[L39_2,Bool.false_eq_true,if_false,lenF]
  exact hd
 have one:((List.length [itm m]:Nat):Int)=1:=rfl
 unfold F12
 simp only[lenF,one]
 refine .succ ?_
 simp only[L12_1,show (0:Int)<1 by decide,if_true]
 refine .succ ?_
 simp only[L12_2,if_true,getF_zero,itm,ds_t45]
 refine Ev.bO1 e39 ?_
 simp only[letF,show IntKind.wrap .i64 ((0:Int)+1)=1 from rfl]
 refine .succ ?_
 simp only[L12_1,Int.lt_irrefl,if_false]
 refine .succ ?_
 simp only[L12_2,Bool.false_eq_true,if_false,letF]
 rw[if_pos (by omega),iw (by omega) (by omega),show ((max 1 k+1:Nat):Int)+1=((max 1 k+2:Nat):Int)by omega]
 exact .ret
theorem item_w {l:List D}{w:Bool}(ho:Ev (fun n=>F75 n l (l.length:Int) 39) (w,39)):Ev (fun n=>F10 n [itm l]) w:=by
 have one:((List.length [itm l]:Nat):Int)=1:=rfl
 suffices e36:Ev (fun n=>F36 n 3 k_main [] 1 ByteArray.empty [] l 1 0 ByteArray.empty ByteArray.empty ByteArray.empty [] [] 0 0) w by
  unfold F10
  refine Ev.bO1 (a:=w) ?_ .ret
  unfold F35
  refine .succ ?_
  simp only[L35_1,lenF,one,show (0:Int)<1 by decide,show (0:Int)<30 by decide,if_true]
  refine .succ ?_
  simp only[L35_2,if_true,getF_zero,itm,ds_t45,letB]
  refine Ev.bO1 e36 ?_
  cases w
  ·simp only[Bool.not_false,if_true];exact .ret
  ·simp only[Bool.not_true,Bool.false_eq_true,if_false,letF,show IntKind.wrap .i64 ((0:Int)+1)=1 from rfl]
   refine .succ ?_
   simp only[L35_1,lenF]
   simp only[n11,if_false]
   refine .succ ?_
   simp only[L35_2,Bool.false_eq_true,if_false,lenF]
   simp only[p130,if_true]
   exact .ret
 unfold F36
 refine Ev.bO1 (a:=w) ?_ .ret
 unfold F37
 refine Ev.bO1 (a:=false) (evk fun m=>by kernel_rfl) ?_
 simp only[Bool.false_eq_true,if_false]
 refine .succ ?_
 simp only[L37_1,show ¬(3:Int)=1 by decide,if_false]
 refine .succ ?_
 simp only[L37_2,Bool.false_eq_true,show ¬(3:Int)=2 by decide,if_false]
 refine .succ ?_
 simp only[L37_3,Bool.false_eq_true,if_false,if_true]
 refine .succ ?_
 simp only[L37_4,if_true]
 refine Ev.bO1 (a:=true) (evk fun m=>by kernel_rfl) ?_
 simp only[if_true]
 refine Ev.bO18 (A:=fun n=>F69 n false 3 k_main [] 1 ByteArray.empty [] l 1 0 ByteArray.empty ByteArray.empty ByteArray.empty [] [] 0 0 39) (evk fun m=>(by kernel_rfl:F69 (m+300) false 3 k_main [] 1 ByteArray.empty [] l 1 0 ByteArray.empty ByteArray.empty ByteArray.empty [] [] 0 0 39=some (true,3,k_main,[],1,ByteArray.empty,[],l,1,0,ByteArray.empty,ByteArray.empty,ByteArray.empty,[],[],0,0,39))) ?_
 simp only[if_true,letF,show IntKind.wrap .i64 ((39:Int) - 1)=38 from rfl]
 refine Ev.bO1 (a:=true) (evk fun m=>by kernel_rfl) ?_
 simp only[if_true]
 refine Ev.bO1 (a:=false) (evk fun m=>by kernel_rfl) ?_
 simp only[letB,Bool.not_false,if_true]
 refine Ev.bO1 (a:=true) (evk fun m=>by kernel_rfl) ?_
 simp only[if_true,lenF]
 exact Ev.bO2 ho .ret
theorem item_s {m:List D}{S:Int}(hs:∀R,Ev (fun n=>L14_1 n [itm m] 1 (W (2+S)) 1) R→Ev (fun n=>L14_5 n [itm m] 1 0 m (m.length:Int) 2 0) R):Ev (fun n=>F14 n [itm m]) (W (2+S)):=by
 have one:((List.length [itm m]:Nat):Int)=1:=rfl
 unfold F14
 simp only[lenF,one]
 refine .succ ?_
 simp only[L14_1,show (0:Int)<1 by decide,if_true]
 refine .succ ?_
 simp only[L14_2,if_true,getF_zero]
 show Ev (fun n=>letF (IntKind.wrap .i64 ((0:Int)+1)) fun z23=>if (3:Int)=3 then L14_3 n [itm m] 1 0 m 1 0 ByteArray.empty ByteArray.empty ByteArray.empty [] [] 0 z23 true else L14_3 n [itm m] 1 0 m 1 0 ByteArray.empty ByteArray.empty ByteArray.empty [] [] 0 z23 false) _
 simp only[letF,show IntKind.wrap .i64 ((0:Int)+1)=1 from rfl,if_true]
 refine .succ ?_
 simp only[L14_3,if_true]
 refine Ev.bO1 (a:=(1:Int)) (evk fun n=>by kernel_rfl) ?_
 simp only[letF,show IntKind.wrap .i64 ((1:Int)+1)=2 from rfl]
 refine .succ ?_
 simp only[L14_4,lenF]
 refine hs _ (.succ ?_)
 simp only[L14_1,Int.lt_irrefl,if_false]
 refine .succ ?_
 simp only[L14_2,Bool.false_eq_true,if_false]
 exact .ret
theorem ev_bl {α β:Type}{G:Nat→Option (α ⊕ β)}{a:α}{k1:Nat→α→Option Bool}{k2:Nat→β→Option Bool}{r:Bool}(hr:Ev G (.inl a)) (h:Ev (fun n=>k1 n a) r):Ev (fun n=>bS (G n) (k1 n) (k2 n)) r:=by
 obtain⟨N,hr⟩:=hr
 obtain⟨M,h⟩:=h
 refine⟨N+M,fun n hn=>?_⟩
 show bS (G n) _ _=_
 rw[hr n (by omega)]
 exact h n (by omega)
theorem know_blk {l:List D}{k:Nat}{b:Bool}(K:Know l k b) (hl:ListS tab 50 l) (hk:∀z1 s2 s3 l4 z5 s6 l7 z8 s9 l10 l11 l12 l13 l14 z15 z17 (a:Nat) R,Ev (fun n=>L138_1 n z1 s2 s3 l4 z5 s6 l7 z8 s9 l10 l11 l12 l13 l14 z15 (IntKind.wrap .i64 (z17+1)) ((max a k:Nat):Int)) R→Ev (fun n=>L138_3 n z1 s2 s3 l4 z5 s6 l7 z8 s9 l10 l11 l12 l13 l14 z15 z17 l (l.length:Int) (0:Int) (a:Int)) R) (hk4:k≤4000):
  (∀a:Nat,a≤4000→Ev (fun n=>L39_3 n [blk l] ((List.length [blk l]:Nat):Int) (a:Int) 0) ((max a (k+1)+1:Nat):Int))∧Ev (fun n=>F75 n [blk l] ((List.length [blk l]:Nat):Int) 39) ((b&&decide ((k:Int)+1≤38)),39):=by
 have one:((List.length [blk l]:Nat):Int)=1:=rfl
 have h138:Ev (fun n=>F138 n 0 13 ByteArray.empty ByteArray.empty [] 0 ByteArray.empty [] 0 ByteArray.empty [] [] l [] [] 0) ((k:Int),13,ByteArray.empty,ByteArray.empty,[],0,ByteArray.empty,[],0,ByteArray.empty,[],[],l,[],[],0):=by
  refine .succ ?_
  simp only[F138]
  refine .succ ?_
  simp only[L138_1,show (0:Int)<2 by decide,if_true]
  refine .succ ?_
  simp only[L138_2,if_true,getF_zero,ds_listtrue15,lenF]
  refine hk _ _ _ _ _ _ _ _ _ _ _ _ _ _ _ 0 0 _ ?_
  rw[show IntKind.wrap .i64 ((0:Int)+1)=1 from rfl,show max 0 k=k by omega]
  refine .succ ?_
  simp only[L138_1,show (1:Int)<2 by decide,if_true]
  refine .succ ?_
  have g1:∀{γ:Type} (k:D→Option γ),getF [.list true 15 l,.list true 15 []] (1:Int) k=k (.list true 15 []):=fun k=>getF_nat (i:=1) rfl
  simp only[L138_2,if_true,g1,ds_listtrue15,lenF]
  refine .succ ?_
  simp only[L138_3]
  simp only[nn0,if_false]
  refine .succ ?_
  simp only[L138_4,Bool.false_eq_true,if_false,letF,show IntKind.wrap .i64 ((1:Int)+1)=2 from rfl]
  refine .succ ?_
  simp only[L138_1,Int.lt_irrefl,if_false]
  refine .succ ?_
  simp only[L138_2,Bool.false_eq_true,if_false,lenF]
  refine .succ ?_
  simp only[L138_5]
  simp only[nn0,if_false]
  refine .succ ?_
  simp only[L138_6,Bool.false_eq_true,if_false]
  exact .ret
 have e88:Ev (fun n=>F88 n 13 ByteArray.empty ByteArray.empty [] 0 ByteArray.empty [] 0 ByteArray.empty [] [] l [] [] 0) ((k+1:Nat):Int):=by
  refine .succ ?_
  simp only[F88,show ¬(13:Int)=12 by decide,if_false]
  refine .succ ?_
  simp only[L88_1,Bool.false_eq_true,if_false]
  refine .succ ?_
  simp only[L88_2,lenF]
  refine .succ ?_
  simp only[L88_3]
  simp only[nn0,if_false]
  refine .succ ?_
  simp only[L88_4,Bool.false_eq_true,if_false]
  refine Ev.bO15 (A:=fun n=>F89 n 13 ByteArray.empty ByteArray.empty [] 0 ByteArray.empty [] 0 ByteArray.empty [] [] l [] [] 0) (.of fun n=>rfl) ?_
  refine Ev.bO16 h138 ?_
  simp only[letF]
  rw[iw (by omega) (by omega),show (k:Int)+1=((k+1:Nat):Int)by omega]
  exact .ret
 have e77:Ev (fun n=>F77 n 13 ByteArray.empty ByteArray.empty [] 0 ByteArray.empty [] 0 ByteArray.empty [] [] l [] [] 0 38) (b&&decide ((k:Int)+1≤38)):=by
  refine .succ ?_
  simp only[F77]
  refine ev_bl (a:=((0:Int),(0:Int),false,true,false,false,true)) (evk fun m=>by kernel_rfl) ?_
  simp only[bO7,show ¬(38:Int)<1 by decide,if_false,letB,Bool.not_true,Bool.false_eq_true]
  refine Ev.bO1 (a:=true) (evk fun m=>by kernel_rfl) ?_
  simp only[Bool.not_true,Bool.false_eq_true,if_false]
  refine Ev.bO1 (a:=true) (evk fun m=>by kernel_rfl) ?_
  simp only[Bool.not_true,Bool.false_eq_true,if_false]
  refine Ev.bO1 (a:=true) (evk fun m=>by kernel_rfl) ?_
  simp only[Bool.not_true,Bool.false_eq_true,if_false,lenF,z00,if_true]
  refine Ev.bO1 (a:=true) (evk fun m=>by kernel_rfl) ?_
  simp only[Bool.not_true]
  refine .succ ?_
  simp only[L77_1,Bool.false_eq_true,if_false,letF,letB]
  refine Ev.bO1 f55zero ?_
  simp only[show (!(false==false))=false from rfl,Bool.false_eq_true,if_false]
  refine Ev.bO1 (a:=true) (evk fun m=>by kernel_rfl) ?_
  simp only[Bool.not_true,Bool.false_eq_true,if_false]
  refine Ev.bO1 (a:=false) (evk fun m=>by kernel_rfl) ?_
  simp only[show (!(false==false))=false from rfl,Bool.false_eq_true,if_false,Bool.not_false,if_true]
  refine Ev.bO1 (a:=true) (evk fun m=>by kernel_rfl) ?_
  simp only[Bool.not_true]
  refine .succ ?_
  simp only[L77_2,Bool.false_eq_true,if_false,letB,Bool.not_true,Bool.not_false,if_true,lenF]
  simp only[nn0,if_false]
  refine .succ ?_
  simp only[L77_3,Bool.false_eq_true,if_false]
  refine Ev.bO10 (A:=fun n=>F98x1 n [] 6 0 0 false false true false false false 38) (evk fun m=>(by kernel_rfl:F98x1 (m+300) [] 6 0 0 false false true false false false 38=some (true,0,0,false,false,true,false,false,false,38))) ?_
  simp only[if_true,lenF]
  refine Ev.bO2 (K.inner 38 (by omega) (by omega)) ?_
  cases b&&decide ((k:Int)+1≤38)
  ·simp only[Bool.false_eq_true,if_false];exact .ret
  ·simp only[if_true]
   refine Ev.bO2 (a:=true) (b:=(38:Int)) (evk fun m=>by kernel_rfl) ?_
   simp only[if_true]
   exact Ev.bO2 (a:=true) (b:=(38:Int)) (evk fun m=>by kernel_rfl) .ret
 refine⟨fun a ha=>?_,?_⟩
 ·refine .succ ?_
  simp only[L39_3,one,show (0:Int)<1 by decide,if_true]
  refine .succ ?_
  simp only[L39_4,if_true,getF_zero,blk,ds_t50]
  refine Ev.bO1 e88 ?_
  simp only[letF,mx,show IntKind.wrap .i64 ((0:Int)+1)=1 from rfl]
  refine .succ ?_
  simp only[L39_3,Int.lt_irrefl,if_false]
  refine .succ ?_
  simp only[L39_4,Bool.false_eq_true,if_false,letF]
  rw[iw (by omega) (by omega),show ((max a (k+1):Nat):Int)+1=((max a (k+1)+1:Nat):Int)by omega]
  exact .ret
 ·unfold F75
  refine .succ ?_
  simp only[L75_1,lenF,one,show (0:Int)<1 by decide,if_true]
  refine .succ ?_
  simp only[L75_2,if_true,getF_zero,blk,ds_t50,letB]
  refine Ev.bO2 (a:=(b&&decide ((k:Int)+1≤38))) (b:=(39:Int)) ?_ ?_
  ·simp only[F76,letF,show IntKind.wrap .i64 ((39:Int) - 1)=38 from rfl]
   exact Ev.bO1 e77 .ret
  ·cases b&&decide ((k:Int)+1≤38)
   ·simp only[Bool.not_false,if_true];exact .ret
   ·simp only[Bool.not_true,Bool.false_eq_true,if_false,letF,show IntKind.wrap .i64 ((0:Int)+1)=1 from rfl]
    refine .succ ?_
    simp only[L75_1,lenF]
    simp only[n11,if_false]
    refine .succ ?_
    simp only[L75_2,Bool.false_eq_true,if_false,lenF]
    simp only[p11,if_true]
    exact .ret
theorem block_law {l:List D}(h:ListS tab 50 l):Ev (fun n=>F6 n l) true:=by
 have e22:Ev (fun n=>F22 n) [itm []]:=evk fun m=>by kernel_rfl
 obtain⟨g,g1,g2⟩:=great_b h
 unfold F6
 refine Ev.bO1 ev_awake ?_
 simp only[letB,Bool.not_true,Bool.false_eq_true,if_false]
 refine Ev.bO1 e22 (Ev.bO1 e22 ?_)
 refine Ev.congr (A:=fun n=>bO1 (F8 n [itm l]) fun b24=>if b24=true then some true else bO1 (F12 n [itm l]) fun z43=>lenF l fun z44=>if (0:Int)<z44 then L6_1 n [itm l] [itm [blk l]] z43 true else L6_1 n [itm l] [itm [blk l]] z43 false) ?_ (fun n=>rfl)
 refine Ev.bO1 g1 ?_
 cases g with
 | true=>simp only[if_true];exact .ret
 | false=>
  simp only[Bool.false_eq_true,if_false]
  obtain⟨k,k1,⟨b,kx,ky⟩,k0,kd,kb,_⟩:=w_body (c:=20000) (by omega) h (g2 rfl) 0 (Nat.zero_le _)
  have K:Know l k b:=⟨by omega,fun hl=>k0 (by omega),fun hl=>?_,fun a ha=>kd a (by omega) (by omega),fun d d1 d2=>.succ (by simp only[F75x1];exact kx d d1 d2),fun d d1 d2=>by unfold F75;exact ky d d1 d2⟩
  rotate_left
  ·have e1:=kd 0 (by omega) (by omega)
   have hl0:l=[]:=List.length_eq_zero_iff.1 hl
   subst hl0
   have e2:Ev (fun n=>L39_3 n [] ((List.length ([]:List D):Nat):Int) ((0:Nat):Int) ((0:Nat):Int)) 1:=evk fun m=>by kernel_rfl
   have:=Ev.uniq e1 e2
   omega
  obtain⟨bd,bw⟩:=know_blk K h kb (by omega)
  have dp:=item_d (m:=l) (k:=k) (by omega) (K.deep 1 (by omega))
  have dq:=item_d (m:=[blk l]) (k:=k+1) (by omega) (bd 1 (by omega))
  have wp:=item_w (K.outer 39 (by omega) (by omega))
  have wq:=item_w bw
  have sp:=item_s (m:=l) (S:=sm l) (fun R hR=>size_st h [itm l] 1 0 0 (Nat.zero_le _) 2 rfl (by rw[List.drop_zero];exact hR))
  have sq:Ev (fun n=>F14 n [itm [blk l]]) (W (2+W (1+sm l))):=item_s (S:=W (1+sm l)) fun R hR=>by
   refine .succ ?_
   simp only[L14_5,show ((List.length [blk l]:Nat):Int)=1 from rfl,show (0:Int)<1 by decide,if_true]
   refine .succ ?_
   simp only[L14_6,if_true,getF_zero]
   show Ev (fun n=>bO1 (F45 n 13 ByteArray.empty ByteArray.empty [] 0 ByteArray.empty [] 0 ByteArray.empty [] [] l [] [] 0) fun z48=>letF (IntKind.wrap .i64 (2+z48)) fun z49=>letF (IntKind.wrap .i64 ((0:Int)+1)) fun z50=>L14_5 n [itm [blk l]] 1 0 [blk l] 1 z49 z50) _
   refine Ev.bO1 (blk45 h) ?_
   simp only[letF,show IntKind.wrap .i64 ((0:Int)+1)=1 from rfl]
   refine .succ ?_
   simp only[L14_5,Int.lt_irrefl,if_false]
   refine .succ ?_
   simp only[L14_6,Bool.false_eq_true,if_false,letF,show IntKind.wrap .i64 ((0:Int)+1)=1 from rfl]
   exact hR
  refine Ev.bO1 dp ?_
  have fin:Ev (fun n=>L6_2 n [itm l] [itm [blk l]] ((max 1 (k+1)+2:Nat):Int)) true:=by
   refine .succ ?_
   simp only[L6_2]
   refine Ev.bO1 sq (Ev.bO1 sp ?_)
   simp only[letF]
   have eS:W (2+W (1+sm l))=IntKind.wrap .i64 (W (2+sm l)+1):=by simp only[W,IntKind.wrap_i64];omega
   simp only[if_pos eS]
   refine Ev.bO1 dq ?_
   simp only[if_true]
   refine Ev.bO1 wq (Ev.bO1 wp ?_)
   cases b
   ·simp only[Bool.false_and,Bool.false_eq_true,if_false,letB];exact .ret
   ·simp only[Bool.true_and]
    by_cases c:(k:Int)+1≤38
    ·simp only[decide_eq_true c,decide_eq_true (show (k:Int)+1≤39 by omega),if_true]
     refine Ev.bO1 dq ?_
     simp only[if_pos (show ((max 1 (k+1)+2:Nat):Int)≤40 by omega),letB];exact .ret
    ·simp only[decide_eq_false c]
     by_cases c':(k:Int)+1≤39
     ·simp only[decide_eq_true c',if_true]
      refine Ev.bO1 dq ?_
      simp only[if_neg (show ¬((max 1 (k+1)+2:Nat):Int)≤40 by omega),letB];exact .ret
     ·simp only[decide_eq_false c',Bool.false_eq_true,if_false,letB];exact .ret
  simp only[lenF]
  by_cases c:(0:Int)<(l.length:Int)
  ·simp only[if_pos c]
   refine .succ ?_
   simp only[L6_1,if_true,letF]
   have:=K.one (by omega)
   rw[iw (by omega) (by omega),show ((max 1 k+2:Nat):Int)+1=((max 1 (k+1)+2:Nat):Int)by omega]
   exact fin
  ·simp only[if_neg c]
   refine .succ ?_
   simp only[L6_1,Bool.false_eq_true,if_false]
   have:=K.nil (by omega)
   rw[show ((max 1 k+2:Nat):Int)=((max 1 (k+1)+2:Nat):Int)by omega]
   exact fin
theorem tree_block_trip:∀xs:List D,Shapes tab [43] xs→Trip Tryz.prog inv 6 (xs.map V1.d) [] (.v (.d (.bool true))) [] []:=by
 intro xs h
 match xs,h with
 | [u],⟨u1,u2,_⟩=>
  have hu:RowS tab 43 u:=⟨u1,u2⟩
  obtain⟨l,e0,hl⟩:=(hu.flat1 (y:=tyD tab 43) (by kernel_rfl) rfl).listS (x:=tyD tab 43) (y:=tyD tab 50) (by kernel_rfl) rfl (by kernel_rfl)
  obtain rfl:u= .list true 15 l:=e0
  obtain⟨n,hn⟩:=(block_law hl).run
  exact T6 n hn
end Go.Proofs.YtjmofeakajdbiaaGreatDoor
end
namespace Go.Proofs.YtjmofeakajdbiaaGreatDoor
open Go Go.ChangeShapes Go.WideShapes Go.ChangeAt Go.RowKit Go.AM
theorem tree_block_reads:∀t∈[43],Tryz.prog.readableRec t=true∧t<Tryz.prog.types.size:=by
 have h:([43].all fun t=>Tryz.prog.readableRec t&&decide (t<Tryz.prog.types.size))=true:=by kernel_rfl
 intro t ht
 have:=List.all_eq_true.1 h t ht
 simpa using this
theorem tree_block_inv {W:World}(h:laidMet Tryz.prog Rows.treeBlockRow.laid W):inv.at W fun _ _=>False:=by
 have e:(Rows.treeBlockRow.laid.filter fun x=>x.1== "strings.asciiSpace")=[("strings.asciiSpace",Lib.tabData .u8 Lib.asciiSpaceTab)]:=by kernel_rfl
 have h2:=laidMet.filter (fun x=>x.1== "strings.asciiSpace") h
 rw[e]at h2
 have ht:Lib.TabIs Tryz.prog W "strings.asciiSpace" .u8 Lib.asciiSpaceTab:=by
  exact Lib.tabIs_of_head (g:=0) (t:=155) (e:=5) (n:=256) (by kernel_rfl) (by kernel_rfl) (by kernel_rfl) (by kernel_rfl) (by kernel_rfl) (by kernel_rfl) h2
 refine⟨ht,fun b hb=>⟨?_,fun _ h=>h⟩⟩
 have hb:Tryz.prog.globalNamed "strings.asciiSpace" =some b:=hb
 unfold Lib.TabIs World.var? at ht
 rw[hb]at ht
 simp only[Option.bind_some]at ht
 cases hx:W.heap[b]? with
 | none=>rw[hx]at ht;simp at ht
 | some o=>exact (Array.getElem?_eq_some_iff.1 hx).1
set_option maxRecDepth 100000 in
theorem tree_block_lifted (os:Os) (started:os.Started) (H:Type) (enc:TypeId×Value→H):
  ReturnsInHanded {} Tryz.checked os 6 .any (fun w args=>(Rows.treeBlockSpec.pre enc Tryz.prog Tryz.f6 Rows.treeBlockRow.domain false w args∧laidMetH Tryz.prog Rows.treeBlockRow.laid w)∧sizedMet enc Tryz.prog Tryz.f6 (OpenSpec.ofChange Rows.treeBlockSpec) false w args)
   (Rows.treeBlockSpec.post enc Tryz.prog Tryz.f6 false true false false):=by
 refine returnsInHanded_of_change_and (C:=Tryz.checked) (X:=fun w _=>laidMetH Tryz.prog Rows.treeBlockRow.laid w) (fun _ _ _ hh h=>h.of_heap hh) (by kernel_rfl) started (by kernel_rfl) Tryz.func6
  (ChangeSpec.witness_shaped (enc:=enc) (C:=Tryz.checked) (os:=os) (X:=fun w _=>laidMetH Tryz.prog Rows.treeBlockRow.laid w) false (World.laidAll Tryz.prog os Rows.treeBlockRow.laid) #[.slice none 0 0] 8 (World.laidAll_os _ _ _)
   (World.shaped_of_ZipB (by kernel_rfl) (by kernel_rfl)) (by kernel_rfl) (by kernel_rfl) (by kernel_rfl)
   (by rw[MakeChecks.laidMetH_plain _ _ _ (by kernel_rfl)];exact laidMet_laidAll _ (by kernel_rfl) (by kernel_rfl))) ?_
 intro W base args ds gs before hval0 hW _ _ hL _
 rw[MakeChecks.laidMetH_plain _ _ _ (by kernel_rfl)]at hL
 refine law_calls (ti:=tab) (T:=[2,3,5,9,31,33,34,36,37,39,43,48,50,95]) tab_ok (by kernel_rfl) (ts:=[43]) (bt:=4) rfl rfl rfl (by kernel_rfl) (by decide) ?_ (by kernel_rfl) tree_block_reads tree_block_trip (tree_block_inv hL) hval0 hW
 intro ds h
 match ds,h with
 | [_],_=>exact⟨rfl,rfl,rfl⟩
theorem tree_block_row:Rows.TreeBlockSaid:=
 OpenClaim.holds_of_wide 6 Tryz.f6 rfl rfl rfl rfl rfl rfl rfl ⟨rfl,rfl,rfl,rfl,rfl⟩ rfl rfl rfl rfl rfl (by kernel_rfl) Tryz.func6 (by kernel_rfl)
  (of_decide_eq_true (by kernel_rfl)) (by unfold Func.isWrapper;first | (rw[if_pos (by decide+kernel)];kernel_rfl) | (rw[if_neg (by decide+kernel)];exact⟨rfl,rfl⟩))
  (fun os started H enc _=>tree_block_lifted os started H enc)
theorem tree_block:Rows.TreeBlockCardSaid:=
 Claim7.holds_tied_plain_at .later [] [.listed,.data] true Rows.treeBlockCard.stood.harness false tree_block_row (fun _ h=>by cases h) (by kernel_rfl) (fun _ h=>by cases h) treeBlock_row_tie rfl ⟨rfl,rfl⟩ (by kernel_rfl) rfl
  (fun f fn hf hfn=>by
   obtain rfl:f=6:=Option.some.inj ((show Tryz.prog.funcNamed "weftway/weftwaylaw03.TreeBlock" =some 6 by kernel_rfl).symm.trans hf) |>.symm
   obtain rfl:fn=Tryz.f6:=(Option.some.inj (Tryz.func6.symm.trans hfn)).symm
   exact⟨by kernel_rfl,fun j t ht=>by
    have hm:t∈[43]:=by
     have hp:Tryz.f6.params.toList=[43]:=rfl
     rw[←hp];simpa using Array.mem_of_getElem? ht
    have hall:([43].all fun u=>!Tryz.prog.wantsStandIn u)=true:=by kernel_rfl
    exact (show Tryz.prog.wantsStandIn t=false by simpa using List.all_eq_true.1 hall t hm)⟩)
  (by kernel_rfl)
end Go.Proofs.YtjmofeakajdbiaaGreatDoor
