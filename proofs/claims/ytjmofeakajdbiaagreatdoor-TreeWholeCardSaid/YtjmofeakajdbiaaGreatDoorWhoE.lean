/- Part of a proof. No condition. (Part 5.) -/
import Derived.Carry
import Derived.ChangeSame
import Derived.ChangeOld
import Derived.ChangeCalls
import Derived.WideShapes
import Derived.Test.YtjmofeakajdbiaaGreatDoorWhoD
set_option linter.unusedVariables false
set_option linter.unusedSimpArgs false
set_option maxRecDepth 100000
set_option maxHeartbeats 40000000
set_option linter.unusedVariables false
noncomputable section
namespace Go.Proofs.YtjmofeakajdbiaaGreatDoor
open Go Go.AM
mutual
def NK:Nat->Int->BA->BA->LD->Int->BA->LD->Int->BA->LD->LD->LD->LD->LD->Int->Int->Option (Int)
 | 0,_,_,_,_,_,_,_,_,_,_,_,_,_,_,_,_=>none
 | n+1,z1,s2,s3,l4,z5,s6,l7,z8,s9,l10,l11,l12,l13,l14,z15,z16=>
  bO1 (Yp n z1 s2 s3 l4 z5 s6 l7 z8 s9 l10 l11 l12 l13 l14 z15) fun z17=>AE (IntKind.wrap .i64 (z16+z17)) fun z18=>some z18
def Ck:Nat->Int->BA->BA->LD->Int->BA->LD->Int->BA->LD->LD->LD->LD->LD->Int->Int->Int->Option (Int×Int×BA×BA×LD×Int×BA×LD×Int×BA×LD×LD×LD×LD×LD×Int)
 | 0,_,_,_,_,_,_,_,_,_,_,_,_,_,_,_,_,_=>none
 | n+1,z2,s3,s4,l5,z6,s7,l8,z9,s10,l11,l12,l13,l14,l15,z16,z17,z18=>
  (if z17<(2:Int)then C7 n z2 s3 s4 l5 z6 s7 l8 z9 s10 l11 l12 l13 l14 l15 z16 z17 z18 true else C7 n z2 s3 s4 l5 z6 s7 l8 z9 s10 l11 l12 l13 l14 l15 z16 z17 z18 false)
def C7:Nat->Int->BA->BA->LD->Int->BA->LD->Int->BA->LD->LD->LD->LD->LD->Int->Int->Int->Bool->Option (Int×Int×BA×BA×LD×Int×BA×LD×Int×BA×LD×LD×LD×LD×LD×Int)
 | 0,_,_,_,_,_,_,_,_,_,_,_,_,_,_,_,_,_,_=>none
 | n+1,z2,s3,s4,l5,z6,s7,l8,z9,s10,l11,l12,l13,l14,l15,z16,z17,z18,b19=>
  (if b19=true then Ae ([.list true 15 l13,.list true 15 l14]) z17 fun x20=>Bo x20 fun l21=>AB l21 fun z22=>C8 n z2 s3 s4 l5 z6 s7 l8 z9 s10 l11 l12 l13 l14 l15 z16 z17 l21 z22 (0:Int) z18 else AB l15 fun z45=>Cm n z2 s3 s4 l5 z6 s7 l8 z9 s10 l11 l12 l13 l14 l15 z16 z45 (0:Int) z18)
def C8:Nat->Int->BA->BA->LD->Int->BA->LD->Int->BA->LD->LD->LD->LD->LD->Int->Int->LD->Int->Int->Int->Option (Int×Int×BA×BA×LD×Int×BA×LD×Int×BA×LD×LD×LD×LD×LD×Int)
 | 0,_,_,_,_,_,_,_,_,_,_,_,_,_,_,_,_,_,_,_,_=>none
 | n+1,z2,s3,s4,l5,z6,s7,l8,z9,s10,l11,l12,l13,l14,l15,z16,z17,l21,z22,z23,z24=>
  (if z23<z22 then Dc n z2 s3 s4 l5 z6 s7 l8 z9 s10 l11 l12 l13 l14 l15 z16 z17 l21 z22 z23 z24 true else Dc n z2 s3 s4 l5 z6 s7 l8 z9 s10 l11 l12 l13 l14 l15 z16 z17 l21 z22 z23 z24 false)
def Dc:Nat->Int->BA->BA->LD->Int->BA->LD->Int->BA->LD->LD->LD->LD->LD->Int->Int->LD->Int->Int->Int->Bool->Option (Int×Int×BA×BA×LD×Int×BA×LD×Int×BA×LD×LD×LD×LD×LD×Int)
 | 0,_,_,_,_,_,_,_,_,_,_,_,_,_,_,_,_,_,_,_,_,_=>none
 | n+1,z2,s3,s4,l5,z6,s7,l8,z9,s10,l11,l12,l13,l14,l15,z16,z17,l21,z22,z23,z24,b25=>
  (if b25=true then Ae l21 z23 fun x26=>Af x26 fun z27 s28 s29 l30 z31 s32 l33 z34 s35 l36 l37 l38 l39 l40 z41=>bO1 (NK n z27 s28 s29 l30 z31 s32 l33 z34 s35 l36 l37 l38 l39 l40 z41 z24) fun z42=>AE (IntKind.wrap .i64 (z23+1)) fun z43=>C8 n z2 s3 s4 l5 z6 s7 l8 z9 s10 l11 l12 l13 l14 l15 z16 z17 l21 z22 z43 z42 else AE (IntKind.wrap .i64 (z17+1)) fun z44=>Ck n z2 s3 s4 l5 z6 s7 l8 z9 s10 l11 l12 l13 l14 l15 z16 z44 z24)
def Cm:Nat->Int->BA->BA->LD->Int->BA->LD->Int->BA->LD->LD->LD->LD->LD->Int->Int->Int->Int->Option (Int×Int×BA×BA×LD×Int×BA×LD×Int×BA×LD×LD×LD×LD×LD×Int)
 | 0,_,_,_,_,_,_,_,_,_,_,_,_,_,_,_,_,_,_=>none
 | n+1,z2,s3,s4,l5,z6,s7,l8,z9,s10,l11,l12,l13,l14,l15,z16,z45,z46,z47=>
  (if z46<z45 then Dd n z2 s3 s4 l5 z6 s7 l8 z9 s10 l11 l12 l13 l14 l15 z16 z45 z46 z47 true else Dd n z2 s3 s4 l5 z6 s7 l8 z9 s10 l11 l12 l13 l14 l15 z16 z45 z46 z47 false)
def Dd:Nat->Int->BA->BA->LD->Int->BA->LD->Int->BA->LD->LD->LD->LD->LD->Int->Int->Int->Int->Bool->Option (Int×Int×BA×BA×LD×Int×BA×LD×Int×BA×LD×LD×LD×LD×LD×Int)
 | 0,_,_,_,_,_,_,_,_,_,_,_,_,_,_,_,_,_,_,_=>none
 | n+1,z2,s3,s4,l5,z6,s7,l8,z9,s10,l11,l12,l13,l14,l15,z16,z45,z46,z47,b48=>
  (if b48=true then Ae l15 z46 fun x49=>Be x49 fun s50 s51 l52=>AB l52 fun z53=>C9 n z2 s3 s4 l5 z6 s7 l8 z9 s10 l11 l12 l13 l14 l15 z16 z45 z46 l52 z53 (0:Int) z47 else some (z47,z2,s3,s4,l5,z6,s7,l8,z9,s10,l11,l12,l13,l14,l15,z16))
def C9:Nat->Int->BA->BA->LD->Int->BA->LD->Int->BA->LD->LD->LD->LD->LD->Int->Int->Int->LD->Int->Int->Int->Option (Int×Int×BA×BA×LD×Int×BA×LD×Int×BA×LD×LD×LD×LD×LD×Int)
 | 0,_,_,_,_,_,_,_,_,_,_,_,_,_,_,_,_,_,_,_,_,_=>none
 | n+1,z2,s3,s4,l5,z6,s7,l8,z9,s10,l11,l12,l13,l14,l15,z16,z45,z46,l52,z53,z54,z55=>
  (if z54<z53 then De n z2 s3 s4 l5 z6 s7 l8 z9 s10 l11 l12 l13 l14 l15 z16 z45 z46 l52 z53 z54 z55 true else De n z2 s3 s4 l5 z6 s7 l8 z9 s10 l11 l12 l13 l14 l15 z16 z45 z46 l52 z53 z54 z55 false)
def De:Nat->Int->BA->BA->LD->Int->BA->LD->Int->BA->LD->LD->LD->LD->LD->Int->Int->Int->LD->Int->Int->Int->Bool->Option (Int×Int×BA×BA×LD×Int×BA×LD×Int×BA×LD×LD×LD×LD×LD×Int)
 | 0,_,_,_,_,_,_,_,_,_,_,_,_,_,_,_,_,_,_,_,_,_,_=>none
 | n+1,z2,s3,s4,l5,z6,s7,l8,z9,s10,l11,l12,l13,l14,l15,z16,z45,z46,l52,z53,z54,z55,b56=>
  (if b56=true then Ae l52 z54 fun x57=>Af x57 fun z58 s59 s60 l61 z62 s63 l64 z65 s66 l67 l68 l69 l70 l71 z72=>bO1 (NK n z58 s59 s60 l61 z62 s63 l64 z65 s66 l67 l68 l69 l70 l71 z72 z55) fun z73=>AE (IntKind.wrap .i64 (z54+1)) fun z74=>C9 n z2 s3 s4 l5 z6 s7 l8 z9 s10 l11 l12 l13 l14 l15 z16 z45 z46 l52 z53 z74 z73 else AE (IntKind.wrap .i64 (z46+1)) fun z75=>Cm n z2 s3 s4 l5 z6 s7 l8 z9 s10 l11 l12 l13 l14 l15 z16 z45 z75 z55)
def NL:Nat->Int->Int->BA->BA->LD->Int->BA->LD->Int->BA->LD->LD->LD->LD->LD->Int->Option (Int×Int×BA×BA×LD×Int×BA×LD×Int×BA×LD×LD×LD×LD×LD×Int)
 | 0,_,_,_,_,_,_,_,_,_,_,_,_,_,_,_,_=>none
 | n+1,z1,z2,s3,s4,l5,z6,s7,l8,z9,s10,l11,l12,l13,l14,l15,z16=>
  Ck n z2 s3 s4 l5 z6 s7 l8 z9 s10 l11 l12 l13 l14 l15 z16 (0:Int) z1
def Eo:Nat->Int->BA->BA->LD->Int->BA->LD->Int->BA->LD->LD->LD->LD->LD->Int->Int->Int->Int->Option (Int)
 | 0,_,_,_,_,_,_,_,_,_,_,_,_,_,_,_,_,_,_=>none
 | n+1,z1,s2,s3,l4,z5,s6,l7,z8,s9,l10,l11,l12,l13,l14,z15,z16,z17,z18=>
  (if z17<z16 then Je n z1 s2 s3 l4 z5 s6 l7 z8 s9 l10 l11 l12 l13 l14 z15 z16 z17 z18 true else Je n z1 s2 s3 l4 z5 s6 l7 z8 s9 l10 l11 l12 l13 l14 z15 z16 z17 z18 false)
def Je:Nat->Int->BA->BA->LD->Int->BA->LD->Int->BA->LD->LD->LD->LD->LD->Int->Int->Int->Int->Bool->Option (Int)
 | 0,_,_,_,_,_,_,_,_,_,_,_,_,_,_,_,_,_,_,_=>none
 | n+1,z1,s2,s3,l4,z5,s6,l7,z8,s9,l10,l11,l12,l13,l14,z15,z16,z17,z18,b19=>
  (if b19=true then Ae l11 z17 fun x20=>Ao x20 fun z21 z22 s23 s24 s25 l26 l27 z28=>bO1 (bM n z21 z22 s23 s24 s25 l26 l27 z28) fun z29=>AE (IntKind.wrap .i64 (z18+z29)) fun z30=>AE (IntKind.wrap .i64 (z17+1)) fun z31=>Eo n z1 s2 s3 l4 z5 s6 l7 z8 s9 l10 l11 l12 l13 l14 z15 z16 z31 z30 else bO15 (gG n z1 s2 s3 l4 z5 s6 l7 z8 s9 l10 l11 l12 l13 l14 z15) fun z32 s33 s34 l35 z36 s37 l38 z39 s40 l41 l42 l43 l44 l45 z46=>bO16 (NL n z18 z32 s33 s34 l35 z36 s37 l38 z39 s40 l41 l42 l43 l44 l45 z46) fun z47 z48 s49 s50 l51 z52 s53 l54 z55 s56 l57 l58 l59 l60 l61 z62=>some z47)
def Yp:Nat->Int->BA->BA->LD->Int->BA->LD->Int->BA->LD->LD->LD->LD->LD->Int->Option (Int)
 | 0,_,_,_,_,_,_,_,_,_,_,_,_,_,_,_=>none
 | n+1,z1,s2,s3,l4,z5,s6,l7,z8,s9,l10,l11,l12,l13,l14,z15=>
  AB l11 fun z16=>Eo n z1 s2 s3 l4 z5 s6 l7 z8 s9 l10 l11 l12 l13 l14 z15 z16 (0:Int) (1:Int)
end
theorem kD (n:Nat):(∀⦃z1 s2 s3 l4 z5 s6 l7 z8 s9 l10 l11 l12 l13 l14 z15 z16 r1⦄,NK n z1 s2 s3 l4 z5 s6 l7 z8 s9 l10 l11 l12 l13 l14 z15 z16=some r1->
    DI Tryz.prog inv (Ic ()) [(3,.v (.c (.ptr (.ext 0) 0)))] [.d (.agg [.int .u8 z1,.str s2,.str s3,.list false 1 l4,.int .u8 z5,.str s6,.list true 3 l7,.int .i64 z8,.str s9,.list false 1 l10,.list true 8 l11,.list true 15 l12,.list true 15 l13,.list true 3 l14,.int .i64 z15])] [.cells [.d (.int .i64 z16)]] fun j p n=>j=none/\p=[.cells [.d (.int .i64 r1)]]/\n=[])/\
    (∀⦃z1 z2 s3 s4 l5 z6 s7 l8 z9 s10 l11 l12 l13 l14 l15 z16 r1 r2 r3 r4 r5 r6 r7 r8 r9 r10 r11 r12 r13 r14 r15 r16⦄,NL n z1 z2 s3 s4 l5 z6 s7 l8 z9 s10 l11 l12 l13 l14 l15 z16=some (r1,r2,r3,r4,r5,r6,r7,r8,r9,r10,r11,r12,r13,r14,r15,r16)->
    BB Tryz.prog inv 138 [.c (.yl (.ext 0)),.c (.ptr (.ext 2) 0)] [.rnd Ic [(3,.v (.c (.ptr (.ext 1) 0)))],.cells [.d (.int .i64 z1)],.cells [.d (.int .u8 z2),.d (.str s3),.d (.str s4),.d (.list false 1 l5),.d (.int .u8 z6),.d (.str s7),.d (.list true 3 l8),.d (.int .i64 z9),.d (.str s10),.d (.list false 1 l11),.d (.list true 8 l12),.d (.list true 15 l13),.d (.list true 15 l14),.d (.list true 3 l15),.d (.int .i64 z16)]] (.t []) [.rnd Ic [(3,.v (.c (.ptr (.ext 1) 0)))],.cells [.d (.int .i64 r1)],.cells [.d (.int .u8 r2),.d (.str r3),.d (.str r4),.d (.list false 1 r5),.d (.int .u8 r6),.d (.str r7),.d (.list true 3 r8),.d (.int .i64 r9),.d (.str r10),.d (.list false 1 r11),.d (.list true 8 r12),.d (.list true 15 r13),.d (.list true 15 r14),.d (.list true 3 r15),.d (.int .i64 r16)]] [])/\
    (∀⦃z1 s2 s3 l4 z5 s6 l7 z8 s9 l10 l11 l12 l13 l14 z15 r1⦄,Yp n z1 s2 s3 l4 z5 s6 l7 z8 s9 l10 l11 l12 l13 l14 z15=some r1->
    BB Tryz.prog inv 45 [.d (.agg [.int .u8 z1,.str s2,.str s3,.list false 1 l4,.int .u8 z5,.str s6,.list true 3 l7,.int .i64 z8,.str s9,.list false 1 l10,.list true 8 l11,.list true 15 l12,.list true 15 l13,.list true 3 l14,.int .i64 z15])] [] (.v (.d (.int .i64 r1))) [] []):=by
 induction n using Nat.strongRecOn with | _ n ih=>
 obtain _ | n:=n
 ·refine⟨?_,?_,?_⟩
  ·intro z1 s2 s3 l4 z5 s6 l7 z8 s9 l10 l11 l12 l13 l14 z15 z16 r1 h
   cases (show (none:Option _)=some _ from h)
  ·intro z1 z2 s3 s4 l5 z6 s7 l8 z9 s10 l11 l12 l13 l14 l15 z16 r1 r2 r3 r4 r5 r6 r7 r8 r9 r10 r11 r12 r13 r14 r15 r16 h
   cases (show (none:Option _)=some _ from h)
  intro z1 s2 s3 l4 z5 s6 l7 z8 s9 l10 l11 l12 l13 l14 z15 r1 h
  cases (show (none:Option _)=some _ from h)
 refine⟨?_,?_,?_⟩
 ·intro z1 s2 s3 l4 z5 s6 l7 z8 s9 l10 l11 l12 l13 l14 z15 z16 r1 h
  rw[NK]at h
  refine DI.uG BU BK Ht rfl rfl rfl rfl rfl (by kernel_rfl) (fun M hM hI=>?_)
  try cbv
  replace h:=Ai h
  obtain⟨z17,hr,h⟩:=h
  first | refine .inr (.inl ⟨[],?_⟩) | refine .inl ⟨[],?_⟩
  try cbv
  refine AU hM hI ((ih _ (by omega)).2.2 hr) rfl ?_
  clear hr
  try cbv
  replace h:=Aa h
  obtain⟨z18,hz,h⟩:=h
  refine⟨z18,hz,?_⟩
  clear hz
  try cbv
  refine drawn ?_ ?_
  ·show _=true
   kernel_rfl
  try cbv
  obtain rfl:=Option.some.inj h
  refine⟨_,_,⟨rfl,rfl,rfl⟩,[],?_⟩
  try cbv
  exact⟨[],rfl,⟨rfl,trivial⟩,trivial,trivial⟩
 ·intro z1 z2 s3 s4 l5 z6 s7 l8 z9 s10 l11 l12 l13 l14 l15 z16 r1 r2 r3 r4 r5 r6 r7 r8 r9 r10 r11 r12 r13 r14 r15 r16 h
  rw[NL]at h
  refine BB.of BU BK Ht Tryz.func138 rfl (by kernel_rfl) rfl rfl rfl (fun M hM hI=>?_)
  try cbv
  refine AD ?_
  try cbv
  refine AD ?_
  try cbv
  refine⟨false,?_⟩
  try cbv
  refine⟨true,?_⟩
  try cbv
  refine⟨2,(M.lenI_eq _).trans rfl,?_⟩
  try cbv
  refine CO (T:=Nat×Int×Int) [0,1,15,16,17] [.ext 0,.ext 1,.ext 2] 224 (fun t=>⟨[(0,.v (.c (.yl (.ext 0)))),sE 1 2,(15,.v (.c (.tl false 1 ([.list true 15 l13,.list true 15 l14])))),sI 16 2,sI 17 t.2.1],[(.ext 0,.rnd Ic [sE 3 1]),(.ext 1,.cells [.d (.int .i64 t.2.2)]),(.ext 2,.cells [.d (.int .u8 z2),.d (.str s3),.d (.str s4),.d (.list false 1 l5),.d (.int .u8 z6),.d (.str s7),.d (.list true 3 l8),.d (.int .i64 z9),.d (.str s10),.d (.list false 1 l11),.d (.list true 8 l12),.d (.list true 15 l13),.d (.list true 15 l14),.d (.list true 3 l15),.d (.int .i64 z16)])],224⟩)
    (fun t=>t.1<=n/\Ck t.1 z2 s3 s4 l5 z6 s7 l8 z9 s10 l11 l12 l13 l14 l15 z16 t.2.1 t.2.2=some (r1,r2,r3,r4,r5,r6,r7,r8,r9,r10,r11,r12,r13,r14,r15,r16)) (fun t=>t.1) (n,((0:Int),z1)) ⟨Nat.le_refl _,h⟩ (by cbv) ?_
  clear h
  rintro⟨m1,z17,z18⟩ ⟨hm1,h⟩
  replace hm1:m1<=n:=hm1
  obtain _ | m1:=m1
  ·replace h:Ck 0 z2 s3 s4 l5 z6 s7 l8 z9 s10 l11 l12 l13 l14 l15 z16 z17 z18=some (r1,r2,r3,r4,r5,r6,r7,r8,r9,r10,r11,r12,r13,r14,r15,r16):=h
   rw[Ck]at h
   cases h
  replace h:Ck (m1+1) z2 s3 s4 l5 z6 s7 l8 z9 s10 l11 l12 l13 l14 l15 z16 z17 z18=some (r1,r2,r3,r4,r5,r6,r7,r8,r9,r10,r11,r12,r13,r14,r15,r16):=h
  rw[Ck]at h
  try cbv
  refine AJ 18 [0,1,15,16,17,18] [.ext 0,.ext 1,.ext 2] 256 (fun m b=>m<=m1/\C7 m z2 s3 s4 l5 z6 s7 l8 z9 s10 l11 l12 l13 l14 l15 z16 z17 z18 b=some (r1,r2,r3,r4,r5,r6,r7,r8,r9,r10,r11,r12,r13,r14,r15,r16)) ?_ ?_
  ·try cbv
   refine B1 (fun e=>?_) (fun e=>?_)
   ·replace h:=Ag e h
    clear e
    try cbv
    exact AA (m1,true) [0,1,15,16,17,18] [.ext 0,.ext 1,.ext 2] 256 ⟨by omega,h⟩ (by cbv)
   replace h:=Ah (Int.not_lt.2 e) h
   clear e
   try cbv
   exact AA (m1,false) [0,1,15,16,17,18] [.ext 0,.ext 1,.ext 2] 256 ⟨by omega,h⟩ (by cbv)
  clear h
  rintro⟨m2,b19⟩ ⟨hm2,h⟩
  try cbv
  replace hm2:m2<=m1:=hm2
  obtain _ | m2:=m2
  ·replace h:C7 0 z2 s3 s4 l5 z6 s7 l8 z9 s10 l11 l12 l13 l14 l15 z16 z17 z18 b19=some (r1,r2,r3,r4,r5,r6,r7,r8,r9,r10,r11,r12,r13,r14,r15,r16):=h
   rw[C7]at h
   cases h
  replace h:C7 (m2+1) z2 s3 s4 l5 z6 s7 l8 z9 s10 l11 l12 l13 l14 l15 z16 z17 z18 b19=some (r1,r2,r3,r4,r5,r6,r7,r8,r9,r10,r11,r12,r13,r14,r15,r16):=h
  rw[C7]at h
  try cbv
  refine AD ?_
  try cbv
  cases b19
  rotate_left
  ·replace h:=Bx h
   try cbv
   refine AD ?_
   try cbv
   refine AD ?_
   try cbv
   replace h:=Az h
   obtain⟨x20,⟨hx0,hx⟩,h⟩:=h
   refine⟨x20,hx0,hx,?_⟩
   clear hx0 hx
   replace h:=DY h
   obtain⟨l21,rfl,h⟩:=h
   try cbv
   refine AD ?_
   try cbv
   replace h:=BQ M h
   obtain⟨z22,hz,h⟩:=h
   refine⟨z22,hz,?_⟩
   clear hz
   try cbv
   refine CO (T:=Nat×Int×Int) [0,1,15,16,17,21,22,23] [.ext 0,.ext 1,.ext 2] 448 (fun t=>⟨[(0,.v (.c (.yl (.ext 0)))),sE 1 2,(15,.v (.c (.tl false 1 ([.list true 15 l13,.list true 15 l14])))),sI 16 2,sI 17 z17,sT 21 15 l21,sI 22 z22,sI 23 t.2.1],[(.ext 0,.rnd Ic [sE 3 1]),(.ext 1,.cells [.d (.int .i64 t.2.2)]),(.ext 2,.cells [.d (.int .u8 z2),.d (.str s3),.d (.str s4),.d (.list false 1 l5),.d (.int .u8 z6),.d (.str s7),.d (.list true 3 l8),.d (.int .i64 z9),.d (.str s10),.d (.list false 1 l11),.d (.list true 8 l12),.d (.list true 15 l13),.d (.list true 15 l14),.d (.list true 3 l15),.d (.int .i64 z16)])],448⟩)
     (fun t=>t.1<=m2/\C8 t.1 z2 s3 s4 l5 z6 s7 l8 z9 s10 l11 l12 l13 l14 l15 z16 z17 l21 z22 t.2.1 t.2.2=some (r1,r2,r3,r4,r5,r6,r7,r8,r9,r10,r11,r12,r13,r14,r15,r16)) (fun t=>t.1) (m2,((0:Int),z18)) ⟨Nat.le_refl _,h⟩ (by cbv) ?_
   clear h
   rintro⟨m3,z23,z24⟩ ⟨hm3,h⟩
   replace hm3:m3<=m2:=hm3
   obtain _ | m3:=m3
   ·replace h:C8 0 z2 s3 s4 l5 z6 s7 l8 z9 s10 l11 l12 l13 l14 l15 z16 z17 l21 z22 z23 z24=some (r1,r2,r3,r4,r5,r6,r7,r8,r9,r10,r11,r12,r13,r14,r15,r16):=h
    rw[C8]at h
    cases h
   replace h:C8 (m3+1) z2 s3 s4 l5 z6 s7 l8 z9 s10 l11 l12 l13 l14 l15 z16 z17 l21 z22 z23 z24=some (r1,r2,r3,r4,r5,r6,r7,r8,r9,r10,r11,r12,r13,r14,r15,r16):=h
   rw[C8]at h
   try cbv
   refine AJ 24 [0,1,15,16,17,21,22,23,24] [.ext 0,.ext 1,.ext 2] 480 (fun m b=>m<=m3/\Dc m z2 s3 s4 l5 z6 s7 l8 z9 s10 l11 l12 l13 l14 l15 z16 z17 l21 z22 z23 z24 b=some (r1,r2,r3,r4,r5,r6,r7,r8,r9,r10,r11,r12,r13,r14,r15,r16)) ?_ ?_
   ·try cbv
    refine B1 (fun e=>?_) (fun e=>?_)
    ·replace h:=Ag e h
     clear e
     try cbv
     exact AA (m3,true) [0,1,15,16,17,21,22,23,24] [.ext 0,.ext 1,.ext 2] 480 ⟨by omega,h⟩ (by cbv)
    replace h:=Ah (Int.not_lt.2 e) h
    clear e
    try cbv
    exact AA (m3,false) [0,1,15,16,17,21,22,23,24] [.ext 0,.ext 1,.ext 2] 480 ⟨by omega,h⟩ (by cbv)
   clear h
   rintro⟨m4,b25⟩ ⟨hm4,h⟩
   try cbv
   replace hm4:m4<=m3:=hm4
   obtain _ | m4:=m4
   ·replace h:Dc 0 z2 s3 s4 l5 z6 s7 l8 z9 s10 l11 l12 l13 l14 l15 z16 z17 l21 z22 z23 z24 b25=some (r1,r2,r3,r4,r5,r6,r7,r8,r9,r10,r11,r12,r13,r14,r15,r16):=h
    rw[Dc]at h
    cases h
   replace h:Dc (m4+1) z2 s3 s4 l5 z6 s7 l8 z9 s10 l11 l12 l13 l14 l15 z16 z17 l21 z22 z23 z24 b25=some (r1,r2,r3,r4,r5,r6,r7,r8,r9,r10,r11,r12,r13,r14,r15,r16):=h
   rw[Dc]at h
   try cbv
   refine AD ?_
   try cbv
   cases b25
   ·replace h:=Bz h
    try cbv
    replace h:=Aa h
    obtain⟨z44,hz,h⟩:=h
    refine⟨z44,hz,?_⟩
    clear hz
    try cbv
    exact BT (m4,(z44,z24)) [0,1,15,16,17] [.ext 0,.ext 1,.ext 2] 224 ⟨by omega,h⟩ (Nat.lt_succ_of_le (by omega)) (by cbv)
   replace h:=Bx h
   try cbv
   refine AD ?_
   try cbv
   refine AD ?_
   try cbv
   replace h:=Az h
   obtain⟨x26,⟨hx0,hx⟩,h⟩:=h
   refine⟨x26,hx0,hx,?_⟩
   clear hx0 hx
   replace h:=Bb h
   obtain⟨z27,s28,s29,l30,z31,s32,l33,z34,s35,l36,l37,l38,l39,l40,z41,rfl,h⟩:=h
   try cbv
   refine AD ?_
   try cbv
   replace h:=Ai h
   obtain⟨z42,hr,h⟩:=h
   refine Lr hM hI [.ext 1] (sl0:=[(3,.v (.c (.ptr (.ext 0) 0)))]) rfl rfl rfl rfl ((ih _ (by omega)).1 hr) rfl rfl rfl (by simp) ⟨rfl,trivial⟩ ⟨trivial,trivial⟩ (by simp) ?_
   clear hr
   try cbv
   refine⟨false,rfl,?_⟩
   try cbv
   replace h:=Aa h
   obtain⟨z43,hz,h⟩:=h
   refine⟨z43,hz,?_⟩
   clear hz
   try cbv
   exact BT (m4,(z43,z42)) [0,1,15,16,17,21,22,23] [.ext 0,.ext 1,.ext 2] 448 ⟨by omega,h⟩ (Nat.lt_succ_of_le (by omega)) (by cbv)
  replace h:=Bz h
  try cbv
  refine AD ?_
  try cbv
  replace h:=BQ M h
  obtain⟨z45,hz,h⟩:=h
  refine⟨z45,hz,?_⟩
  clear hz
  try cbv
  refine CO (T:=Nat×Int×Int) [0,34,35,36] [.ext 0,.ext 1,.ext 2] 384 (fun t=>⟨[(0,.v (.c (.yl (.ext 0)))),sT 34 3 l15,sI 35 z45,sI 36 t.2.1],[(.ext 0,.rnd Ic [sE 3 1]),(.ext 1,.cells [.d (.int .i64 t.2.2)]),(.ext 2,.cells [.d (.int .u8 z2),.d (.str s3),.d (.str s4),.d (.list false 1 l5),.d (.int .u8 z6),.d (.str s7),.d (.list true 3 l8),.d (.int .i64 z9),.d (.str s10),.d (.list false 1 l11),.d (.list true 8 l12),.d (.list true 15 l13),.d (.list true 15 l14),.d (.list true 3 l15),.d (.int .i64 z16)])],384⟩)
    (fun t=>t.1<=m2/\Cm t.1 z2 s3 s4 l5 z6 s7 l8 z9 s10 l11 l12 l13 l14 l15 z16 z45 t.2.1 t.2.2=some (r1,r2,r3,r4,r5,r6,r7,r8,r9,r10,r11,r12,r13,r14,r15,r16)) (fun t=>t.1) (m2,((0:Int),z18)) ⟨Nat.le_refl _,h⟩ (by cbv) ?_
  clear h
  rintro⟨m5,z46,z47⟩ ⟨hm5,h⟩
  replace hm5:m5<=m2:=hm5
  obtain _ | m5:=m5
  ·replace h:Cm 0 z2 s3 s4 l5 z6 s7 l8 z9 s10 l11 l12 l13 l14 l15 z16 z45 z46 z47=some (r1,r2,r3,r4,r5,r6,r7,r8,r9,r10,r11,r12,r13,r14,r15,r16):=h
   rw[Cm]at h
   cases h
  replace h:Cm (m5+1) z2 s3 s4 l5 z6 s7 l8 z9 s10 l11 l12 l13 l14 l15 z16 z45 z46 z47=some (r1,r2,r3,r4,r5,r6,r7,r8,r9,r10,r11,r12,r13,r14,r15,r16):=h
  rw[Cm]at h
  try cbv
  refine AJ 37 [0,34,35,36,37] [.ext 0,.ext 1,.ext 2] 416 (fun m b=>m<=m5/\Dd m z2 s3 s4 l5 z6 s7 l8 z9 s10 l11 l12 l13 l14 l15 z16 z45 z46 z47 b=some (r1,r2,r3,r4,r5,r6,r7,r8,r9,r10,r11,r12,r13,r14,r15,r16)) ?_ ?_
  ·try cbv
   refine B1 (fun e=>?_) (fun e=>?_)
   ·replace h:=Ag e h
    clear e
    try cbv
    exact AA (m5,true) [0,34,35,36,37] [.ext 0,.ext 1,.ext 2] 416 ⟨by omega,h⟩ (by cbv)
   replace h:=Ah (Int.not_lt.2 e) h
   clear e
   try cbv
   exact AA (m5,false) [0,34,35,36,37] [.ext 0,.ext 1,.ext 2] 416 ⟨by omega,h⟩ (by cbv)
  clear h
  rintro⟨m6,b48⟩ ⟨hm6,h⟩
  try cbv
  replace hm6:m6<=m5:=hm6
  obtain _ | m6:=m6
  ·replace h:Dd 0 z2 s3 s4 l5 z6 s7 l8 z9 s10 l11 l12 l13 l14 l15 z16 z45 z46 z47 b48=some (r1,r2,r3,r4,r5,r6,r7,r8,r9,r10,r11,r12,r13,r14,r15,r16):=h
   rw[Dd]at h
   cases h
  replace h:Dd (m6+1) z2 s3 s4 l5 z6 s7 l8 z9 s10 l11 l12 l13 l14 l15 z16 z45 z46 z47 b48=some (r1,r2,r3,r4,r5,r6,r7,r8,r9,r10,r11,r12,r13,r14,r15,r16):=h
  rw[Dd]at h
  try cbv
  refine AD ?_
  try cbv
  cases b48
  ·replace h:=Bz h
   try cbv
   obtain⟨rfl,rfl,rfl,rfl,rfl,rfl,rfl,rfl,rfl,rfl,rfl,rfl,rfl,rfl,rfl,rfl⟩:=aZ h
   refine AZ ?_
   try cbv
   exact⟨[],rfl,rfl,⟨rfl,⟨rfl,⟨rfl,trivial⟩⟩⟩,trivial,trivial⟩
  replace h:=Bx h
  try cbv
  refine AD ?_
  try cbv
  refine AD ?_
  try cbv
  replace h:=Az h
  obtain⟨x49,⟨hx0,hx⟩,h⟩:=h
  refine⟨x49,hx0,hx,?_⟩
  clear hx0 hx
  replace h:=GD h
  obtain⟨s50,s51,l52,rfl,h⟩:=h
  try cbv
  refine AD ?_
  try cbv
  replace h:=BQ M h
  obtain⟨z53,hz,h⟩:=h
  refine⟨z53,hz,?_⟩
  clear hz
  try cbv
  refine CO (T:=Nat×Int×Int) [0,34,35,36,41,42,43] [.ext 0,.ext 1,.ext 2] 672 (fun t=>⟨[(0,.v (.c (.yl (.ext 0)))),sT 34 3 l15,sI 35 z45,sI 36 z46,sT 41 15 l52,sI 42 z53,sI 43 t.2.1],[(.ext 0,.rnd Ic [sE 3 1]),(.ext 1,.cells [.d (.int .i64 t.2.2)]),(.ext 2,.cells [.d (.int .u8 z2),.d (.str s3),.d (.str s4),.d (.list false 1 l5),.d (.int .u8 z6),.d (.str s7),.d (.list true 3 l8),.d (.int .i64 z9),.d (.str s10),.d (.list false 1 l11),.d (.list true 8 l12),.d (.list true 15 l13),.d (.list true 15 l14),.d (.list true 3 l15),.d (.int .i64 z16)])],672⟩)
    (fun t=>t.1<=m6/\C9 t.1 z2 s3 s4 l5 z6 s7 l8 z9 s10 l11 l12 l13 l14 l15 z16 z45 z46 l52 z53 t.2.1 t.2.2=some (r1,r2,r3,r4,r5,r6,r7,r8,r9,r10,r11,r12,r13,r14,r15,r16)) (fun t=>t.1) (m6,((0:Int),z47)) ⟨Nat.le_refl _,h⟩ (by cbv) ?_
  clear h
  rintro⟨m7,z54,z55⟩ ⟨hm7,h⟩
  replace hm7:m7<=m6:=hm7
  obtain _ | m7:=m7
  ·replace h:C9 0 z2 s3 s4 l5 z6 s7 l8 z9 s10 l11 l12 l13 l14 l15 z16 z45 z46 l52 z53 z54 z55=some (r1,r2,r3,r4,r5,r6,r7,r8,r9,r10,r11,r12,r13,r14,r15,r16):=h
   rw[C9]at h
   cases h
  replace h:C9 (m7+1) z2 s3 s4 l5 z6 s7 l8 z9 s10 l11 l12 l13 l14 l15 z16 z45 z46 l52 z53 z54 z55=some (r1,r2,r3,r4,r5,r6,r7,r8,r9,r10,r11,r12,r13,r14,r15,r16):=h
  rw[C9]at h
  try cbv
  refine AJ 44 [0,34,35,36,41,42,43,44] [.ext 0,.ext 1,.ext 2] 704 (fun m b=>m<=m7/\De m z2 s3 s4 l5 z6 s7 l8 z9 s10 l11 l12 l13 l14 l15 z16 z45 z46 l52 z53 z54 z55 b=some (r1,r2,r3,r4,r5,r6,r7,r8,r9,r10,r11,r12,r13,r14,r15,r16)) ?_ ?_
  ·try cbv
   refine B1 (fun e=>?_) (fun e=>?_)
   ·replace h:=Ag e h
    clear e
    try cbv
    exact AA (m7,true) [0,34,35,36,41,42,43,44] [.ext 0,.ext 1,.ext 2] 704 ⟨by omega,h⟩ (by cbv)
   replace h:=Ah (Int.not_lt.2 e) h
   clear e
   try cbv
   exact AA (m7,false) [0,34,35,36,41,42,43,44] [.ext 0,.ext 1,.ext 2] 704 ⟨by omega,h⟩ (by cbv)
  clear h
  rintro⟨m8,b56⟩ ⟨hm8,h⟩
  try cbv
  replace hm8:m8<=m7:=hm8
  obtain _ | m8:=m8
  ·replace h:De 0 z2 s3 s4 l5 z6 s7 l8 z9 s10 l11 l12 l13 l14 l15 z16 z45 z46 l52 z53 z54 z55 b56=some (r1,r2,r3,r4,r5,r6,r7,r8,r9,r10,r11,r12,r13,r14,r15,r16):=h
   rw[De]at h
   cases h
  replace h:De (m8+1) z2 s3 s4 l5 z6 s7 l8 z9 s10 l11 l12 l13 l14 l15 z16 z45 z46 l52 z53 z54 z55 b56=some (r1,r2,r3,r4,r5,r6,r7,r8,r9,r10,r11,r12,r13,r14,r15,r16):=h
  rw[De]at h
  try cbv
  refine AD ?_
  try cbv
  cases b56
  ·replace h:=Bz h
   try cbv
   replace h:=Aa h
   obtain⟨z75,hz,h⟩:=h
   refine⟨z75,hz,?_⟩
   clear hz
   try cbv
   exact BT (m8,(z75,z55)) [0,34,35,36] [.ext 0,.ext 1,.ext 2] 384 ⟨by omega,h⟩ (Nat.lt_succ_of_le (by omega)) (by cbv)
  replace h:=Bx h
  try cbv
  refine AD ?_
  try cbv
  refine AD ?_
  try cbv
  replace h:=Az h
  obtain⟨x57,⟨hx0,hx⟩,h⟩:=h
  refine⟨x57,hx0,hx,?_⟩
  clear hx0 hx
  replace h:=Bb h
  obtain⟨z58,s59,s60,l61,z62,s63,l64,z65,s66,l67,l68,l69,l70,l71,z72,rfl,h⟩:=h
  try cbv
  refine AD ?_
  try cbv
  replace h:=Ai h
  obtain⟨z73,hr,h⟩:=h
  refine Lr hM hI [.ext 1] (sl0:=[(3,.v (.c (.ptr (.ext 0) 0)))]) rfl rfl rfl rfl ((ih _ (by omega)).1 hr) rfl rfl rfl (by simp) ⟨rfl,trivial⟩ ⟨trivial,trivial⟩ (by simp) ?_
  clear hr
  try cbv
  refine⟨false,rfl,?_⟩
  try cbv
  replace h:=Aa h
  obtain⟨z74,hz,h⟩:=h
  refine⟨z74,hz,?_⟩
  clear hz
  try cbv
  exact BT (m8,(z74,z73)) [0,34,35,36,41,42,43] [.ext 0,.ext 1,.ext 2] 672 ⟨by omega,h⟩ (Nat.lt_succ_of_le (by omega)) (by cbv)
 intro z1 s2 s3 l4 z5 s6 l7 z8 s9 l10 l11 l12 l13 l14 z15 r1 h
 rw[Yp]at h
 refine BB.of BU BK Ht Tryz.func45 rfl (by kernel_rfl) rfl rfl rfl (fun M hM hI=>?_)
 try cbv
 refine AD ?_
 try cbv
 refine AD ?_
 try cbv
 refine AD ?_
 try cbv
 refine AD ?_
 try cbv
 replace h:=BQ M h
 obtain⟨z16,hz,h⟩:=h
 refine⟨z16,hz,?_⟩
 clear hz
 try cbv
 refine CO (T:=Nat×Int×Int) [1,2,3,8,9,10] [.loc 0,.loc 64] 256 (fun t=>⟨[sL 1 0,sI 2 0,sL 3 64,sT 8 8 l11,sI 9 z16,sI 10 t.2.1],[(.loc 0,.cells [.d (.int .u8 z1),.d (.str s2),.d (.str s3),.d (.list false 1 l4),.d (.int .u8 z5),.d (.str s6),.d (.list true 3 l7),.d (.int .i64 z8),.d (.str s9),.d (.list false 1 l10),.d (.list true 8 l11),.d (.list true 15 l12),.d (.list true 15 l13),.d (.list true 3 l14),.d (.int .i64 z15)]),(.loc 64,.cells [.d (.int .i64 t.2.2)])],256⟩)
   (fun t=>t.1<=n/\Eo t.1 z1 s2 s3 l4 z5 s6 l7 z8 s9 l10 l11 l12 l13 l14 z15 z16 t.2.1 t.2.2=some r1) (fun t=>t.1) (n,((0:Int),(1:Int))) ⟨Nat.le_refl _,h⟩ (by cbv) ?_
 clear h
 rintro⟨m1,z17,z18⟩ ⟨hm1,h⟩
 replace hm1:m1<=n:=hm1
 obtain _ | m1:=m1
 ·replace h:Eo 0 z1 s2 s3 l4 z5 s6 l7 z8 s9 l10 l11 l12 l13 l14 z15 z16 z17 z18=some r1:=h
  rw[Eo]at h
  cases h
 replace h:Eo (m1+1) z1 s2 s3 l4 z5 s6 l7 z8 s9 l10 l11 l12 l13 l14 z15 z16 z17 z18=some r1:=h
 rw[Eo]at h
 try cbv
 refine AJ 11 [1,2,3,8,9,10,11] [.loc 0,.loc 64] 288 (fun m b=>m<=m1/\Je m z1 s2 s3 l4 z5 s6 l7 z8 s9 l10 l11 l12 l13 l14 z15 z16 z17 z18 b=some r1) ?_ ?_
 ·try cbv
  refine B1 (fun e=>?_) (fun e=>?_)
  ·replace h:=Ag e h
   clear e
   try cbv
   exact AA (m1,true) [1,2,3,8,9,10,11] [.loc 0,.loc 64] 288 ⟨by omega,h⟩ (by cbv)
  replace h:=Ah (Int.not_lt.2 e) h
  clear e
  try cbv
  exact AA (m1,false) [1,2,3,8,9,10,11] [.loc 0,.loc 64] 288 ⟨by omega,h⟩ (by cbv)
 clear h
 rintro⟨m2,b19⟩ ⟨hm2,h⟩
 try cbv
 replace hm2:m2<=m1:=hm2
 obtain _ | m2:=m2
 ·replace h:Je 0 z1 s2 s3 l4 z5 s6 l7 z8 s9 l10 l11 l12 l13 l14 z15 z16 z17 z18 b19=some r1:=h
  rw[Je]at h
  cases h
 replace h:Je (m2+1) z1 s2 s3 l4 z5 s6 l7 z8 s9 l10 l11 l12 l13 l14 z15 z16 z17 z18 b19=some r1:=h
 rw[Je]at h
 try cbv
 refine AD ?_
 try cbv
 cases b19
 ·replace h:=Bz h
  try cbv
  refine AD ?_
  try cbv
  refine AD ?_
  try cbv
  replace h:=SP h
  obtain⟨z32,s33,s34,l35,z36,s37,l38,z39,s40,l41,l42,l43,l44,l45,z46,hr,h⟩:=h
  refine An rfl rfl ?_
  try cbv
  refine Cs hM hI [] (sC _ hr) rfl (by simp) trivial trivial (by simp) ?_
  clear hr
  try cbv
  replace h:=SQ h
  obtain⟨z47,z48,s49,s50,l51,z52,s53,l54,z55,s56,l57,l58,l59,l60,l61,z62,hr,h⟩:=h
  refine Mt hM hI [.loc 352,.loc 64,.loc 320] [(3,.v (.c (.ptr (.loc 64) 0)))] rfl ⟨rfl,trivial⟩ ((ih _ (by omega)).2.1 hr) rfl (by simp) ⟨rfl,⟨rfl,⟨rfl,trivial⟩⟩⟩ ⟨trivial,⟨trivial,⟨trivial,trivial⟩⟩⟩ (by simp) ?_
  clear hr
  try cbv
  refine AD ?_
  try cbv
  obtain rfl:=Option.some.inj h
  refine AZ ?_
  try cbv
  exact⟨[],by trivial⟩
 replace h:=Bx h
 try cbv
 refine AD ?_
 try cbv
 refine AD ?_
 try cbv
 replace h:=Az h
 obtain⟨x20,⟨hx0,hx⟩,h⟩:=h
 refine⟨x20,hx0,hx,?_⟩
 clear hx0 hx
 replace h:=Ei h
 obtain⟨z21,z22,s23,s24,s25,l26,l27,z28,rfl,h⟩:=h
 try cbv
 replace h:=Ai h
 obtain⟨z29,hr,h⟩:=h
 first | refine .inr (.inl ⟨[],?_⟩) | refine .inl ⟨[],?_⟩
 try cbv
 refine AU hM hI (wR _ hr) rfl ?_
 clear hr
 try cbv
 replace h:=Aa h
 obtain⟨z30,hz,h⟩:=h
 refine⟨z30,hz,?_⟩
 clear hz
 try cbv
 refine drawn ?_ ?_
 ·show _=true
  kernel_rfl
 try cbv
 replace h:=Aa h
 obtain⟨z31,hz,h⟩:=h
 refine⟨z31,hz,?_⟩
 clear hz
 try cbv
 exact BT (m2,(z31,z30)) [1,2,3,8,9,10] [.loc 0,.loc 64] 256 ⟨by omega,h⟩ (Nat.lt_succ_of_le (by omega)) (by cbv)
theorem wS (n:Nat):∀⦃z1 s2 s3 l4 z5 s6 l7 z8 s9 l10 l11 l12 l13 l14 z15 r1⦄,Yp n z1 s2 s3 l4 z5 s6 l7 z8 s9 l10 l11 l12 l13 l14 z15=some r1->
  BB Tryz.prog inv 45 [.d (.agg [.int .u8 z1,.str s2,.str s3,.list false 1 l4,.int .u8 z5,.str s6,.list true 3 l7,.int .i64 z8,.str s9,.list false 1 l10,.list true 8 l11,.list true 15 l12,.list true 15 l13,.list true 3 l14,.int .i64 z15])] [] (.v (.d (.int .i64 r1))) [] []:=(kD n).2.2
noncomputable def wT:BW:=⟨45,[.agg [.y,.str,.str,.f 1,.y,.str,.q 3,.z,.str,.f 1,.q 8,.q 15,.q 15,.q 3,.z]],[],[⟨.one (.z),[],[]⟩],Int,inferInstance,Yp⟩
noncomputable def wU:Kz:=⟨wT,fun n=>Di fun z1 s2 s3 l4 z5 s6 l7 z8 s9 l10 l11 l12 l13 l14 z15 p h w1 w2 w4 w3 l1 l2 e1 e2 e5 e3 xs e4=>by cases e1;cases e2;cases e4;cases e5;cases e3;exact wS n h⟩
mutual
def LL:Nat->LD->Int->Int->Int->Option (Int)
 | 0,_,_,_,_=>none
 | n+1,l1,z2,z3,z4=>
  (if z4<z2 then PK n l1 z2 z3 z4 true else PK n l1 z2 z3 z4 false)
def PK:Nat->LD->Int->Int->Int->Bool->Option (Int)
 | 0,_,_,_,_,_=>none
 | n+1,l1,z2,z3,z4,b5=>
  (if b5=true then Ae l1 z4 fun x6=>Bd x6 fun z7 s8 l9 z10 s11 l12 l13 z14 z15 s16 s17 s18 l19 l20 z21 z22=>AE (IntKind.wrap .i64 (z3+1)) fun z23=>(if z7=(3:Int)then S0 n l1 z2 z4 l13 z14 z15 s16 s17 s18 l19 l20 z21 z23 true else S0 n l1 z2 z4 l13 z14 z15 s16 s17 s18 l19 l20 z21 z23 false)else some z3)
def S0:Nat->LD->Int->Int->LD->Int->Int->BA->BA->BA->LD->LD->Int->Int->Bool->Option (Int)
 | 0,_,_,_,_,_,_,_,_,_,_,_,_,_,_=>none
 | n+1,l1,z2,z4,l13,z14,z15,s16,s17,s18,l19,l20,z21,z23,b24=>
  (if b24=true then bO1 (bM n z14 z15 s16 s17 s18 l19 l20 z21) fun z25=>AE (IntKind.wrap .i64 (z23+z25)) fun z26=>S1 n l1 z2 z4 l13 z26 else S1 n l1 z2 z4 l13 z23)
def S1:Nat->LD->Int->Int->LD->Int->Option (Int)
 | 0,_,_,_,_,_=>none
 | n+1,l1,z2,z4,l13,z27=>
  AB l13 fun z28=>PL n l1 z2 z4 l13 z28 z27 (0:Int)
def PL:Nat->LD->Int->Int->LD->Int->Int->Int->Option (Int)
 | 0,_,_,_,_,_,_,_=>none
 | n+1,l1,z2,z4,l13,z28,z29,z30=>
  (if z30<z28 then S2 n l1 z2 z4 l13 z28 z29 z30 true else S2 n l1 z2 z4 l13 z28 z29 z30 false)
def S2:Nat->LD->Int->Int->LD->Int->Int->Int->Bool->Option (Int)
 | 0,_,_,_,_,_,_,_,_=>none
 | n+1,l1,z2,z4,l13,z28,z29,z30,b31=>
  (if b31=true then Ae l13 z30 fun x32=>Af x32 fun z33 s34 s35 l36 z37 s38 l39 z40 s41 l42 l43 l44 l45 l46 z47=>bO1 (Yp n z33 s34 s35 l36 z37 s38 l39 z40 s41 l42 l43 l44 l45 l46 z47) fun z48=>AE (IntKind.wrap .i64 (z29+z48)) fun z49=>AE (IntKind.wrap .i64 (z30+1)) fun z50=>PL n l1 z2 z4 l13 z28 z49 z50 else AE (IntKind.wrap .i64 (z4+1)) fun z51=>LL n l1 z2 z29 z51)
end
def mY (n:Nat) (l1:LD):Option (Int):=
 AB l1 fun z2=>LL n l1 z2 (0:Int) (0:Int)
noncomputable def wV:BS:=⟨14,Tryz.f14,[.agg [.q 16]],[],⟨.one (.z),[],[]⟩,Int,inferInstance,mY,[⟨58,[2,3,9,10,11],[],224,[.k 0,.z,.q 16,.z,.z],[],fun n z3 l1 z2 z4=>LL n l1 z2 z3 z4⟩,
 ⟨233,[2,3,9,10,11,12],[],256,[.k 0,.z,.q 16,.z,.z,.b],[],fun n z3 l1 z2 z4 b5=>PK n l1 z2 z3 z4 b5⟩,
 ⟨29901,[2,3,5,9,10,11,19],[.loc 320],576,[.k 0,.z,.p (.loc 320) 0,.q 16,.z,.z,.b],[[.y,.str,.q 4,.y,.str,.q 3,.q 15,.y,.z,.str,.str,.str,.f 1,.q 8,.z,.z]],fun n z23 l1 z2 z4 b24 _ _ _ _ _ _ l13 z14 z15 s16 s17 s18 l19 l20 z21 _=>S0 n l1 z2 z4 l13 z14 z15 s16 s17 s18 l19 l20 z21 z23 b24⟩,
 ⟨14951,[2,3,5,9,10,11],[.loc 320],768,[.k 0,.z,.p (.loc 320) 0,.q 16,.z,.z],[[.y,.str,.q 4,.y,.str,.q 3,.q 15,.y,.z,.str,.str,.str,.f 1,.q 8,.z,.z]],fun n z27 l1 z2 z4 _ _ _ _ _ _ l13 _ _ _ _ _ _ _ _ _=>S1 n l1 z2 z4 l13 z27⟩,
 ⟨59806,[2,3,9,10,11,26,27,28],[],896,[.k 0,.z,.q 16,.z,.z,.q 15,.z,.z],[],fun n z29 l1 z2 z4 l13 z28 z30=>PL n l1 z2 z4 l13 z28 z29 z30⟩,
 ⟨239225,[2,3,9,10,11,26,27,28,29],[],928,[.k 0,.z,.q 16,.z,.z,.q 15,.z,.z,.b],[],fun n z29 l1 z2 z4 l13 z28 z30 b31=>S2 n l1 z2 z4 l13 z28 z29 z30 b31⟩]⟩
noncomputable def wW:Kz:=sg wV [sG,wU] Tryz.func14 (by kernel_rfl) (by kernel_rfl) (by kernel_rfl)
end Go.Proofs.YtjmofeakajdbiaaGreatDoor
end
namespace Go.AM
open Go
def Ev {α:Type}(A:Nat→Option α) (r:α):Prop:=∃N,∀n,N≤n→A n=some r
section
variable {α β γ:Type}
theorem Ev.ret {r:α}:Ev (fun _=>some r) r:=⟨0,fun _ _=>rfl⟩
theorem Ev.of {A:Nat→Option α}{r:α}(h:∀n,A n=some r):Ev A r:=⟨0,fun n _=>h n⟩
theorem Ev.succ {A:Nat→Option α}{r:α}(h:Ev (fun n=>A (n+1)) r):Ev A r:=by
 obtain⟨N,h⟩:=h
 refine⟨N+1,fun n hn=>?_⟩
 obtain⟨m,rfl⟩:∃m,n=m+1:=⟨n - 1,by omega⟩
 exact h m (by omega)
theorem Ev.congr {A B:Nat→Option α}{r:α}(h:Ev A r) (e:∀n,A n=B n):Ev B r:=by
 obtain⟨N,h⟩:=h
 exact⟨N,fun n hn=>(e n)▸h n hn⟩
theorem Ev.bO1 {A:Nat→Option α}{a:α}{k:Nat→α→Option γ}{r:γ}(ha:Ev A a) (hk:Ev (fun n=>k n a) r):Ev (fun n=>bO1 (A n) (k n)) r:=by
 obtain⟨N,ha⟩:=ha
 obtain⟨M,hk⟩:=hk
 refine⟨N+M,fun n hn=>?_⟩
 show Go.AM.bO1 (A n) (k n)=some r
 rw[ha n (by omega)]
 exact hk n (by omega)
theorem Ev.bO2 {A:Nat→Option (α×β)}{a:α}{b:β}{k:Nat→α→β→Option γ}{r:γ}(ha:Ev A (a,b)) (hk:Ev (fun n=>k n a b) r):Ev (fun n=>bO2 (A n) (k n)) r:=by
 obtain⟨N,ha⟩:=ha
 obtain⟨M,hk⟩:=hk
 refine⟨N+M,fun n hn=>?_⟩
 show Go.AM.bO2 (A n) (k n)=some r
 rw[ha n (by omega)]
 exact hk n (by omega)
theorem Ev.run {A:Nat→Option α}{r:α}(h:Ev A r):∃n,A n=some r:=let ⟨N,h⟩:=h;⟨N,h N (Nat.le_refl _)⟩
theorem Ev.uniq {A:Nat→Option α}{r s:α}(h:Ev A r) (h':Ev A s):r=s:=by
 obtain⟨N,h⟩:=h
 obtain⟨M,h'⟩:=h'
 have a:=h (N+M) (by omega)
 rw[h' (N+M) (by omega)]at a
 exact (Option.some.inj a).symm
def LM (A B:Nat→Option α):Prop:=∃r,Ev A r∧Ev B r
def Total (A:Nat→Option α):Prop:=∃r,Ev A r
theorem down {P:Nat→Prop}(N:Nat) (h0:P N) (h:∀i,i<N→P (i+1)→P i):∀i,i≤N→P i:=by
 intro i hi
 obtain⟨d,hd⟩:∃d,d=N - i:=⟨_,rfl⟩
 induction d generalizing i with
 | zero=>
      obtain rfl:i=N:=by omega
      exact h0
 | succ d ih=>exact h i (by omega) (ih (i+1) (by omega) (by omega))
end
section
variable {γ:Type}
theorem AG {L:List D}{i:Nat}{x:D}{k:D→Option γ}(hx:L[i]?=some x):Ae L (i:Int) k=k x:=Wb (by omega) (by simpa using hx)
theorem PM {x:Int}(h: -9223372036854775808≤x∧x≤9223372036854775807):IntKind.i64.wrap x=x:=IntWalk.i64_in x h
theorem AF {i N:Nat}(h:i<N) (hN:N≤maxLen):IntKind.i64.wrap ((i:Int)+1)=((i+1:Nat):Int):=by
 have:maxLen=9223372036854775807:=rfl
 rw[PM (by omega)];omega
end
def FZ (ti:Types) (e:TypeId) (x:D):Prop:=Shape ti e x.cells∧∀y,ti e=some y→x.isAgg=Aj y.desc
def AK (ti:Types) (e:TypeId) (L:List D):Prop:=L.length≤maxLen∧∀x∈L,FZ ti e x
theorem AK.get {ti:Types}{e:TypeId}{L:List D}{i:Nat}(h:AK ti e L) (hi:i<L.length):∃x,L[i]?=some x∧x∈L∧FZ ti e x:=
 ⟨L[i],List.getElem?_eq_getElem hi,List.getElem_mem hi,h.2 _ (List.getElem_mem hi)⟩
def Q6 (ti:Types) (rec:TypeId→Option (List TypeId)):Nat→List Field→Option (List TypeId)
 | _,[]=>some []
 | off,f::r=>match Nat.beq f.offset off with
  | false=>none
  | true=>match ti f.type with
   | none=>none
   | some y=>match rec f.type with
    | none=>none
    | some l=>match Nat.beq l.length y.size with
     | false=>none
     | true=>match Q6 ti rec (off+y.size) r with
      | none=>none
      | some l'=>some (l++l')
def YJ (ti:Types):Nat→TypeId→Option (List TypeId)
 | 0,_=>none
 | n+1,t=>match ti t with
  | none=>none
  | some x=>match x.desc with
   | .struct fs=>match Q6 ti (YJ ti n) 0 fs.toList with
    | none=>none
    | some l=>match Nat.beq l.length x.size with
     | true=>some l
     | false=>none
   | .array ..=>none
   | _=>some [t]
theorem Shape.one {ti:Types}{t:TypeId}{x:TI}{ds:List D}(h:Shape ti t ds) (hx:ti t=some x) (hd:∀fs,x.desc≠ .struct fs):∃c,ds=[c]:=by
 cases h with
 | struct ds h1 h2=>rw[hx]at h1;obtain rfl:=Option.some.inj h1;exact absurd h2 (hd _)
 | _=>exact⟨_,rfl⟩
theorem PN {ti:Types}{rec:TypeId→Option (List TypeId)}{ds:List D}
  (hrec:∀t ls cs,rec t=some ls→Shape ti t cs→cs.length=ls.length∧∀(j:Nat) c tl,cs[j]?=some c→ls[j]?=some tl→Shape ti tl [c]):
  ∀(fs:List Field) (off:Nat) (ls:List TypeId),Q6 ti rec off fs=some ls→(∀f∈fs,∀y,ti f.type=some y→Shape ti f.type ((ds.drop f.offset).take y.size))→
   ∀(j:Nat) c tl,ds[off+j]?=some c→ls[j]?=some tl→Shape ti tl [c]
 | [],off,ls,h,_,j,c,tl,_,hl=>by
  cases h;simp at hl
 | f::fs,off,ls,h,hs,j,c,tl,hc,hl=>by
  unfold Q6 at h
  split at h
  ·cases h
  ·rename_i ho
   have ho:=Nat.eq_of_beq_eq_true ho
   split at h
   ·cases h
   ·rename_i y hy
    split at h
    ·cases h
    ·rename_i l hr
     split at h
     ·cases h
     ·rename_i hb
      have hb:=Nat.eq_of_beq_eq_true hb
      split at h
      ·cases h
      ·rename_i l' hl'
       cases h
       obtain⟨h1,h2⟩:=hrec _ _ _ hr (hs f (by simp) y hy)
       by_cases hj:j<l.length
       ·rw[List.getElem?_append_left hj]at hl
        refine h2 j c tl ?_ hl
        rw[List.getElem?_take,if_pos (by omega),List.getElem?_drop,ho]
        exact hc
       ·rw[List.getElem?_append_right (by omega)]at hl
        refine PN hrec fs _ l' hl' (fun f' hf'=>hs f' (List.mem_cons_of_mem _ hf')) (j - l.length) c tl ?_ hl
        rw[←hc];congr 1;omega
theorem Shape.flat {ti:Types}:
  ∀(n:Nat) (t:TypeId) (ls:List TypeId) (ds:List D),YJ ti n t=some ls→Shape ti t ds→ds.length=ls.length∧∀(j:Nat) c tl,ds[j]?=some c→ls[j]?=some tl→Shape ti tl [c]
 | 0,t,ls,ds,h,_=>by cases h
 | n+1,t,ls,ds,h,hs=>by
  unfold YJ at h
  split at h
  ·cases h
  ·rename_i x hx
   have single:(∀fs,x.desc≠ .struct fs)→ls=[t]→ds.length=ls.length∧∀(j:Nat) c tl,ds[j]?=some c→ls[j]?=some tl→Shape ti tl [c]:=by
    rintro hd rfl
    obtain⟨c,rfl⟩:=hs.one hx hd
    refine⟨rfl,fun j c' tl h1 h2=>?_⟩
    match j with
    | 0=>simp at h1 h2;subst h1;subst h2;exact hs
    | j+1=>simp at h1
   split at h
   ·rename_i fs hd
    obtain⟨h1,_,h3⟩:=hs.Uu hx hd
    split at h
    ·cases h
    ·rename_i l hl
     split at h
     ·rename_i hb
      cases h
      refine⟨h1.trans (Nat.eq_of_beq_eq_true hb).symm,fun j c tl h4 h5=>?_⟩
      exact PN (fun t ls cs h6 h7=>Shape.flat n t ls cs h6 h7) fs.toList 0 ls hl h3 j c tl (by simpa using h4) h5
     ·cases h
   ·cases h
   ·rename_i h1 h2
    cases h
    exact single h1 rfl
theorem FZ.agg {ti:Types}{e:TypeId}{x:D}{y:TI}(h:FZ ti e x) (hy:ti e=some y) (hr:Aj y.desc=true):∃cs,x= .agg cs∧Shape ti e cs:=by
 have h1:=(h.2 y hy).trans hr
 cases x<;>simp[D.isAgg]at h1
 exact⟨_,rfl,h.1⟩
theorem FZ.mO {ti:Types}{e:TypeId}{x:D}{y:TI}(h:FZ ti e x) (hy:ti e=some y) (hr:Aj y.desc=false):Shape ti e [x]:=by
 have h1:=(h.2 y hy).trans hr
 have h0:=h.1
 cases x<;>simp_all [D.isAgg,D.cells]
theorem Shape.Dk {ti:Types}{t e:TypeId}{x y:TI}{c:D}(h:Shape ti t [c]) (hx:ti t=some x) (hd:x.desc= .slice e) (hy:ti e=some y):
  ∃L,c= .list (Aj y.desc) y.size L∧AK ti e L:=by
 obtain⟨L,e1,h1,h2,h3⟩:=h.Wu hx hd hy
 refine⟨L,(List.cons.inj e1).1,h1,fun r hr=>⟨h3 r hr,fun y' hy'=>?_⟩⟩
 rw[hy]at hy'
 obtain rfl:=Option.some.inj hy'
 exact (h2 r hr).1
theorem Shape.It {ti:Types}{t:TypeId}{x:TI}{k:IntKind}{c:D}(h:Shape ti t [c]) (hx:ti t=some x) (hd:x.desc= .int k):∃n,c= .int k n∧(Lit.int k n).wf=true:=by
 obtain⟨n,e,hw⟩:=h.Z9 hx hd
 exact⟨n,(List.cons.inj e).1,hw⟩
theorem Shape.Gj {ti:Types}{t:TypeId}{x:TI}{c:D}(h:Shape ti t [c]) (hx:ti t=some x) (hd:x.desc= .string):∃s,c= .str s∧s.size≤maxLen:=by
 obtain⟨n,e,hw⟩:=h.aB hx hd
 exact⟨n,(List.cons.inj e).1,hw⟩
theorem EB {n:Int}(h:(Lit.int .u8 n).wf=true):0≤n∧n<256:=by
 simp[Lit.wf,show IntKind.u8.min=0 from rfl,show IntKind.u8.max=255 from rfl,show IntKind.i64.min= -9223372036854775808 from rfl,show IntKind.i64.max=9223372036854775807 from rfl]at h
 omega
theorem Au {ag:Bool}{sz:Nat}{L M:List D}{cs:List D}(h:D.agg cs∈L) (h2:D.list ag sz M∈cs):SizeOf.sizeOf M<SizeOf.sizeOf L:=by
 have h1:=List.sizeOf_lt_of_mem h
 have h3:=List.sizeOf_lt_of_mem h2
 simp at h1 h3
 omega
theorem Bt {P:List D→Prop}(H:∀L,(∀M,SizeOf.sizeOf M<SizeOf.sizeOf L→P M)→P L) (L:List D):P L:=by
 obtain⟨m,hm⟩:∃m,SizeOf.sizeOf L<m:=⟨_,Nat.lt_succ_self _⟩
 induction m generalizing L with
 | zero=>omega
 | succ m ih=>exact H L (fun M hM=>ih M (by omega))
end Go.AM
set_option linter.unusedVariables false
noncomputable section
namespace Go.Proofs.YtjmofeakajdbiaaGreatDoor
open Go Go.AM
mutual
def Ep:Nat->BA->Int->Option (Bool)
 | 0,_,_=>none
 | n+1,s1,z2=>
  (if z2<(47:Int)then Fc n s1 z2 true else Fc n s1 z2 false)
def Fc:Nat->BA->Int->Bool->Option (Bool)
 | 0,_,_,_=>none
 | n+1,s1,z2,b3=>
  (if b3=true then Ae ([.str VI,.str ZI,.str QU,.str Ls,.str Lu,.str Lv,.str Lw,.str QV,.str ZJ,.str QW,.str QX,.str ZK,.str JD,.str QY,.str QZ,.str Lx,.str VJ,.str ZL,.str VK,.str VL,.str Qa,.str Qb,.str VM,.str VN,.str Ly,.str Qc,.str VO,.str VP,.str ZM,.str VQ,.str Lz,.str L1,.str Qd,.str JE,.str Qe,.str L2,.str L3,.str Qf,.str Qg,.str VR,.str Qh,.str ZN,.str VS,.str L4,.str JF,.str JG,.str GF]) z2 fun x4=>Bc x4 fun s5=>(if s5=s1 then GN n s1 z2 true else GN n s1 z2 false)else some false)
def GN:Nat->BA->Int->Bool->Option (Bool)
 | 0,_,_,_=>none
 | n+1,s1,z2,b6=>
  (if b6=true then some true else AE (IntKind.wrap .i64 (z2+1)) fun z7=>Ep n s1 z7)
end
def Um (n:Nat) (s1:BA):Option (Bool):=
 Ep n s1 (0:Int)
theorem pJ (n:Nat):∀⦃s1 r1⦄,Um n s1=some r1->
    BB Tryz.prog inv 146 [.d (.str s1)] [] (.v (.d (.bool r1))) [] []:=by
 intro s1 r1 h
 unfold Um at h
 refine BB.of BU BK Ht Tryz.func146 rfl (by kernel_rfl) rfl rfl rfl (fun M hM hI=>?_)
 try cbv
 refine AD ?_
 try cbv
 refine AD ?_
 try cbv
 refine⟨false,?_⟩
 try cbv
 refine⟨true,?_⟩
 try cbv
 refine AD ?_
 try cbv
 refine AD ?_
 try cbv
 refine CO (T:=Nat×Int) [0,2,3,4] [] 128 (fun t=>⟨[sS 0 s1,sB 2 false,(3,.v (.c (.tl false 1 ([.str VI,.str ZI,.str QU,.str Ls,.str Lu,.str Lv,.str Lw,.str QV,.str ZJ,.str QW,.str QX,.str ZK,.str JD,.str QY,.str QZ,.str Lx,.str VJ,.str ZL,.str VK,.str VL,.str Qa,.str Qb,.str VM,.str VN,.str Ly,.str Qc,.str VO,.str VP,.str ZM,.str VQ,.str Lz,.str L1,.str Qd,.str JE,.str Qe,.str L2,.str L3,.str Qf,.str Qg,.str VR,.str Qh,.str ZN,.str VS,.str L4,.str JF,.str JG,.str GF])))),sI 4 t.2],[],128⟩)
   (fun t=>t.1<=n/\Ep t.1 s1 t.2=some r1) (fun t=>t.1) (n,(0:Int)) ⟨Nat.le_refl _,h⟩ (by cbv) ?_
 clear h
 rintro⟨m1,z2⟩ ⟨hm1,h⟩
 replace hm1:m1<=n:=hm1
 obtain _ | m1:=m1
 ·replace h:Ep 0 s1 z2=some r1:=h
  rw[Ep]at h
  cases h
 replace h:Ep (m1+1) s1 z2=some r1:=h
 rw[Ep]at h
 try cbv
 refine AD ?_
 try cbv
 refine AJ 9 [0,2,3,4,9] [] 256 (fun m b=>m<=m1/\Fc m s1 z2 b=some r1) ?_ ?_
 ·try cbv
  refine⟨47,(M.lenI_eq _).trans rfl,?_⟩
  try cbv
  refine B1 (fun e=>?_) (fun e=>?_)
  ·replace h:=Ag e h
   clear e
   try cbv
   exact AA (m1,true) [0,2,3,4,9] [] 256 ⟨by omega,h⟩ (by cbv)
  replace h:=Ah (Int.not_lt.2 e) h
  clear e
  try cbv
  exact AA (m1,false) [0,2,3,4,9] [] 256 ⟨by omega,h⟩ (by cbv)
 clear h
 rintro⟨m2,b3⟩ ⟨hm2,h⟩
 try cbv
 replace hm2:m2<=m1:=hm2
 obtain _ | m2:=m2
 ·replace h:Fc 0 s1 z2 b3=some r1:=h
  rw[Fc]at h
  cases h
 replace h:Fc (m2+1) s1 z2 b3=some r1:=h
 rw[Fc]at h
 try cbv
 cases b3
 ·replace h:=Bz h
  try cbv
  refine AD ?_
  try cbv
  obtain rfl:=Option.some.inj h
  refine AZ ?_
  try cbv
  exact⟨[],by trivial⟩
 replace h:=Bx h
 try cbv
 refine AD ?_
 try cbv
 refine AJ 17 [0,2,3,4,17] [] 448 (fun m b=>m<=m2/\GN m s1 z2 b=some r1) ?_ ?_
 ·try cbv
  replace h:=Az h
  obtain⟨x4,⟨hx0,hx⟩,h⟩:=h
  refine⟨x4,hx0,hx,?_⟩
  clear hx0 hx
  replace h:=Eh h
  obtain⟨s5,rfl,h⟩:=h
  try cbv
  refine XS (fun e=>?_) (fun e=>?_)
  ·replace h:=Ag (EA.1 e) h
   clear e
   try cbv
   exact AA (m2,true) [0,2,3,4,17] [] 448 ⟨by omega,h⟩ (by cbv)
  replace h:=Ah (SO.1 e) h
  clear e
  try cbv
  exact AA (m2,false) [0,2,3,4,17] [] 448 ⟨by omega,h⟩ (by cbv)
 clear h
 rintro⟨m3,b6⟩ ⟨hm3,h⟩
 try cbv
 replace hm3:m3<=m2:=hm3
 obtain _ | m3:=m3
 ·replace h:GN 0 s1 z2 b6=some r1:=h
  rw[GN]at h
  cases h
 replace h:GN (m3+1) s1 z2 b6=some r1:=h
 rw[GN]at h
 try cbv
 cases b6
 ·replace h:=Bz h
  try cbv
  replace h:=Aa h
  obtain⟨z7,hz,h⟩:=h
  refine⟨z7,hz,?_⟩
  clear hz
  try cbv
  exact BT (m3,z7) [0,2,3,4] [] 128 ⟨by omega,h⟩ (Nat.lt_succ_of_le (by omega)) (by cbv)
 replace h:=Bx h
 try cbv
 refine AD ?_
 try cbv
 obtain rfl:=Option.some.inj h
 refine AZ ?_
 try cbv
 exact⟨[],by trivial⟩
noncomputable def pK:BW:=⟨146,[.s],[],[⟨.one (.b),[],[]⟩],Bool,inferInstance,Um⟩
noncomputable def pL:Kz:=⟨pK,fun n=>Di fun s1 p h w1 w2 w4 w3 l1 l2 e1 e2 e5 e3 xs e4=>by cases e1;cases e2;cases e4;cases e5;cases e3;exact pJ n h⟩
end Go.Proofs.YtjmofeakajdbiaaGreatDoor
end
set_option linter.unusedVariables false
noncomputable section
namespace Go.Proofs.YtjmofeakajdbiaaGreatDoor
open Go Go.AM
def bl (s:ByteArray):List UInt8:=s.data.toList
theorem Q7 (s:ByteArray):s.size=(bl s).length:=(Array.length_toList (xs:=s.data)).symm
theorem Q8 {s t:ByteArray}(h:bl s=bl t):s=t:=by
 cases s;cases t
 simp only[bl]at h
 rw[Array.toList_inj.1 h]
theorem Df {γ:Type}{s:ByteArray}{i:Nat}{b:UInt8}{k:Int→Option γ}(h:(bl s)[i]?=some b):Tu s (i:Int) k=k (b.toNat:Int):=by
 have hlt:i<s.size:=by rw[Q7];exact (List.getElem?_eq_some_iff.1 h).1
 have hb:s[i]=b:=by
  have:=(List.getElem?_eq_some_iff.1 h).2
  rw[←this]
  simp[bl]
  rfl
 have h1:s[(i:Int).toNat]?=some b:=by
  rw[Int.toNat_natCast,getElem?_pos s i hlt,hb]
 unfold Tu
 rw[if_pos (Int.natCast_nonneg i),h1]
 rfl
theorem Cc {γ:Type}{s:ByteArray}{k:Int→Option γ}:Ns s k=k ((bl s).length:Int):=by
 unfold Ns
 rw[Q7]
def CI:List ByteArray:=[VI,ZI,QU,Ls,Lu,Lv,Lw,QV,ZJ,QW,QX,ZK,JD,QY,QZ,Lx,VJ,ZL,VK,VL,Qa,Qb,VM,VN,Ly,Qc,VO,VP,ZM,VQ,Lz,L1,Qd,JE,Qe,L2,L3,Qf,Qg,VR,Qh,ZN,VS,L4,JF,JG,GF]
def word (s:ByteArray):Bool:=CI.any fun w=>decide (bl w=bl s)
theorem S3 {s:ByteArray}:word s=true↔s∈CI:=by
 unfold word
 rw[List.any_eq_true]
 constructor
 ·rintro⟨w,hw,h⟩
  rw[←Q8 (of_decide_eq_true h)];exact hw
 ·intro h
  exact⟨s,h,decide_eq_true rfl⟩
theorem Zi {s:ByteArray}(h:s∉CI):word s=false:=by
 cases hw:word s
 ·rfl
 ·exact absurd (S3.1 hw) h
theorem KX {a b:ByteArray}:(a==b)=true↔a=b:=by
 rw[beq_toListBytes]
 constructor
 ·intro h
  have h:=eq_of_beq h
  rw[ByteArray.toList_eq,ByteArray.toList_eq]at h
  exact Q8 h
 ·rintro rfl
  exact beq_self_eq_true _
inductive HO:List ByteArray→List D→Prop where
 | nil:HO [] []
 | cons {w:ByteArray} {z:Int} {ws:List ByteArray} {rows:List D} (hz:0<z) (h:HO ws rows):HO (w::ws) (.agg [.str w,.int .i64 z]::rows)
theorem HO.find {s:ByteArray}:∀{ws:List ByteArray}{rows:List D},HO ws rows→(s∉ws∧GX false (.str s) rows=some none)∨∃z,s∈ws∧0<z∧GX false (.str s) rows=some (some (.int .i64 z))
 | _,_,.nil=>.inl ⟨by simp,rfl⟩
 | _,_,.cons (w:=w) (z:=z) (ws:=ws) (rows:=rows) hz h=>by
  cases hb:(s==w)with
  | true=>
   have:=KX.1 hb
   subst this
   exact .inr ⟨z,by simp,hz,by simp[GX,Yn,hb,rowOf]⟩
  | false=>
   have hne:s≠w:=fun e=>by rw[KX.2 e]at hb;cases hb
   rcases h.find (s:=s)with⟨h1,h2⟩ | ⟨z',h1,h2,h3⟩
   ·exact .inl ⟨by simp[hne,h1],by simp[GX,Yn,hb,h2]⟩
   ·exact .inr ⟨z',by simp[h1],h2,by simp[GX,Yn,hb,h3]⟩
theorem HO.put {s:ByteArray}{z:Int}(hz:0<z):∀{ws:List ByteArray}{rows:List D},HO ws rows→∃ws' rows',P7 (.str s) [.int .i64 z] rows=some rows'∧HO ws' rows'∧∀t,t∈ws'↔t=s∨t∈ws
 | _,_,.nil=>⟨[s],_,rfl,.cons hz .nil,by simp⟩
 | _,_,.cons (w:=w) (z:=z') (ws:=ws) (rows:=rows) hz' h=>by
  cases hb:(s==w)with
  | true=>
   have:=KX.1 hb
   subst this
   exact⟨s::ws,.agg [.str s,.int .i64 z]::rows,by simp[P7,Yn,hb],.cons hz h,by intro t;simp⟩
  | false=>
   obtain⟨ws',rows',h1,h2,h3⟩:=h.put (s:=s) hz
   refine⟨w::ws',.agg [.str w,.int .i64 z']::rows',by simp[P7,Yn,hb,h1],.cons hz' h2,fun t=>?_⟩
   simp only[List.mem_cons,h3]
   constructor
   ·rintro (h | h | h)<;>simp[h]
   ·rintro (h | h | h)<;>simp[h]
theorem Q9:fieldsD BR=CI.map D.str:=by kernel_rfl
theorem pM:Ev (fun n=>Xe n BR) (CI.map D.str):=Ev.of fun n=>by
 rw[←Q9]
 unfold Xe
 have h1:Nat.ble (BR).size 1000=true:=by kernel_rfl
 have h1:=Nat.le_of_ble_eq_true h1
 have h2:(Lib.fields (BR).data.toList).length=47:=by kernel_rfl
 rw[if_pos (by rw[h2];exact⟨by omega,by kernel_rfl,by decide⟩)]
theorem GP:CI.length=47:=rfl
theorem pN:∃ws rows,Ev (fun n=>YD n) rows∧HO ws rows∧∀t,t∈ws↔t∈CI:=by
 have main:∀i:Nat,i≤47→∀ws rows,HO ws rows→∃ws' rows',Ev (fun n=>FJ n (CI.map D.str) 47 (i:Int) rows) rows'∧HO ws' rows'∧∀t,t∈ws'↔t∈CI.drop i∨t∈ws:=by
  refine down 47 ?_ ?_
  ·intro ws rows h
   refine⟨ws,rows,.succ (.succ (.of fun n=>?_)),h,fun t=>?_⟩
   ·rw[FJ,if_neg (by omega),GH,if_neg Bool.false_ne_true]
   ·rw[List.drop_eq_nil_of_le (by rw[GP];omega)]
    simp
  ·intro i hi ih ws rows h
   have hlt:i<CI.length:=by rw[GP];exact hi
   obtain⟨ws1,rows1,h1,h2,h3⟩:=h.put (s:=CI[i]) (z:=((i+1:Nat):Int)) (by omega)
   obtain⟨ws2,rows2,h4,h5,h6⟩:=ih ws1 rows1 h2
   refine⟨ws2,rows2,.succ (.succ (h4.congr fun n=>?_)),h5,fun t=>?_⟩
   ·have hw:(CI.map D.str)[i]?=some (.str CI[i]):=by simp[hlt]
    rw[FJ,if_pos (by omega),GH,if_pos rfl,AG hw]
    simp only[Bc,AE,AF (N:=47) hi (by decide)]
    unfold ZH
    rw[h1]
   ·rw[h6,h3,List.drop_eq_getElem_cons hlt]
    simp only[List.mem_cons]
    constructor
    ·rintro (h | h | h)<;>simp[h]
    ·rintro ((h | h) | h)<;>simp[h]
 obtain⟨ws,rows,h1,h2,h3⟩:=main 0 (by omega) [] [] .nil
 refine⟨ws,rows,?_,h2,by simpa using h3⟩
 unfold YD
 refine Ev.bO1 pM (h1.congr fun n=>?_)
 unfold AB
 rfl
theorem pO (s:ByteArray):Ev (fun n=>M8 n s) (word s):=by
 obtain⟨ws,rows,h1,h2,h3⟩:=pN
 unfold M8
 refine Ev.bO1 h1 (Ev.of fun n=>?_)
 unfold findF
 rcases h2.find (s:=s)with⟨h4,h5⟩ | ⟨z,h4,h5,h6⟩
 ·rw[h5]
  have:s∉CI:=fun h=>h4 ((h3 s).2 h)
  rw[Zi this]
 ·rw[h6]
  have:s∈CI:=(h3 s).1 h4
  rw[S3.2 this]
  simp[Mv,h5]
theorem pP (s:ByteArray):Ev (fun n=>Um n s) (word s):=by
 have main:∀i:Nat,i≤47→Ev (fun n=>Ep n s (i:Int)) ((CI.drop i).any fun w=>decide (bl w=bl s)):=by
  refine down 47 ?_ ?_
  ·refine .succ (.succ (.of fun n=>?_))
   rw[Ep,if_neg (by omega),Fc,if_neg Bool.false_ne_true,List.drop_eq_nil_of_le (by rw[GP];omega)]
   rfl
  ·intro i hi ih
   have hlt:i<CI.length:=by rw[GP];exact hi
   have hw:(CI.map D.str)[i]?=some (.str CI[i]):=by simp[hlt]
   have hw:([.str VI,.str ZI,.str QU,.str Ls,.str Lu,.str Lv,.str Lw,.str QV,.str ZJ,.str QW,.str QX,.str ZK,.str JD,.str QY,.str QZ,.str Lx,.str VJ,.str ZL,.str VK,.str VL,.str Qa,.str Qb,.str VM,.str VN,.str Ly,.str Qc,.str VO,.str VP,.str ZM,.str VQ,.str Lz,.str L1,.str Qd,.str JE,.str Qe,.str L2,.str L3,.str Qf,.str Qg,.str VR,.str Qh,.str ZN,.str VS,.str L4,.str JF,.str JG,.str GF]:List D)[i]?=some (.str CI[i]):=hw
   rw[List.drop_eq_getElem_cons hlt,List.any_cons]
   by_cases he:CI[i]=s
   ·refine .succ (.succ (.succ (.of fun n=>?_)))
    rw[Ep,if_pos (by omega),Fc,if_pos rfl,AG hw]
    simp only[Bc]
    rw[if_pos he,GN,if_pos rfl,decide_eq_true (congrArg bl he)]
    rfl
   ·rw[decide_eq_false (fun e=>he (Q8 e)),Bool.false_or]
    refine .succ (.succ (.succ (ih.congr fun n=>?_)))
    rw[Ep,if_pos (by omega),Fc,if_pos rfl,AG hw]
    simp only[Bc]
    rw[if_neg he,GN,if_neg Bool.false_ne_true]
    simp only[AE,AF (N:=47) hi (by decide)]
 have:=main 0 (by omega)
 unfold Um word
 exact this
end Go.Proofs.YtjmofeakajdbiaaGreatDoor
set_option linter.unusedVariables false
noncomputable section
namespace Go.Proofs.YtjmofeakajdbiaaGreatDoor
open Go Go.AM
def Zj (n:Nat) (z1:Int):Option (Bool):=
 (if (97:Int)<=z1 then (if z1<=(122:Int)then some true else (if (65:Int)<=z1 then (if z1<=(90:Int)then some true else (if (48:Int)<=z1 then (if z1<=(57:Int)then some true else (if z1=(95:Int)then some true else some false))else (if z1=(95:Int)then some true else some false)))else (if (48:Int)<=z1 then (if z1<=(57:Int)then some true else (if z1=(95:Int)then some true else some false))else (if z1=(95:Int)then some true else some false))))else (if (65:Int)<=z1 then (if z1<=(90:Int)then some true else (if (48:Int)<=z1 then (if z1<=(57:Int)then some true else (if z1=(95:Int)then some true else some false))else (if z1=(95:Int)then some true else some false)))else (if (48:Int)<=z1 then (if z1<=(57:Int)then some true else (if z1=(95:Int)then some true else some false))else (if z1=(95:Int)then some true else some false))))
noncomputable def pQ:BS:=⟨147,Tryz.f147,[.y],[],⟨.one (.b),[],[]⟩,Bool,inferInstance,Zj,[]⟩
noncomputable def pR:Kz:=sg pQ [] Tryz.func147 (by kernel_rfl) (by kernel_rfl) (by kernel_rfl)
mutual
def HP:Nat->BA->Int->Option (Bool)
 | 0,_,_=>none
 | n+1,s1,z9=>
  Ns s1 fun z10=>(if z9<z10 then KY n s1 z9 true else KY n s1 z9 false)
def KY:Nat->BA->Int->Bool->Option (Bool)
 | 0,_,_,_=>none
 | n+1,s1,z9,b11=>
  (if b11=true then Tu s1 z9 fun z12=>bO1 (Zj n z12) fun b13=>AI (!b13) fun b14=>(if b14=true then some false else AE (IntKind.wrap .i64 (z9+1)) fun z15=>HP n s1 z15)else some true)
end
def Er:Nat->BA->Bool->Option (Bool)
 | 0,_,_=>none
 | n+1,s1,b8=>
  (if b8=true then some false else HP n s1 (0:Int))
def RA (n:Nat) (s1:BA) (z2:Int) (z3:Int):Option (Bool):=
 (if s1=ByteArray.empty then Er n s1 true else Ns s1 fun z4=>(if (16:Int)<z4 then Er n s1 true else Tu s1 (0:Int) fun z5=>(if z5<z2 then Er n s1 true else Tu s1 (0:Int) fun z6=>(if z3<z6 then Er n s1 true else bO1 (Um n s1) fun b7=>Er n s1 b7))))
noncomputable def pS:BS:=⟨131,Tryz.f131,[.s,.y,.y],[],⟨.one (.b),[],[]⟩,Bool,inferInstance,RA,[⟨13,[0,6,30],[],768,[.s,.one (.cb false),.b],[],fun n s1 b8=>Er n s1 b8⟩,
 ⟨58,[0,6,7],[],800,[.s,.one (.cb false),.z],[],fun n s1 z9=>HP n s1 z9⟩,
 ⟨465,[0,6,7,34],[],928,[.s,.one (.cb false),.z,.b],[],fun n s1 z9 b11=>KY n s1 z9 b11⟩]⟩
noncomputable def kE:Kz:=sg pS [pL,pR] Tryz.func131 (by kernel_rfl) (by kernel_rfl) (by kernel_rfl)
def Wx (n:Nat) (s1:BA):Option (Bool):=
 bO1 (RA n s1 (97:Int) (122:Int)) fun b2=>some b2
noncomputable def wX:BS:=⟨81,Tryz.f81,[.s],[],⟨.one (.b),[],[]⟩,Bool,inferInstance,Wx,[]⟩
noncomputable def gJ:Kz:=sg wX [kE] Tryz.func81 (by kernel_rfl) (by kernel_rfl) (by kernel_rfl)
def Wk (n:Nat) (s1:BA):Option (Bool):=
 bO1 (RA n s1 (65:Int) (90:Int)) fun b2=>some b2
noncomputable def wY:BS:=⟨78,Tryz.f78,[.s],[],⟨.one (.b),[],[]⟩,Bool,inferInstance,Wk,[]⟩
noncomputable def kF:Kz:=sg wY [kE] Tryz.func78 (by kernel_rfl) (by kernel_rfl) (by kernel_rfl)
end Go.Proofs.YtjmofeakajdbiaaGreatDoor
end
set_option linter.unusedVariables false
noncomputable section
namespace Go.Proofs.YtjmofeakajdbiaaGreatDoor
open Go Go.AM
def Nt (lo hi z:Int):Bool:=decide (lo≤z∧z≤hi)
def Jf (z:Int):Bool:=Nt 97 122 z || Nt 65 90 z || Nt 48 57 z || decide (z=95)
def pB (b:UInt8):Bool:=Jf (b.toNat:Int)
theorem f32 (n:Nat) (z:Int):YC n z=some (Nt 97 122 z):=by
 unfold YC Nt
 grind
theorem f34 (n:Nat) (z:Int):YB n z=some (Nt 65 90 z):=by
 unfold YB Nt
 grind
theorem f67 (n:Nat) (z:Int):Za n z=some (Nt 48 57 z):=by
 unfold Za Nt
 grind
theorem f52 (n:Nat) (z:Int):Zb n z=some (Jf z):=by
 unfold Zb Jf
 rw[f32,f34,f67]
 simp only[bO1]
 cases Nt 97 122 z<;>cases Nt 65 90 z<;>cases Nt 48 57 z<;>grind
theorem f53 (n:Nat) (z:Int):Zj n z=some (Jf z):=by
 unfold Zj Jf Nt
 grind
theorem Vo {α:Type}{l pre rest:List α}{b:α}(h:pre++b::rest=l):l[pre.length]?=some b:=by
 rw[←h,List.getElem?_append_right (Nat.le_refl _)]
 simp
theorem bN {s:ByteArray}(hs:s.size≤maxLen):∀(rest pre:List UInt8),pre++rest=bl s→Ev (fun n=>Ih n s (pre.length:Int)) (((pre.length+(rest.takeWhile pB).length:Nat):Int))
 | [],pre,h=>by
  refine .succ (.succ (.of fun n=>?_))
  rw[Ih,Cc,←h,if_neg (by simp),KV,if_neg Bool.false_ne_true]
  simp
 | b::rest,pre,h=>by
  have hlt:pre.length<(bl s).length:=by rw[←h];simp
  have hb:=Vo h
  cases hp:pB b with
  | false=>
   refine .succ (.succ (.of fun n=>?_))
   rw[Ih,Cc,if_pos (by omega),Df hb,f52]
   simp only[bO1]
   rw[show Jf (b.toNat:Int)=false from hp,KV,if_neg Bool.false_ne_true]
   simp[hp]
  | true=>
   have ih:=bN hs rest (pre++[b]) (by simpa using h)
   have e:(pre++[b]).length+(rest.takeWhile pB).length=pre.length+((b::rest).takeWhile pB).length:=by
    simp[hp];omega
   rw[e]at ih
   refine .succ (.succ (ih.congr fun n=>?_))
   rw[Ih,Cc,if_pos (by omega),Df hb,f52]
   simp only[bO1]
   rw[show Jf (b.toNat:Int)=true from hp,KV,if_pos rfl]
   simp only[AE]
   rw[AF (N:=(bl s).length) hlt (by rw[←Q7];exact hs)]
   simp
theorem pT {s:ByteArray}(hs:s.size≤maxLen):Ev (fun n=>Sp n s) (((bl s).takeWhile pB).length:Int):=by
 have:=bN hs (bl s) [] rfl
 unfold Sp
 simpa using this
def nm (lo hi:Int) (s:ByteArray):Bool:=
 match bl s with
 | []=>false
 | b::r=>decide ((b::r).length≤16)&&Nt lo hi (b.toNat:Int)&&(b::r).all pB&&!word s
theorem Fe {α:Type}{p:α→Bool}:∀{l:List α},((l.takeWhile p).length=l.length)↔l.all p=true
 | []=>by simp
 | x::l=>by
  cases h:p x
  ·simp[h]
  ·simp[h,Fe (l:=l)]
theorem Hn {s:ByteArray}:s=ByteArray.empty↔bl s=[]:=by
 constructor
 ·rintro rfl;rfl
 ·intro h;exact Q8 h
theorem bO {G:Nat→Int→Option Bool}{lo hi:Int}(hG:∀n z,G n z=some (Nt lo hi z)) {s:ByteArray}(hs:s.size≤maxLen):
  Ev (fun n=>(if s=ByteArray.empty then some false else Ns s fun z2=>(if z2≤(16:Int)then Tu s (0:Int) fun z3=>bO1 (G n z3) fun b4=>(if b4=true then bO1 (Sp n s) fun z5=>Ns s fun z6=>(if z5=z6 then bO1 (M8 n s) fun b7=>AI (!b7) fun b8=>some b8 else some false)else some false)else some false))) (nm lo hi s):=by
 cases h:bl s with
 | nil=>
  have hr:nm lo hi s=false:=by unfold nm;rw[h]
  rw[hr]
  exact .of fun n=>by rw[if_pos (Hn.2 h)]
 | cons b r=>
  have hr:nm lo hi s=(decide ((b::r).length≤16)&&Nt lo hi (b.toNat:Int)&&(b::r).all pB&&!word s):=by unfold nm;rw[h]
  rw[hr]
  clear hr
  have hne:s≠ByteArray.empty:=fun e=>by rw[Hn.1 e]at h;cases h
  have hb:(bl s)[0]?=some b:=by rw[h];rfl
  by_cases hl:(b::r).length≤16
  ·cases hz:Nt lo hi (b.toNat:Int)with
   | false=>
    refine .of fun n=>?_
    rw[if_neg hne,Cc,h,if_pos (by omega),show (0:Int)=((0:Nat):Int)from rfl,Df hb,hG,hz]
    simp[bO1]
   | true=>
    have step:∀r',Ev (fun n=>bO1 (Sp n s) fun z5=>Ns s fun z6=>(if z5=z6 then bO1 (M8 n s) fun b7=>AI (!b7) fun b8=>some b8 else some false)) r'→
      Ev (fun n=>(if s=ByteArray.empty then some false else Ns s fun z2=>(if z2≤(16:Int)then Tu s (0:Int) fun z3=>bO1 (G n z3) fun b4=>(if b4=true then bO1 (Sp n s) fun z5=>Ns s fun z6=>(if z5=z6 then bO1 (M8 n s) fun b7=>AI (!b7) fun b8=>some b8 else some false)else some false)else some false))) r':=fun r' hr=>hr.congr fun n=>by
     rw[if_neg hne,Cc (s:=s) (k:=fun z2=>if z2≤(16:Int)then _ else _),h,if_pos (by omega),show (0:Int)=((0:Nat):Int)from rfl,Df hb,hG,hz]
     simp[bO1]
    refine step _ (Ev.bO1 (pT hs) ?_)
    cases ha:(b::r).all pB with
    | false=>
     refine .of fun n=>?_
     rw[Cc,if_neg]
     ·simp
     ·intro e
      have:((bl s).takeWhile pB).length=(bl s).length:=by omega
      rw[Fe,h,ha]at this
      cases this
    | true=>
     refine Ev.congr (A:=fun n=>bO1 (M8 n s) fun b7=>AI (!b7) fun b8=>some b8) ?_ fun n=>?_
     ·refine Ev.bO1 (pO s) (.of fun n=>?_)
      simp only[AI,decide_eq_true hl,Bool.true_and]
     ·rw[Cc,if_pos]
      have:=Fe.2 (h▸ha:(bl s).all pB=true)
      omega
  ·refine .of fun n=>?_
   rw[if_neg hne,Cc,h,if_neg (by omega),decide_eq_false hl]
   rfl
theorem pU {s:ByteArray}(hs:s.size≤maxLen):Ev (fun n=>Uk n s) (nm 97 122 s):=bO f32 hs
theorem dS {s:ByteArray}(hs:s.size≤maxLen):Ev (fun n=>dB n s) (nm 65 90 s):=bO f34 hs
theorem Ld {s:ByteArray}(hs:s.size≤maxLen):Ev (fun n=>Vg n s) (nm 97 122 s):=Ev.bO1 (pU hs) .ret
theorem RB {s:ByteArray}(hs:s.size≤maxLen):Ev (fun n=>Wv n s) (nm 65 90 s):=Ev.bO1 (dS hs) .ret
theorem bP {s:ByteArray}(hs:s.size≤maxLen):∀(rest pre:List UInt8),pre++rest=bl s→Ev (fun n=>HP n s (pre.length:Int)) (rest.all pB)
 | [],pre,h=>by
  refine .succ (.succ (.of fun n=>?_))
  rw[HP,Cc,←h,if_neg (by simp),KY,if_neg Bool.false_ne_true]
  simp
 | b::rest,pre,h=>by
  have hlt:pre.length<(bl s).length:=by rw[←h];simp
  have hb:=Vo h
  cases hp:pB b with
  | false=>
   refine .succ (.succ (.of fun n=>?_))
   rw[HP,Cc,if_pos (by omega),KY,if_pos rfl,Df hb,f53]
   simp only[bO1,AI]
   rw[show Jf (b.toNat:Int)=false from hp]
   simp[hp]
  | true=>
   have ih:=bP hs rest (pre++[b]) (by simpa using h)
   refine .succ (.succ (Ev.congr (r:=(b::rest).all pB) (by simpa [hp] using ih) fun n=>?_))
   rw[HP,Cc,if_pos (by omega),KY,if_pos rfl,Df hb,f53]
   simp only[bO1,AI]
   rw[show Jf (b.toNat:Int)=true from hp]
   simp only[AE,Bool.not_true,Bool.false_eq_true,if_false]
   rw[AF (N:=(bl s).length) hlt (by rw[←Q7];exact hs)]
   simp
theorem kG {s:ByteArray}(hs:s.size≤maxLen) (lo hi:Int):Ev (fun n=>RA n s lo hi) (nm lo hi s):=by
 have t:∀n,Er (n+1) s true=some false:=fun n=>by rw[Er,if_pos rfl]
 cases h:bl s with
 | nil=>
  have hr:nm lo hi s=false:=by unfold nm;rw[h]
  rw[hr]
  exact .succ (.of fun n=>by unfold RA;rw[if_pos (Hn.2 h),t])
 | cons b r=>
  have hr:nm lo hi s=(decide ((b::r).length≤16)&&Nt lo hi (b.toNat:Int)&&(b::r).all pB&&!word s):=by unfold nm;rw[h]
  rw[hr]
  clear hr
  have hne:s≠ByteArray.empty:=fun e=>by rw[Hn.1 e]at h;cases h
  have hb:(bl s)[0]?=some b:=by rw[h];rfl
  have z0:(0:Int)=((0:Nat):Int):=rfl
  by_cases hl:(b::r).length≤16
  ·by_cases h1:(b.toNat:Int)<lo
   ·refine .succ (.of fun n=>?_)
    unfold RA
    rw[if_neg hne,Cc,h,if_neg (by omega),z0,Df hb,if_pos h1,t]
    simp[Nt,show ¬lo≤(b.toNat:Int)by omega]
   ·by_cases h2:hi<(b.toNat:Int)
    ·refine .succ (.of fun n=>?_)
     unfold RA
     rw[if_neg hne,Cc,h,if_neg (by omega),z0,Df hb,if_neg h1,Df hb,if_pos h2,t]
     simp[Nt,show ¬(b.toNat:Int)≤hi by omega]
    ·have hin:Nt lo hi (b.toNat:Int)=true:=by simp[Nt];omega
     refine Ev.congr (A:=fun n=>bO1 (Um n s) fun b7=>Er n s b7) (Ev.bO1 (pP s) ?_) fun n=>?_
     ·cases hw:word s with
      | true=>exact .succ (.of fun n=>by rw[t];simp)
      | false=>
       refine .succ ?_
       have h9:Ev (fun n=>HP n s ((0:Nat):Int)) ((bl s).all pB):=bP hs (bl s) [] rfl
       have h8:Ev (fun n=>Er (n+1) s false) ((bl s).all pB):=h9.congr fun n=>by rw[Er,if_neg Bool.false_ne_true];rfl
       rw[h]at h8
       rw[decide_eq_true hl,hin,Bool.true_and,Bool.true_and,Bool.not_false,Bool.and_true]
       exact h8
     ·unfold RA
      rw[if_neg hne,Cc,h,if_neg (by omega),z0,Df hb,if_neg h1,Df hb,if_neg h2]
  ·refine .succ (.of fun n=>?_)
   unfold RA
   rw[if_neg hne,Cc,h,if_pos (by omega),t,decide_eq_false hl]
   rfl
theorem N8 {s:ByteArray}(hs:s.size≤maxLen):Ev (fun n=>Wx n s) (nm 97 122 s):=Ev.bO1 (kG hs 97 122) .ret
theorem S4 {s:ByteArray}(hs:s.size≤maxLen):Ev (fun n=>Wk n s) (nm 65 90 s):=Ev.bO1 (kG hs 65 90) .ret
end Go.Proofs.YtjmofeakajdbiaaGreatDoor
set_option linter.unusedVariables false
noncomputable section
namespace Go.Proofs.YtjmofeakajdbiaaGreatDoor
open Go Go.AM
def H4:Nat->BA->Int->Bool->Option (Int)
 | 0,_,_,_=>none
 | n+1,s1,z2,b5=>
  (if b5=true then some (-1:Int)else AE (IntKind.wrap .i64 (z2 - 5)) fun z6=>Ns s1 fun z7=>AE (IntKind.wrap .i64 (z6 - z7)) fun z8=>some z8)
def Nu (n:Nat) (s1:BA) (z2:Int):Option (Int):=
 (if z2<(5:Int)then H4 n s1 z2 true else Ns s1 fun z3=>AE (IntKind.wrap .i64 (z2 - 5)) fun z4=>(if z4<z3 then H4 n s1 z2 true else H4 n s1 z2 false))
noncomputable def wZ:BS:=⟨26,Tryz.f26,[.p (.ext 0) 0,.s],[[.z]],⟨.tup [],[[.z]],[]⟩,Int,inferInstance,Nu,[⟨5,[0,1,18],[.ext 0],480,[.p (.ext 0) 0,.s,.b],[[.z]],fun n s1 b5 z2=>H4 n s1 z2 b5⟩]⟩
noncomputable def dT:Kz:=sg wZ [] Tryz.func26 (by kernel_rfl) (by kernel_rfl) (by kernel_rfl)
mutual
def Fz:Nat->LD->Int->Int->Option (Int)
 | 0,_,_,_=>none
 | n+1,l3,z6,z7=>
  AB l3 fun z8=>(if z6<z8 then (if (0:Int)<=z7 then H5 n l3 z6 z7 true else H5 n l3 z6 z7 false)else H5 n l3 z6 z7 false)
def H5:Nat->LD->Int->Int->Bool->Option (Int)
 | 0,_,_,_,_=>none
 | n+1,l3,z6,z7,b9=>
  (if b9=true then Ae l3 z6 fun x10=>CM x10 fun z11 s12 l13=>bO1 (Wl n z11 s12 l13 z7) fun z14=>AE (IntKind.wrap .i64 (z6+1)) fun z15=>Fz n l3 z15 z14 else some z7)
def Wl:Nat->Int->BA->LD->Int->Option (Int)
 | 0,_,_,_,_=>none
 | n+1,z1,s2,l3,z4=>
  bO1 (Nu n s2 z4) fun z5=>Fz n l3 (0:Int) z5
end
noncomputable def sH:BS:=⟨28,Tryz.f28,[.p (.ext 0) 0,.agg [.y,.str,.q 3]],[[.z]],⟨.tup [],[[.z]],[]⟩,Int,inferInstance,Wl,[⟨30,[0,3,4],[.ext 0,.loc 0],192,[.p (.ext 0) 0,.p (.loc 0) 0,.z],[[.z],[.y,.str,.q 3]],fun n z6 z7 _ _ l3=>Fz n l3 z6 z7⟩,
 ⟨241,[0,3,4,20],[.ext 0,.loc 0],576,[.p (.ext 0) 0,.p (.loc 0) 0,.z,.b],[[.z],[.y,.str,.q 3]],fun n z6 b9 z7 _ _ l3=>H5 n l3 z6 z7 b9⟩]⟩
theorem xA:CF Tryz.prog inv (KU [sH]):=gr [dT] ⟨⟨Tryz.func28,by kernel_rfl,by kernel_rfl,by kernel_rfl⟩,trivial⟩
noncomputable def pV:Kz:=⟨sH.c,xA.1⟩
mutual
def F0:Nat->LD->Int->Int->Option (Int)
 | 0,_,_,_=>none
 | n+1,l1,z4,z5=>
  AB l1 fun z6=>(if z4<z6 then (if (0:Int)<=z5 then H6 n l1 z4 z5 true else H6 n l1 z4 z5 false)else H6 n l1 z4 z5 false)
def H6:Nat->LD->Int->Int->Bool->Option (Int)
 | 0,_,_,_,_=>none
 | n+1,l1,z4,z5,b7=>
  (if b7=true then Ae l1 z4 fun x8=>Bc x8 fun s9=>bO1 (Nu n s9 z5) fun z10=>AE (IntKind.wrap .i64 (z4+1)) fun z11=>F0 n l1 z11 z10 else some z5)
end
def dU (n:Nat) (l1:LD) (z2:Int):Option (Int):=
 AE (IntKind.wrap .i64 (z2 - 5)) fun z3=>F0 n l1 (0:Int) z3
noncomputable def xB:BS:=⟨66,Tryz.f66,[.p (.ext 0) 0,.f 1],[[.z]],⟨.tup [],[[.z]],[]⟩,Int,inferInstance,dU,[⟨14,[0,1,4],[.ext 0],320,[.p (.ext 0) 0,.f 1,.z],[[.z]],fun n l1 z4 z5=>F0 n l1 z4 z5⟩,
 ⟨113,[0,1,4,23],[.ext 0],672,[.p (.ext 0) 0,.f 1,.z,.b],[[.z]],fun n l1 z4 b7 z5=>H6 n l1 z4 z5 b7⟩]⟩
noncomputable def sJ:Kz:=sg xB [dT] Tryz.func66 (by kernel_rfl) (by kernel_rfl) (by kernel_rfl)
def kH (n:Nat) (s1:BA) (l2:LD) (z3:Int):Option (Int):=
 bO1 (Nu n s1 z3) fun z4=>bO1 (dU n l2 z4) fun z5=>some z5
noncomputable def xC:BS:=⟨67,Tryz.f67,[.p (.ext 0) 0,.agg [.str,.f 1]],[[.z]],⟨.tup [],[[.z]],[]⟩,Int,inferInstance,kH,[]⟩
noncomputable def sK:Kz:=sg xC [dT,sJ] Tryz.func67 (by kernel_rfl) (by kernel_rfl) (by kernel_rfl)
mutual
def F1:Nat->LD->Int->Int->Option (Int)
 | 0,_,_,_=>none
 | n+1,l7,z13,z14=>
  AB l7 fun z15=>(if z13<z15 then (if (0:Int)<=z14 then H7 n l7 z13 z14 true else H7 n l7 z13 z14 false)else H7 n l7 z13 z14 false)
def H7:Nat->LD->Int->Int->Bool->Option (Int)
 | 0,_,_,_,_=>none
 | n+1,l7,z13,z14,b16=>
  (if b16=true then Ae l7 z13 fun x17=>Ao x17 fun z18 z19 s20 s21 s22 l23 l24 z25=>bO1 (Wy n z18 z19 s20 s21 s22 l23 l24 z25 z14) fun z26=>AE (IntKind.wrap .i64 (z13+1)) fun z27=>F1 n l7 z27 z26 else some z14)
def Wy:Nat->Int->Int->BA->BA->BA->LD->LD->Int->Int->Option (Int)
 | 0,_,_,_,_,_,_,_,_,_=>none
 | n+1,z1,z2,s3,s4,s5,l6,l7,z8,z9=>
  bO1 (Nu n s3 z9) fun z10=>bO1 (Nu n s4 z10) fun z11=>bO1 (kH n s5 l6 z11) fun z12=>F1 n l7 (0:Int) z12
end
noncomputable def sM:BS:=⟨30,Tryz.f30,[.p (.ext 0) 0,.agg [.y,.z,.str,.str,.str,.f 1,.q 8,.z]],[[.z]],⟨.tup [],[[.z]],[]⟩,Int,inferInstance,Wy,[⟨126,[0,3,4],[.ext 0,.loc 0],448,[.p (.ext 0) 0,.p (.loc 0) 0,.z],[[.z],[.y,.z,.str,.str,.str,.f 1,.q 8,.z]],fun n z13 z14 _ _ _ _ _ _ l7 _=>F1 n l7 z13 z14⟩,
 ⟨1009,[0,3,4,28],[.ext 0,.loc 0],832,[.p (.ext 0) 0,.p (.loc 0) 0,.z,.b],[[.z],[.y,.z,.str,.str,.str,.f 1,.q 8,.z]],fun n z13 b16 z14 _ _ _ _ _ _ l7 _=>H7 n l7 z13 z14 b16⟩]⟩
theorem xD:CF Tryz.prog inv (KU [sM]):=gr [dT,sK] ⟨⟨Tryz.func30,by kernel_rfl,by kernel_rfl,by kernel_rfl⟩,trivial⟩
noncomputable def kI:Kz:=⟨sM.c,xD.1⟩
mutual
def HQ:Nat->Int->BA->LD->Int->Bool->Option (Bool)
 | 0,_,_,_,_,_=>none
 | n+1,z1,s2,l3,z4,b5=>
  (if b5=true then some false else (if z1=(1:Int)then PO n z1 s2 l3 z4 true else PO n z1 s2 l3 z4 false))
def PO:Nat->Int->BA->LD->Int->Bool->Option (Bool)
 | 0,_,_,_,_,_=>none
 | n+1,z1,s2,l3,z4,b6=>
  (if b6=true then H8 n z1 s2 l3 z4 true else (if z1=(2:Int)then PQ n z1 s2 l3 z4 true else PQ n z1 s2 l3 z4 false))
def PQ:Nat->Int->BA->LD->Int->Bool->Option (Bool)
 | 0,_,_,_,_,_=>none
 | n+1,z1,s2,l3,z4,b7=>
  (if b7=true then H8 n z1 s2 l3 z4 true else (if z1=(3:Int)then PR n z1 s2 l3 z4 true else PR n z1 s2 l3 z4 false))
def PR:Nat->Int->BA->LD->Int->Bool->Option (Bool)
 | 0,_,_,_,_,_=>none
 | n+1,z1,s2,l3,z4,b8=>
  (if b8=true then H8 n z1 s2 l3 z4 true else (if z1=(10:Int)then H8 n z1 s2 l3 z4 true else H8 n z1 s2 l3 z4 false))
def H8:Nat->Int->BA->LD->Int->Bool->Option (Bool)
 | 0,_,_,_,_,_=>none
 | n+1,z1,s2,l3,z4,b9=>
  (if b9=true then (if s2=ByteArray.empty then AB l3 fun z10=>(if z10=(0:Int)then some true else some false)else some false)else (if z1=(4:Int)then Jg n s2 l3 z4 true else Jg n s2 l3 z4 false))
def Jg:Nat->BA->LD->Int->Bool->Option (Bool)
 | 0,_,_,_,_=>none
 | n+1,s2,l3,z4,b11=>
  (if b11=true then bO1 (Wk n s2) fun b12=>(if b12=true then AB l3 fun z13=>(if z13=(0:Int)then some true else some false)else some false)else (if s2=ByteArray.empty then AB l3 fun z14=>(if z14=(1:Int)then Ae l3 0 fun x15=>CM x15 fun z16 s17 l18=>AE (IntKind.wrap .i64 (z4 - 1)) fun z19=>bO1 (Tv n z16 s17 l18 z19) fun b20=>some b20 else some false)else some false))
def Tv:Nat->Int->BA->LD->Int->Option (Bool)
 | 0,_,_,_,_=>none
 | n+1,z1,s2,l3,z4=>
  (if z4<(1:Int)then HQ n z1 s2 l3 z4 true else (if z1<(1:Int)then HQ n z1 s2 l3 z4 true else (if (14:Int)<z1 then HQ n z1 s2 l3 z4 true else HQ n z1 s2 l3 z4 false)))
end
noncomputable def sN:BS:=⟨80,Tryz.f80,[.agg [.y,.str,.q 3],.z],[],⟨.one (.b),[],[]⟩,Bool,inferInstance,Tv,[⟨13,[1,2,4,16],[.loc 0],448,[.z,.p (.loc 0) 0,.one (.cb false),.b],[[.y,.str,.q 3]],fun n z4 b5 z1 s2 l3=>HQ n z1 s2 l3 z4 b5⟩,
 ⟨233,[1,2,4,18,19],[.loc 0],576,[.z,.p (.loc 0) 0,.one (.cb false),.y,.b],[[.y,.str,.q 3]],fun n z4 z1 b6 _ s2 l3=>PO n z1 s2 l3 z4 b6⟩,
 ⟨935,[1,2,4,18,19],[.loc 0],640,[.z,.p (.loc 0) 0,.one (.cb false),.y,.b],[[.y,.str,.q 3]],fun n z4 z1 b7 _ s2 l3=>PQ n z1 s2 l3 z4 b7⟩,
 ⟨3743,[1,2,4,18,19],[.loc 0],704,[.z,.p (.loc 0) 0,.one (.cb false),.y,.b],[[.y,.str,.q 3]],fun n z4 z1 b8 _ s2 l3=>PR n z1 s2 l3 z4 b8⟩,
 ⟨117,[1,2,4,18,19],[.loc 0],768,[.z,.p (.loc 0) 0,.one (.cb false),.y,.b],[[.y,.str,.q 3]],fun n z4 z1 b9 _ s2 l3=>H8 n z1 s2 l3 z4 b9⟩,
 ⟨471,[1,2,4,33],[.loc 0],832,[.z,.p (.loc 0) 0,.one (.cb false),.b],[[.y,.str,.q 3]],fun n z4 b11 _ s2 l3=>Jg n s2 l3 z4 b11⟩]⟩
theorem xE:CF Tryz.prog inv (KU [sN]):=gr [kF] ⟨⟨Tryz.func80,by kernel_rfl,by kernel_rfl,by kernel_rfl⟩,trivial⟩
noncomputable def sO:Kz:=⟨sN.c,xE.1⟩
end Go.Proofs.YtjmofeakajdbiaaGreatDoor
end
set_option linter.unusedVariables false
noncomputable section
namespace Go.Proofs.YtjmofeakajdbiaaGreatDoor
open Go Go.AM
theorem kJ {l:List D}(h:l.length=1):∃x0,l=[x0]:=by
 match l,h with
 | [x0],_=>exact⟨x0,rfl⟩
theorem bQ {l:List D}(h:l.length=3):∃x0 x1 x2,l=[x0,x1,x2]:=by
 match l,h with
 | [x0,x1,x2],_=>exact⟨x0,x1,x2,rfl⟩
theorem kK {l:List D}(h:l.length=4):∃x0 x1 x2 x3,l=[x0,x1,x2,x3]:=by
 match l,h with
 | [x0,x1,x2,x3],_=>exact⟨x0,x1,x2,x3,rfl⟩
theorem kL {l:List D}(h:l.length=8):∃x0 x1 x2 x3 x4 x5 x6 x7,l=[x0,x1,x2,x3,x4,x5,x6,x7]:=by
 match l,h with
 | [x0,x1,x2,x3,x4,x5,x6,x7],_=>exact⟨x0,x1,x2,x3,x4,x5,x6,x7,rfl⟩
theorem dV {l:List D}(h:l.length=15):∃x0 x1 x2 x3 x4 x5 x6 x7 x8 x9 x10 x11 x12 x13 x14,l=[x0,x1,x2,x3,x4,x5,x6,x7,x8,x9,x10,x11,x12,x13,x14]:=by
 match l,h with
 | [x0,x1,x2,x3,x4,x5,x6,x7,x8,x9,x10,x11,x12,x13,x14],_=>exact⟨x0,x1,x2,x3,x4,x5,x6,x7,x8,x9,x10,x11,x12,x13,x14,rfl⟩
theorem dW {l:List D}(h:l.length=16):∃x0 x1 x2 x3 x4 x5 x6 x7 x8 x9 x10 x11 x12 x13 x14 x15,l=[x0,x1,x2,x3,x4,x5,x6,x7,x8,x9,x10,x11,x12,x13,x14,x15]:=by
 match l,h with
 | [x0,x1,x2,x3,x4,x5,x6,x7,x8,x9,x10,x11,x12,x13,x14,x15],_=>exact⟨x0,x1,x2,x3,x4,x5,x6,x7,x8,x9,x10,x11,x12,x13,x14,x15,rfl⟩
theorem Yq {x:D}(h:FZ Ap 9 x):∃a0,x= .str a0∧a0.size≤maxLen:=by
 have hs:=h.mO (y:=CQ Ap 9) (by kernel_rfl) rfl
 have hl:=hs.flat 9 9 [9] [x] (by kernel_rfl)
 obtain⟨a0,rfl,w0⟩:=(hl.2 0 x 9 rfl rfl).Gj (x:=CQ Ap 9) (by kernel_rfl) rfl
 exact⟨_,rfl,w0⟩
theorem pW {x:D}(h:FZ Ap 24 x):∃a0,x= .agg [.list true 16 a0]∧AK Ap 45 a0:=by
 obtain⟨cs,rfl,hs⟩:=h.agg (y:=CQ Ap 24) (by kernel_rfl) rfl
 have hl:=hs.flat 9 24 [22] cs (by kernel_rfl)
 obtain⟨b0,rfl⟩:=kJ hl.1
 obtain⟨a0,e0,w0⟩:=(hl.2 0 b0 22 rfl rfl).Dk (x:=CQ Ap 22) (y:=CQ Ap 45) (by kernel_rfl) rfl (by kernel_rfl)
 obtain rfl:b0= .list true 16 a0:=e0
 exact⟨_,rfl,w0⟩
theorem YK {x:D}(h:FZ Ap 33 x):∃a0 a1 a2,x= .agg [.int .u8 a0,.str a1,.list true 3 a2]∧(Lit.int .u8 a0).wf=true∧a1.size≤maxLen∧AK Ap 33 a2:=by
 obtain⟨cs,rfl,hs⟩:=h.agg (y:=CQ Ap 33) (by kernel_rfl) rfl
 have hl:=hs.flat 9 33 [5,9,31] cs (by kernel_rfl)
 obtain⟨b0,b1,b2,rfl⟩:=bQ hl.1
 obtain⟨a0,rfl,w0⟩:=(hl.2 0 b0 5 rfl rfl).It (x:=CQ Ap 5) (by kernel_rfl) rfl
 obtain⟨a1,rfl,w1⟩:=(hl.2 1 b1 9 rfl rfl).Gj (x:=CQ Ap 9) (by kernel_rfl) rfl
 obtain⟨a2,e2,w2⟩:=(hl.2 2 b2 31 rfl rfl).Dk (x:=CQ Ap 31) (y:=CQ Ap 33) (by kernel_rfl) rfl (by kernel_rfl)
 obtain rfl:b2= .list true 3 a2:=e2
 exact⟨_,_,_,rfl,w0,w1,w2⟩
theorem NM {x:D}(h:FZ Ap 39 x):∃a0 a1 a2 a3 a4 a5 a6 a7,x= .agg [.int .u8 a0,.int .i64 a1,.str a2,.str a3,.str a4,.list false 1 a5,.list true 8 a6,.int .i64 a7]∧(Lit.int .u8 a0).wf=true∧(Lit.int .i64 a1).wf=true∧a2.size≤maxLen∧a3.size≤maxLen∧a4.size≤maxLen∧AK Ap 9 a5∧AK Ap 39 a6∧(Lit.int .i64 a7).wf=true:=by
 obtain⟨cs,rfl,hs⟩:=h.agg (y:=CQ Ap 39) (by kernel_rfl) rfl
 have hl:=hs.flat 9 39 [5,2,9,9,9,34,37,3] cs (by kernel_rfl)
 obtain⟨b0,b1,b2,b3,b4,b5,b6,b7,rfl⟩:=kL hl.1
 obtain⟨a0,rfl,w0⟩:=(hl.2 0 b0 5 rfl rfl).It (x:=CQ Ap 5) (by kernel_rfl) rfl
 obtain⟨a1,rfl,w1⟩:=(hl.2 1 b1 2 rfl rfl).It (x:=CQ Ap 2) (by kernel_rfl) rfl
 obtain⟨a2,rfl,w2⟩:=(hl.2 2 b2 9 rfl rfl).Gj (x:=CQ Ap 9) (by kernel_rfl) rfl
 obtain⟨a3,rfl,w3⟩:=(hl.2 3 b3 9 rfl rfl).Gj (x:=CQ Ap 9) (by kernel_rfl) rfl
 obtain⟨a4,rfl,w4⟩:=(hl.2 4 b4 9 rfl rfl).Gj (x:=CQ Ap 9) (by kernel_rfl) rfl
 obtain⟨a5,e5,w5⟩:=(hl.2 5 b5 34 rfl rfl).Dk (x:=CQ Ap 34) (y:=CQ Ap 9) (by kernel_rfl) rfl (by kernel_rfl)
 obtain rfl:b5= .list false 1 a5:=e5
 obtain⟨a6,e6,w6⟩:=(hl.2 6 b6 37 rfl rfl).Dk (x:=CQ Ap 37) (y:=CQ Ap 39) (by kernel_rfl) rfl (by kernel_rfl)
 obtain rfl:b6= .list true 8 a6:=e6
 obtain⟨a7,rfl,w7⟩:=(hl.2 7 b7 3 rfl rfl).It (x:=CQ Ap 3) (by kernel_rfl) rfl
 exact⟨_,_,_,_,_,_,_,_,rfl,w0,w1,w2,w3,w4,w5,w6,w7⟩
theorem Un {x:D}(h:FZ Ap 45 x):∃a0 a1 a2 a3 a4 a5 a6 a7 a8 a9 a10 a11 a12 a13 a14 a15,x= .agg [.int .u8 a0,.str a1,.list true 4 a2,.int .u8 a3,.str a4,.list true 3 a5,.list true 15 a6,.int .u8 a7,.int .i64 a8,.str a9,.str a10,.str a11,.list false 1 a12,.list true 8 a13,.int .i64 a14,.int .i64 a15]∧(Lit.int .u8 a0).wf=true∧a1.size≤maxLen∧AK Ap 74 a2∧(Lit.int .u8 a3).wf=true∧a4.size≤maxLen∧AK Ap 33 a5∧AK Ap 50 a6∧(Lit.int .u8 a7).wf=true∧(Lit.int .i64 a8).wf=true∧a9.size≤maxLen∧a10.size≤maxLen∧a11.size≤maxLen∧AK Ap 9 a12∧AK Ap 39 a13∧(Lit.int .i64 a14).wf=true∧(Lit.int .i64 a15).wf=true:=by
 obtain⟨cs,rfl,hs⟩:=h.agg (y:=CQ Ap 45) (by kernel_rfl) rfl
 have hl:=hs.flat 9 45 [5,9,42,5,9,31,43,5,2,9,9,9,34,37,3,3] cs (by kernel_rfl)
 obtain⟨b0,b1,b2,b3,b4,b5,b6,b7,b8,b9,b10,b11,b12,b13,b14,b15,rfl⟩:=dW hl.1
 obtain⟨a0,rfl,w0⟩:=(hl.2 0 b0 5 rfl rfl).It (x:=CQ Ap 5) (by kernel_rfl) rfl
 obtain⟨a1,rfl,w1⟩:=(hl.2 1 b1 9 rfl rfl).Gj (x:=CQ Ap 9) (by kernel_rfl) rfl
 obtain⟨a2,e2,w2⟩:=(hl.2 2 b2 42 rfl rfl).Dk (x:=CQ Ap 42) (y:=CQ Ap 74) (by kernel_rfl) rfl (by kernel_rfl)
 obtain rfl:b2= .list true 4 a2:=e2
 obtain⟨a3,rfl,w3⟩:=(hl.2 3 b3 5 rfl rfl).It (x:=CQ Ap 5) (by kernel_rfl) rfl
 obtain⟨a4,rfl,w4⟩:=(hl.2 4 b4 9 rfl rfl).Gj (x:=CQ Ap 9) (by kernel_rfl) rfl
 obtain⟨a5,e5,w5⟩:=(hl.2 5 b5 31 rfl rfl).Dk (x:=CQ Ap 31) (y:=CQ Ap 33) (by kernel_rfl) rfl (by kernel_rfl)
 obtain rfl:b5= .list true 3 a5:=e5
 obtain⟨a6,e6,w6⟩:=(hl.2 6 b6 43 rfl rfl).Dk (x:=CQ Ap 43) (y:=CQ Ap 50) (by kernel_rfl) rfl (by kernel_rfl)
 obtain rfl:b6= .list true 15 a6:=e6
 obtain⟨a7,rfl,w7⟩:=(hl.2 7 b7 5 rfl rfl).It (x:=CQ Ap 5) (by kernel_rfl) rfl
 obtain⟨a8,rfl,w8⟩:=(hl.2 8 b8 2 rfl rfl).It (x:=CQ Ap 2) (by kernel_rfl) rfl
 obtain⟨a9,rfl,w9⟩:=(hl.2 9 b9 9 rfl rfl).Gj (x:=CQ Ap 9) (by kernel_rfl) rfl
 obtain⟨a10,rfl,w10⟩:=(hl.2 10 b10 9 rfl rfl).Gj (x:=CQ Ap 9) (by kernel_rfl) rfl
 obtain⟨a11,rfl,w11⟩:=(hl.2 11 b11 9 rfl rfl).Gj (x:=CQ Ap 9) (by kernel_rfl) rfl
 obtain⟨a12,e12,w12⟩:=(hl.2 12 b12 34 rfl rfl).Dk (x:=CQ Ap 34) (y:=CQ Ap 9) (by kernel_rfl) rfl (by kernel_rfl)
 obtain rfl:b12= .list false 1 a12:=e12
 obtain⟨a13,e13,w13⟩:=(hl.2 13 b13 37 rfl rfl).Dk (x:=CQ Ap 37) (y:=CQ Ap 39) (by kernel_rfl) rfl (by kernel_rfl)
 obtain rfl:b13= .list true 8 a13:=e13
 obtain⟨a14,rfl,w14⟩:=(hl.2 14 b14 3 rfl rfl).It (x:=CQ Ap 3) (by kernel_rfl) rfl
 obtain⟨a15,rfl,w15⟩:=(hl.2 15 b15 3 rfl rfl).It (x:=CQ Ap 3) (by kernel_rfl) rfl
 exact⟨_,_,_,_,_,_,_,_,_,_,_,_,_,_,_,_,rfl,w0,w1,w2,w3,w4,w5,w6,w7,w8,w9,w10,w11,w12,w13,w14,w15⟩
theorem N9 {x:D}(h:FZ Ap 50 x):∃a0 a1 a2 a3 a4 a5 a6 a7 a8 a9 a10 a11 a12 a13 a14,x= .agg [.int .u8 a0,.str a1,.str a2,.list false 1 a3,.int .u8 a4,.str a5,.list true 3 a6,.int .i64 a7,.str a8,.list false 1 a9,.list true 8 a10,.list true 15 a11,.list true 15 a12,.list true 3 a13,.int .i64 a14]∧(Lit.int .u8 a0).wf=true∧a1.size≤maxLen∧a2.size≤maxLen∧AK Ap 9 a3∧(Lit.int .u8 a4).wf=true∧a5.size≤maxLen∧AK Ap 33 a6∧(Lit.int .i64 a7).wf=true∧a8.size≤maxLen∧AK Ap 9 a9∧AK Ap 39 a10∧AK Ap 50 a11∧AK Ap 50 a12∧AK Ap 95 a13∧(Lit.int .i64 a14).wf=true:=by
 obtain⟨cs,rfl,hs⟩:=h.agg (y:=CQ Ap 50) (by kernel_rfl) rfl
 have hl:=hs.flat 9 50 [5,9,9,34,5,9,31,2,9,34,37,43,43,48,3] cs (by kernel_rfl)
 obtain⟨b0,b1,b2,b3,b4,b5,b6,b7,b8,b9,b10,b11,b12,b13,b14,rfl⟩:=dV hl.1
 obtain⟨a0,rfl,w0⟩:=(hl.2 0 b0 5 rfl rfl).It (x:=CQ Ap 5) (by kernel_rfl) rfl
 obtain⟨a1,rfl,w1⟩:=(hl.2 1 b1 9 rfl rfl).Gj (x:=CQ Ap 9) (by kernel_rfl) rfl
 obtain⟨a2,rfl,w2⟩:=(hl.2 2 b2 9 rfl rfl).Gj (x:=CQ Ap 9) (by kernel_rfl) rfl
 obtain⟨a3,e3,w3⟩:=(hl.2 3 b3 34 rfl rfl).Dk (x:=CQ Ap 34) (y:=CQ Ap 9) (by kernel_rfl) rfl (by kernel_rfl)
 obtain rfl:b3= .list false 1 a3:=e3
 obtain⟨a4,rfl,w4⟩:=(hl.2 4 b4 5 rfl rfl).It (x:=CQ Ap 5) (by kernel_rfl) rfl
 obtain⟨a5,rfl,w5⟩:=(hl.2 5 b5 9 rfl rfl).Gj (x:=CQ Ap 9) (by kernel_rfl) rfl
 obtain⟨a6,e6,w6⟩:=(hl.2 6 b6 31 rfl rfl).Dk (x:=CQ Ap 31) (y:=CQ Ap 33) (by kernel_rfl) rfl (by kernel_rfl)
 obtain rfl:b6= .list true 3 a6:=e6
 obtain⟨a7,rfl,w7⟩:=(hl.2 7 b7 2 rfl rfl).It (x:=CQ Ap 2) (by kernel_rfl) rfl
 obtain⟨a8,rfl,w8⟩:=(hl.2 8 b8 9 rfl rfl).Gj (x:=CQ Ap 9) (by kernel_rfl) rfl
 obtain⟨a9,e9,w9⟩:=(hl.2 9 b9 34 rfl rfl).Dk (x:=CQ Ap 34) (y:=CQ Ap 9) (by kernel_rfl) rfl (by kernel_rfl)
 obtain rfl:b9= .list false 1 a9:=e9
 obtain⟨a10,e10,w10⟩:=(hl.2 10 b10 37 rfl rfl).Dk (x:=CQ Ap 37) (y:=CQ Ap 39) (by kernel_rfl) rfl (by kernel_rfl)
 obtain rfl:b10= .list true 8 a10:=e10
 obtain⟨a11,e11,w11⟩:=(hl.2 11 b11 43 rfl rfl).Dk (x:=CQ Ap 43) (y:=CQ Ap 50) (by kernel_rfl) rfl (by kernel_rfl)
 obtain rfl:b11= .list true 15 a11:=e11
 obtain⟨a12,e12,w12⟩:=(hl.2 12 b12 43 rfl rfl).Dk (x:=CQ Ap 43) (y:=CQ Ap 50) (by kernel_rfl) rfl (by kernel_rfl)
 obtain rfl:b12= .list true 15 a12:=e12
 obtain⟨a13,e13,w13⟩:=(hl.2 13 b13 48 rfl rfl).Dk (x:=CQ Ap 48) (y:=CQ Ap 95) (by kernel_rfl) rfl (by kernel_rfl)
 obtain rfl:b13= .list true 3 a13:=e13
 obtain⟨a14,rfl,w14⟩:=(hl.2 14 b14 3 rfl rfl).It (x:=CQ Ap 3) (by kernel_rfl) rfl
 exact⟨_,_,_,_,_,_,_,_,_,_,_,_,_,_,_,rfl,w0,w1,w2,w3,w4,w5,w6,w7,w8,w9,w10,w11,w12,w13,w14⟩
theorem Wm {x:D}(h:FZ Ap 74 x):∃a0 a1 a2 a3,x= .agg [.str a0,.int .u8 a1,.str a2,.list true 3 a3]∧a0.size≤maxLen∧(Lit.int .u8 a1).wf=true∧a2.size≤maxLen∧AK Ap 33 a3:=by
 obtain⟨cs,rfl,hs⟩:=h.agg (y:=CQ Ap 74) (by kernel_rfl) rfl
 have hl:=hs.flat 9 74 [9,5,9,31] cs (by kernel_rfl)
 obtain⟨b0,b1,b2,b3,rfl⟩:=kK hl.1
 obtain⟨a0,rfl,w0⟩:=(hl.2 0 b0 9 rfl rfl).Gj (x:=CQ Ap 9) (by kernel_rfl) rfl
 obtain⟨a1,rfl,w1⟩:=(hl.2 1 b1 5 rfl rfl).It (x:=CQ Ap 5) (by kernel_rfl) rfl
 obtain⟨a2,rfl,w2⟩:=(hl.2 2 b2 9 rfl rfl).Gj (x:=CQ Ap 9) (by kernel_rfl) rfl
 obtain⟨a3,e3,w3⟩:=(hl.2 3 b3 31 rfl rfl).Dk (x:=CQ Ap 31) (y:=CQ Ap 33) (by kernel_rfl) rfl (by kernel_rfl)
 obtain rfl:b3= .list true 3 a3:=e3
 exact⟨_,_,_,_,rfl,w0,w1,w2,w3⟩
theorem NN {x:D}(h:FZ Ap 95 x):∃a0 a1 a2,x= .agg [.str a0,.str a1,.list true 15 a2]∧a0.size≤maxLen∧a1.size≤maxLen∧AK Ap 50 a2:=by
 obtain⟨cs,rfl,hs⟩:=h.agg (y:=CQ Ap 95) (by kernel_rfl) rfl
 have hl:=hs.flat 9 95 [9,9,43] cs (by kernel_rfl)
 obtain⟨b0,b1,b2,rfl⟩:=bQ hl.1
 obtain⟨a0,rfl,w0⟩:=(hl.2 0 b0 9 rfl rfl).Gj (x:=CQ Ap 9) (by kernel_rfl) rfl
 obtain⟨a1,rfl,w1⟩:=(hl.2 1 b1 9 rfl rfl).Gj (x:=CQ Ap 9) (by kernel_rfl) rfl
 obtain⟨a2,e2,w2⟩:=(hl.2 2 b2 43 rfl rfl).Dk (x:=CQ Ap 43) (y:=CQ Ap 50) (by kernel_rfl) rfl (by kernel_rfl)
 obtain rfl:b2= .list true 15 a2:=e2
 exact⟨_,_,_,rfl,w0,w1,w2⟩
end Go.Proofs.YtjmofeakajdbiaaGreatDoor
end
set_option linter.unusedVariables false
noncomputable section
namespace Go.Proofs.YtjmofeakajdbiaaGreatDoor
open Go Go.AM
theorem CT {i N:Nat}(h:i<N):(i:Int)<(N:Int):=Int.ofNat_lt.2 h
abbrev Jh (z:Int):Prop:=z=1∨z=2∨z=3∨z=10
theorem Vp {z1:Int}{s2:ByteArray}(hs:s2.size≤maxLen) {l:List D}{z4:Int}{r:Bool}
  (h1:Jh z1→Ev (fun n=>C6 n z1 l z4 (0:Int) (decide (s2=ByteArray.empty))) r) (h2:z1=4→Ev (fun n=>C6 n z1 l z4 (0:Int) (nm 65 90 s2)) r)
  (h3:¬Jh z1→z1≠4→Ev (fun n=>C6 n z1 l z4 (1:Int) (decide (s2=ByteArray.empty))) r):Ev (fun n=>N4 n z1 s2 l z4) r:=by
 have go:∀b,b=decide (s2=ByteArray.empty)→Ev (fun n=>Hv n z1 s2 l z4 b) r:=by
  rintro b rfl
  have five:Jh z1→Ev (fun n=>FA n z1 s2 l z4 (decide (s2=ByteArray.empty)) true) r:=fun c=>.succ (by simp only[FA,if_true];exact h1 c)
  refine .succ ?_
  by_cases c1:z1=1
  ·simp only[Hv,if_pos c1]
   exact .succ (by simp only[Hw,if_true];exact five (.inl c1))
  simp only[Hv,if_neg c1]
  refine .succ ?_
  by_cases c2:z1=2
  ·simp only[Hw,Bool.false_eq_true,if_false,if_pos c2]
   exact .succ (by simp only[Hx,if_true];exact five (.inr (.inl c2)))
  simp only[Hw,Bool.false_eq_true,if_false,if_neg c2]
  refine .succ ?_
  by_cases c3:z1=3
  ·simp only[Hx,Bool.false_eq_true,if_false,if_pos c3]
   exact .succ (by simp only[Hy,if_true];exact five (.inr (.inr (.inl c3))))
  simp only[Hx,Bool.false_eq_true,if_false,if_neg c3]
  refine .succ ?_
  by_cases c10:z1=10
  ·simp only[Hy,Bool.false_eq_true,if_false,if_pos c10]
   exact five (.inr (.inr (.inr c10)))
  simp only[Hy,Bool.false_eq_true,if_false,if_neg c10]
  refine .succ ?_
  have nl:¬Jh z1:=by rintro (h | h | h | h)<;>contradiction
  by_cases c4:z1=4
  ·simp only[FA,Bool.false_eq_true,if_false,if_pos c4]
   refine .succ ?_
   simp only[JN,if_true]
   exact Ev.bO1 (RB hs) (h2 c4)
  ·simp only[FA,Bool.false_eq_true,if_false,if_neg c4]
   refine .succ ?_
   simp only[JN,Bool.false_eq_true,if_false]
   exact h3 nl c4
 refine .succ ?_
 by_cases c:s2=ByteArray.empty
 ·simp only[N4,if_pos c];exact go true (by simp[c])
 ·simp only[N4,if_neg c];exact go false (by simp[c])
theorem YL {z1:Int}{s2:ByteArray}(hs:s2.size≤maxLen) {l:List D}{z4:Int}{r:Bool}(g4:¬z4<1) (g1:¬z1<1) (g14:¬14<z1)
  (h1:Jh z1→r=(decide (s2=ByteArray.empty)&&decide (l.length=0))) (h2:z1=4→r=(nm 65 90 s2&&decide (l.length=0)))
  (h3:¬Jh z1→z1≠4→Ev (fun n=>Jg n s2 l z4 false) r):Ev (fun n=>Tv n z1 s2 l z4) r:=by
 have five:Jh z1→Ev (fun n=>H8 n z1 s2 l z4 true) r:=fun c=>.succ (by
  rw[h1 c]
  simp only[H8,if_true,AB]
  by_cases e:s2=ByteArray.empty
  ·by_cases e2:l.length=0
   ·simp only[if_pos e,if_pos (show (l.length:Int)=0 by omega),decide_eq_true e,decide_eq_true e2];exact .ret
   ·simp only[if_pos e,if_neg (show ¬(l.length:Int)=0 by omega),decide_eq_true e,decide_eq_false e2];exact .ret
  ·simp only[if_neg e,decide_eq_false e];exact .ret)
 refine .succ ?_
 simp only[Tv,if_neg g4,if_neg g1,if_neg g14]
 refine .succ ?_
 by_cases c1:z1=1
 ·simp only[HQ,Bool.false_eq_true,if_false,if_pos c1]
  exact .succ (by simp only[PO,if_true];exact five (.inl c1))
 simp only[HQ,Bool.false_eq_true,if_false,if_neg c1]
 refine .succ ?_
 by_cases c2:z1=2
 ·simp only[PO,Bool.false_eq_true,if_false,if_pos c2]
  exact .succ (by simp only[PQ,if_true];exact five (.inr (.inl c2)))
 simp only[PO,Bool.false_eq_true,if_false,if_neg c2]
 refine .succ ?_
 by_cases c3:z1=3
 ·simp only[PQ,Bool.false_eq_true,if_false,if_pos c3]
  exact .succ (by simp only[PR,if_true];exact five (.inr (.inr (.inl c3))))
 simp only[PQ,Bool.false_eq_true,if_false,if_neg c3]
 refine .succ ?_
 by_cases c10:z1=10
 ·simp only[PR,Bool.false_eq_true,if_false,if_pos c10]
  exact five (.inr (.inr (.inr c10)))
 simp only[PR,Bool.false_eq_true,if_false,if_neg c10]
 refine .succ ?_
 have nl:¬Jh z1:=by rintro (h | h | h | h)<;>contradiction
 by_cases c4:z1=4
 ·simp only[H8,Bool.false_eq_true,if_false,if_pos c4]
  refine .succ ?_
  simp only[Jg,if_true]
  refine Ev.bO1 (S4 hs) ?_
  rw[h2 c4]
  cases hn:nm 65 90 s2
  ·simp only[Bool.false_eq_true,if_false,Bool.false_and];exact .ret
  ·by_cases e2:l.length=0
   ·simp only[if_true,AB,if_pos (show (l.length:Int)=0 by omega),decide_eq_true e2,Bool.true_and];exact .ret
   ·simp only[if_true,AB,if_neg (show ¬(l.length:Int)=0 by omega),decide_eq_false e2,Bool.true_and];exact .ret
 ·simp only[H8,Bool.false_eq_true,if_false,if_neg c4]
  exact h3 nl c4
theorem NP (l:List D):AK Ap 33 l→∀z1 (s2:ByteArray) (z4:Int),s2.size≤maxLen→0≤z4→z4≤40→LM (fun n=>N4 n z1 s2 l z4) (fun n=>Tv n z1 s2 l z4):=by
 refine Bt (P:=fun l=>AK Ap 33 l→∀z1 (s2:ByteArray) (z4:Int),s2.size≤maxLen→0≤z4→z4≤40→LM (fun n=>N4 n z1 s2 l z4) (fun n=>Tv n z1 s2 l z4)) (fun l ih h z1 s2 z4 hs h0 h40=>?_) l
 by_cases g:z4<1∨z1<1∨14<z1
 ·have e7:∀z12 b,Ev (fun n=>C6 n z1 l z4 z12 b) false:=by
   intro z12 b
   refine .succ ?_
   rcases g with g | g | g
   ·simp only[C6,if_neg (show ¬0<z4 by omega)];exact .ret
   ·simp only[C6,if_neg (show ¬1≤z1 by omega),ite_self];exact .ret
   ·simp only[C6,if_neg (show ¬z1≤14 by omega),ite_self];exact .ret
  refine⟨false,Vp hs (fun _=>e7 _ _) (fun _=>e7 _ _) (fun _ _=>e7 _ _),.succ ?_⟩
  have stop:Ev (fun n=>HQ n z1 s2 l z4 true) false:=.succ (by simp only[HQ,if_true];exact .ret)
  rcases g with g | g | g
  ·simp only[Tv,if_pos g];exact stop
  ·simp only[Tv,if_pos g,ite_self];exact stop
  ·simp only[Tv,if_pos g,ite_self];exact stop
 ·have g4:¬z4<1:=fun x=>g (.inl x)
  have g1:¬z1<1:=fun x=>g (.inr (.inl x))
  have g14:¬14<z1:=fun x=>g (.inr (.inr x))
  have zero:∀b,Ev (fun n=>C6 n z1 l z4 0 b) (b&&decide (l.length=0)):=by
   intro b
   refine .succ ?_
   simp only[C6,if_pos (show 0<z4 by omega),if_pos (show 1≤z1 by omega),if_pos (show z1≤14 by omega),AB]
   cases b
   ·simp only[Bool.false_eq_true,if_false,Bool.false_and];exact .ret
   ·by_cases e:l.length=0
    ·simp only[if_true,if_pos (show (l.length:Int)=0 by omega),decide_eq_true e,Bool.true_and]
     refine Ev.bO2 (a:=true) (b:=z4) ?_ .ret
     refine .succ (.succ ?_)
     simp only[YE,FK,AB,if_neg (show ¬(0:Int)<(l.length:Int)by omega)]
     exact .succ (by simp only[Ej,Bool.false_eq_true,if_false,AB,if_pos (show (l.length:Int)≤1 by omega)];exact .ret)
    ·simp only[if_true,if_neg (show ¬(l.length:Int)=0 by omega),decide_eq_false e,Bool.true_and];exact .ret
  by_cases hl:Jh z1
  ·have n4:z1≠4:=by rcases hl with h | h | h | h<;>omega
   exact⟨_,Vp hs (fun _=>zero _) (fun h=>absurd h n4) (fun h=>absurd hl h),YL hs g4 g1 g14 (fun _=>rfl) (fun h=>absurd h n4) (fun h=>absurd hl h)⟩
  by_cases h4:z1=4
  ·exact⟨_,Vp hs (fun h=>absurd h hl) (fun _=>zero _) (fun _ h=>absurd h4 h),YL hs g4 g1 g14 (fun h=>absurd h hl) (fun _=>rfl) (fun _ h=>absurd h4 h)⟩
  -- one child
  suffices H:∃r,Ev (fun n=>C6 n z1 l z4 1 (decide (s2=ByteArray.empty))) r∧Ev (fun n=>Jg n s2 l z4 false) r by
   obtain⟨r,q1,q2⟩:=H
   exact⟨r,Vp hs (fun h=>absurd h hl) (fun h=>absurd h h4) (fun _ _=>q1),YL hs g4 g1 g14 (fun h=>absurd h hl) (fun h=>absurd h h4) (fun _ _=>q2)⟩
  by_cases e:s2=ByteArray.empty
  ·by_cases e1:l.length=1
   ·obtain⟨x,hx,hm,hr⟩:=h.get (show 0<l.length by omega)
    obtain⟨a,s,l',rfl,_,hs',hl'⟩:=YK hr
    have w:IntKind.i64.wrap (z4 - 1)=z4 - 1:=IntWalk.i64_in _ (by omega)
    obtain⟨r,q1,q2⟩:=ih l' (Au (ag:=true) (sz:=3) hm (by simp)) hl' a s (z4 - 1) hs' (by omega) (by omega)
    have gx:∀{γ:Type} (k:D→Option γ),Ae l (0:Int) k=k (.agg [.int .u8 a,.str s,.list true 3 l']):=fun k=>AG (i:=0) hx
    refine⟨r,.succ ?_,.succ ?_⟩
    ·simp only[C6,if_pos (show 0<z4 by omega),if_pos (show 1≤z1 by omega),if_pos (show z1≤14 by omega),AB,decide_eq_true e,if_true,if_pos (show (l.length:Int)=1 by omega)]
     refine Ev.bO2 (a:=r) (b:=z4) ?_ .ret
     refine .succ (.succ ?_)
     simp only[YE,FK,AB,if_pos (show (0:Int)<(l.length:Int)by omega),if_pos (show (0:Int)<1 by omega)]
     refine .succ ?_
     simp only[Ej,if_true,gx,CM]
     refine Ev.bO2 (a:=r) (b:=z4) (.succ ?_) ?_
     ·simp only[Zc,AE,w]
      exact Ev.bO1 q1 .ret
     ·simp only[AI]
      cases r
      ·simp only[Bool.not_false,if_true];exact .ret
      ·have w1:IntKind.i64.wrap ((0:Int)+1)=1:=rfl
       simp only[Bool.not_true,Bool.false_eq_true,if_false,AE,w1]
       refine .succ ?_
       simp only[FK,AB,if_neg (show ¬(1:Int)<(l.length:Int)by omega)]
       exact .succ (by simp only[Ej,Bool.false_eq_true,if_false,AB,if_pos (show (l.length:Int)≤1 by omega)];exact .ret)
    ·simp only[Jg,Bool.false_eq_true,if_false,if_pos e,AB,if_pos (show (l.length:Int)=1 by omega),gx,CM,AE,w]
     exact Ev.bO1 q2 .ret
   ·refine⟨false,.succ ?_,.succ ?_⟩
    ·simp only[C6,if_neg (show ¬(l.length:Int)=1 by omega),AB,ite_self];exact .ret
    ·simp only[Jg,Bool.false_eq_true,if_false,if_pos e,AB,if_neg (show ¬(l.length:Int)=1 by omega)];exact .ret
  ·refine⟨false,.succ ?_,.succ ?_⟩
   ·simp only[C6,decide_eq_false e,Bool.false_eq_true,if_false,ite_self];exact .ret
   ·simp only[Jg,Bool.false_eq_true,if_false,if_neg e];exact .ret
end Go.Proofs.YtjmofeakajdbiaaGreatDoor
set_option linter.unusedVariables false
noncomputable section
namespace Go.Proofs.YtjmofeakajdbiaaGreatDoor
open Go Go.AM
def HR:Nat->Int->Bool->Option (BA)
 | 0,_,_=>none
 | n+1,z1,b3=>
  (if b3=true then some ByteArray.empty else Ae ([.str ByteArray.empty,.str cN,.str cO,.str nM,.str Ia,.str Ia,.str Ia,.str N2,.str N2,.str Qi,.str Qi,.str Qi,.str Qi,.str Qi,.str Qi,.str Qi,.str Qi,.str Qi,.str cQ,.str Xf,.str Xg,.str N2,.str N2,.str N2,.str Ia,.str Qj,.str N2,.str N2,.str Ia,.str N2,.str N2,.str N2,.str Ia,.str Qj,.str Qj,.str Qj,.str Ia]) z1 fun x4=>Bc x4 fun s5=>some s5)
def S5 (n:Nat) (z1:Int):Option (BA):=
 AE (IntKind.wrap .i64 z1) fun z2=>(if (37:Int)<=z2 then HR n z1 true else HR n z1 false)
theorem pX (n:Nat):∀⦃z1 r1⦄,S5 n z1=some r1->
    BB Tryz.prog inv 132 [.d (.int .u8 z1)] [] (.v (.d (.str r1))) [] []:=by
 intro z1 r1 h
 unfold S5 at h
 refine BB.of BU BK Ht Tryz.func132 rfl (by kernel_rfl) rfl rfl rfl (fun M hM hI=>?_)
 try cbv
 refine AD ?_
 try cbv
 refine AD ?_
 try cbv
 refine⟨false,?_⟩
 try cbv
 refine⟨true,?_⟩
 try cbv
 refine AD ?_
 try cbv
 refine AJ 9 [0,2,3,9] [] 256 (fun m b=>m<=n/\HR m z1 b=some r1) ?_ ?_
 ·try cbv
  replace h:=Aa h
  obtain⟨z2,hz,h⟩:=h
  refine⟨z2,hz,?_⟩
  clear hz
  try cbv
  refine⟨37,(M.lenI_eq _).trans rfl,?_⟩
  try cbv
  refine GC (fun e=>?_) (fun e=>?_)
  ·replace h:=Ag e h
   clear e
   try cbv
   exact AA (n,true) [0,2,3,9] [] 256 ⟨by omega,h⟩ (by cbv)
  replace h:=Ah (Int.not_le.2 e) h
  clear e
  try cbv
  exact AA (n,false) [0,2,3,9] [] 256 ⟨by omega,h⟩ (by cbv)
 clear h
 rintro⟨m1,b3⟩ ⟨hm1,h⟩
 try cbv
 replace hm1:m1<=n:=hm1
 obtain _ | m1:=m1
 ·replace h:HR 0 z1 b3=some r1:=h
  rw[HR]at h
  cases h
 replace h:HR (m1+1) z1 b3=some r1:=h
 rw[HR]at h
 try cbv
 cases b3
 ·replace h:=Bz h
  try cbv
  refine AD ?_
  try cbv
  replace h:=Az h
  obtain⟨x4,⟨hx0,hx⟩,h⟩:=h
  refine⟨x4,hx0,hx,?_⟩
  clear hx0 hx
  replace h:=Eh h
  obtain⟨s5,rfl,h⟩:=h
  try cbv
  obtain rfl:=Option.some.inj h
  refine AZ ?_
  try cbv
  exact⟨[],by trivial⟩
 replace h:=Bx h
 try cbv
 refine AD ?_
 try cbv
 obtain rfl:=Option.some.inj h
 refine AZ ?_
 try cbv
 exact⟨[],by trivial⟩
noncomputable def pY:BW:=⟨132,[.y],[],[⟨.one (.s),[],[]⟩],BA,inferInstance,S5⟩
noncomputable def pZ:Kz:=⟨pY,fun n=>Di fun z1 p h w1 w2 w4 w3 l1 l2 e1 e2 e5 e3 xs e4=>by cases e1;cases e2;cases e4;cases e5;cases e3;exact pX n h⟩
def Uo:Nat->BA->Int->Bool->Option (Bool)
 | 0,_,_,_=>none
 | n+1,s1,z2,b7=>
  (if b7=true then (if z2<=(1:Int)then some true else some false)else Ns s1 fun z8=>AE (IntKind.wrap .i64 (z8 - 1)) fun z9=>Tu s1 z9 fun z10=>AE (IntKind.wrap .u8 (z10 - 48)) fun z11=>AE (IntKind.wrap .i64 z11) fun z12=>(if z2=z12 then some true else some false))
def Up:Nat->BA->Int->Int->Bool->Option (Bool)
 | 0,_,_,_,_=>none
 | n+1,s1,z2,z5,b6=>
  (if b6=true then (if z2<=(6:Int)then some true else some false)else (if z5=(57:Int)then Uo n s1 z2 true else Uo n s1 z2 false))
def Ji (n:Nat) (s1:BA) (z2:Int):Option (Bool):=
 Ns s1 fun z3=>AE (IntKind.wrap .i64 (z3 - 1)) fun z4=>Tu s1 z4 fun z5=>(if z5=(54:Int)then Up n s1 z2 z5 true else Up n s1 z2 z5 false)
noncomputable def qA:BS:=⟨133,Tryz.f133,[.s,.z],[],⟨.one (.b),[],[]⟩,Bool,inferInstance,Ji,[⟨53,[0,1,4,9,10],[],256,[.s,.z,.one (.cb false),.y,.b],[],fun n s1 z2 z5 b6=>Up n s1 z2 z5 b6⟩,
 ⟨215,[0,1,4,14],[],320,[.s,.z,.one (.cb false),.b],[],fun n s1 z2 b7=>Uo n s1 z2 b7⟩]⟩
noncomputable def qB:Kz:=sg qA [] Tryz.func133 (by kernel_rfl) (by kernel_rfl) (by kernel_rfl)
mutual
def Uq:Nat->BA->Int->Int->Option (Bool)
 | 0,_,_,_=>none
 | n+1,s1,z2,z3=>
  Ns s1 fun z4=>(if z3<z4 then Ur n s1 z2 z3 true else Ur n s1 z2 z3 false)
def Ur:Nat->BA->Int->Int->Bool->Option (Bool)
 | 0,_,_,_,_=>none
 | n+1,s1,z2,z3,b5=>
  (if b5=true then Tu s1 z3 fun z6=>(if z6=z2 then Us n s1 z2 z3 true else Us n s1 z2 z3 false)else some false)
def Us:Nat->BA->Int->Int->Bool->Option (Bool)
 | 0,_,_,_,_=>none
 | n+1,s1,z2,z3,b7=>
  (if b7=true then some true else AE (IntKind.wrap .i64 (z3+1)) fun z8=>Uq n s1 z2 z8)
end
def BI (n:Nat) (s1:BA) (z2:Int):Option (Bool):=
 Uq n s1 z2 (0:Int)
noncomputable def qC:BS:=⟨134,Tryz.f134,[.s,.y],[],⟨.one (.b),[],[]⟩,Bool,inferInstance,BI,[⟨26,[0,1,4,5],[],64,[.s,.y,.one (.cb false),.z],[],fun n s1 z2 z3=>Uq n s1 z2 z3⟩,
 ⟨209,[0,1,4,5,9],[],192,[.s,.y,.one (.cb false),.z,.b],[],fun n s1 z2 z3 b5=>Ur n s1 z2 z3 b5⟩,
 ⟨841,[0,1,4,5,16],[],352,[.s,.y,.one (.cb false),.z,.b],[],fun n s1 z2 z3 b7=>Us n s1 z2 z3 b7⟩]⟩
noncomputable def dX:Kz:=sg qC [] Tryz.func134 (by kernel_rfl) (by kernel_rfl) (by kernel_rfl)
mutual
def KZ:Nat->LD->Int->Option (Bool)
 | 0,_,_=>none
 | n+1,l2,z7=>
  AB l2 fun z8=>(if z7<z8 then NQ n l2 z7 true else NQ n l2 z7 false)
def NQ:Nat->LD->Int->Bool->Option (Bool)
 | 0,_,_,_=>none
 | n+1,l2,z7,b9=>
  (if b9=true then Ae l2 z7 fun x10=>Bc x10 fun s11=>(if s11=iK then Ka n l2 z7 false else Ae l2 z7 fun x12=>Bc x12 fun s13=>bO1 (Wx n s13) fun b14=>AI (!b14) fun b15=>Ka n l2 z7 b15)else some true)
def Ka:Nat->LD->Int->Bool->Option (Bool)
 | 0,_,_,_=>none
 | n+1,l2,z7,b16=>
  (if b16=true then some false else AE (IntKind.wrap .i64 (z7+1)) fun z17=>KZ n l2 z17)
end
def Ik:Nat->LD->Bool->Option (Bool)
 | 0,_,_=>none
 | n+1,l2,b6=>
  (if b6=true then some false else KZ n l2 (0:Int))
def YM (n:Nat) (s1:BA) (l2:LD):Option (Bool):=
 bO1 (Wx n s1) fun b3=>AI (!b3) fun b4=>(if b4=true then Ik n l2 true else AB l2 fun z5=>(if (40:Int)<z5 then Ik n l2 true else Ik n l2 false))
noncomputable def qD:BS:=⟨135,Tryz.f135,[.agg [.str,.f 1]],[],⟨.one (.b),[],[]⟩,Bool,inferInstance,YM,[⟨13,[1,2,13],[.loc 0],384,[.p (.loc 0) 0,.one (.cb false),.b],[[.str,.f 1]],fun n b6 _ l2=>Ik n l2 b6⟩,
 ⟨58,[1,2,3],[.loc 0],416,[.p (.loc 0) 0,.one (.cb false),.z],[[.str,.f 1]],fun n z7 _ l2=>KZ n l2 z7⟩,
 ⟨465,[1,2,3,18],[.loc 0],576,[.p (.loc 0) 0,.one (.cb false),.z,.b],[[.str,.f 1]],fun n z7 b9 _ l2=>NQ n l2 z7 b9⟩,
 ⟨1865,[1,2,3,35],[.loc 0],1056,[.p (.loc 0) 0,.one (.cb false),.z,.b],[[.str,.f 1]],fun n z7 b16 _ l2=>Ka n l2 z7 b16⟩]⟩
noncomputable def kM:Kz:=sg qD [gJ] Tryz.func135 (by kernel_rfl) (by kernel_rfl) (by kernel_rfl)
mutual
def Kb:Nat->LD->Int->Option (Bool)
 | 0,_,_=>none
 | n+1,l6,z12=>
  AB l6 fun z13=>(if z12<z13 then NR n l6 z12 true else NR n l6 z12 false)
def NR:Nat->LD->Int->Bool->Option (Bool)
 | 0,_,_,_=>none
 | n+1,l6,z12,b14=>
  (if b14=true then Ae l6 z12 fun x15=>Bc x15 fun s16=>bO1 (Wx n s16) fun b17=>AI (!b17) fun b18=>(if b18=true then some false else AE (IntKind.wrap .i64 (z12+1)) fun z19=>Kb n l6 z19)else some true)
end
def Il:Nat->LD->Bool->Option (Bool)
 | 0,_,_=>none
 | n+1,l6,b11=>
  (if b11=true then some false else Kb n l6 (0:Int))
def Zk (n:Nat) (z1:Int) (z2:Int) (s3:BA) (s4:BA) (s5:BA) (l6:LD) (l7:LD) (z8:Int):Option (Bool):=
 (if s5=ByteArray.empty then AB l6 fun z9=>AB l7 fun z10=>(if z9=z10 then Il n l6 false else Il n l6 true)else Il n l6 true)
noncomputable def qE:BS:=⟨136,Tryz.f136,[.agg [.y,.z,.str,.str,.str,.f 1,.q 8,.z]],[],⟨.one (.b),[],[]⟩,Bool,inferInstance,Zk,[⟨13,[1,2,17],[.loc 0],512,[.p (.loc 0) 0,.one (.cb false),.b],[[.y,.z,.str,.str,.str,.f 1,.q 8,.z]],fun n b11 _ _ _ _ _ l6 _ _=>Il n l6 b11⟩,
 ⟨58,[1,2,3],[.loc 0],544,[.p (.loc 0) 0,.one (.cb false),.z],[[.y,.z,.str,.str,.str,.f 1,.q 8,.z]],fun n z12 _ _ _ _ _ l6 _ _=>Kb n l6 z12⟩,
 ⟨465,[1,2,3,23],[.loc 0],736,[.p (.loc 0) 0,.one (.cb false),.z,.b],[[.y,.z,.str,.str,.str,.f 1,.q 8,.z]],fun n z12 b14 _ _ _ _ _ l6 _ _=>NR n l6 z12 b14⟩]⟩
noncomputable def qF:Kz:=sg qE [gJ] Tryz.func136 (by kernel_rfl) (by kernel_rfl) (by kernel_rfl)
def Zl (n:Nat) (z1:Int) (z2:Int) (s3:BA) (s4:BA) (s5:BA) (l6:LD) (l7:LD) (z8:Int):Option (Bool):=
 (if z1=(5:Int)then some true else (if z1=(6:Int)then some true else some false))
noncomputable def xF:BS:=⟨83,Tryz.f83,[.agg [.y,.z,.str,.str,.str,.f 1,.q 8,.z]],[],⟨.one (.b),[],[]⟩,Bool,inferInstance,Zl,[]⟩
noncomputable def qG:Kz:=sg xF [] Tryz.func83 (by kernel_rfl) (by kernel_rfl) (by kernel_rfl)
mutual
def LN:Nat->Int->Int->BA->BA->BA->LD->LD->Int->Int->BA->Bool->Option (Bool)
 | 0,_,_,_,_,_,_,_,_,_,_,_=>none
 | n+1,z1,z2,s3,s4,s5,l6,l7,z8,z9,s10,b14=>
  (if b14=true then some false else bO1 (BI n s10 (105:Int)) fun b15=>(if b15=true then (if z2<(0:Int)then S6 n z1 z2 s3 s4 s5 l6 l7 z8 z9 s10 true else S6 n z1 z2 s3 s4 s5 l6 l7 z8 z9 s10 false)else bO1 (BI n s10 (98:Int)) fun b17=>(if b17=true then (if z2=(0:Int)then NS n z1 z2 s3 s4 s5 l6 l7 z8 z9 s10 false else (if z2=(1:Int)then NS n z1 z2 s3 s4 s5 l6 l7 z8 z9 s10 false else NS n z1 z2 s3 s4 s5 l6 l7 z8 z9 s10 true))else (if z2=(0:Int)then S7 n z1 z2 s3 s4 s5 l6 l7 z8 z9 s10 false else S7 n z1 z2 s3 s4 s5 l6 l7 z8 z9 s10 true))))
def S6:Nat->Int->Int->BA->BA->BA->LD->LD->Int->Int->BA->Bool->Option (Bool)
 | 0,_,_,_,_,_,_,_,_,_,_,_=>none
 | n+1,z1,z2,s3,s4,s5,l6,l7,z8,z9,s10,b16=>
  (if b16=true then some false else PS n z1 z2 s3 s4 s5 l6 l7 z8 z9 s10)
def NS:Nat->Int->Int->BA->BA->BA->LD->LD->Int->Int->BA->Bool->Option (Bool)
 | 0,_,_,_,_,_,_,_,_,_,_,_=>none
 | n+1,z1,z2,s3,s4,s5,l6,l7,z8,z9,s10,b18=>
  (if b18=true then some false else PS n z1 z2 s3 s4 s5 l6 l7 z8 z9 s10)
def S7:Nat->Int->Int->BA->BA->BA->LD->LD->Int->Int->BA->Bool->Option (Bool)
 | 0,_,_,_,_,_,_,_,_,_,_,_=>none
 | n+1,z1,z2,s3,s4,s5,l6,l7,z8,z9,s10,b19=>
  (if b19=true then some false else PS n z1 z2 s3 s4 s5 l6 l7 z8 z9 s10)
def PS:Nat->Int->Int->BA->BA->BA->LD->LD->Int->Int->BA->Option (Bool)
 | 0,_,_,_,_,_,_,_,_,_,_=>none
 | n+1,z1,z2,s3,s4,s5,l6,l7,z8,z9,s10=>
  bO1 (BI n s10 (112:Int)) fun b20=>(if b20=true then bO1 (YM n s5 l6) fun b21=>AI (!b21) fun b22=>(if b22=true then some false else PT n z1 s3 s4 l7 z9 s10)else bO1 (BI n s10 (102:Int)) fun b23=>(if b23=true then bO1 (Zk n z1 z2 s3 s4 s5 l6 l7 z8) fun b24=>AI (!b24) fun b25=>(if b25=true then some false else PT n z1 s3 s4 l7 z9 s10)else (if s5=ByteArray.empty then AB l6 fun z26=>(if (0:Int)<z26 then NT n z1 s3 s4 l7 z9 s10 true else NT n z1 s3 s4 l7 z9 s10 false)else NT n z1 s3 s4 l7 z9 s10 true)))
def NT:Nat->Int->BA->BA->LD->Int->BA->Bool->Option (Bool)
 | 0,_,_,_,_,_,_,_=>none
 | n+1,z1,s3,s4,l7,z9,s10,b27=>
  (if b27=true then some false else PT n z1 s3 s4 l7 z9 s10)
def PT:Nat->Int->BA->BA->LD->Int->BA->Option (Bool)
 | 0,_,_,_,_,_,_=>none
 | n+1,z1,s3,s4,l7,z9,s10=>
  bO1 (BI n s10 (110:Int)) fun b28=>(if b28=true then bO1 (Wx n s3) fun b29=>AI (!b29) fun b30=>(if b30=true then Cn n z1 s4 l7 z9 s10 true else bO1 (BI n s10 (116:Int)) fun b31=>(if b31=true then bO1 (Wk n s3) fun b32=>AI (!b32) fun b33=>(if b33=true then Cn n z1 s4 l7 z9 s10 true else bO1 (BI n s10 (110:Int)) fun b34=>AI (!b34) fun b35=>(if b35=true then bO1 (BI n s10 (116:Int)) fun b36=>AI (!b36) fun b37=>(if b37=true then (if s3=ByteArray.empty then Cn n z1 s4 l7 z9 s10 false else Cn n z1 s4 l7 z9 s10 true)else Cn n z1 s4 l7 z9 s10 false)else Cn n z1 s4 l7 z9 s10 false))else bO1 (BI n s10 (110:Int)) fun b38=>AI (!b38) fun b39=>(if b39=true then bO1 (BI n s10 (116:Int)) fun b40=>AI (!b40) fun b41=>(if b41=true then (if s3=ByteArray.empty then Cn n z1 s4 l7 z9 s10 false else Cn n z1 s4 l7 z9 s10 true)else Cn n z1 s4 l7 z9 s10 false)else Cn n z1 s4 l7 z9 s10 false)))else bO1 (BI n s10 (116:Int)) fun b42=>(if b42=true then bO1 (Wk n s3) fun b43=>AI (!b43) fun b44=>(if b44=true then Cn n z1 s4 l7 z9 s10 true else bO1 (BI n s10 (110:Int)) fun b45=>AI (!b45) fun b46=>(if b46=true then bO1 (BI n s10 (116:Int)) fun b47=>AI (!b47) fun b48=>(if b48=true then (if s3=ByteArray.empty then Cn n z1 s4 l7 z9 s10 false else Cn n z1 s4 l7 z9 s10 true)else Cn n z1 s4 l7 z9 s10 false)else Cn n z1 s4 l7 z9 s10 false))else bO1 (BI n s10 (110:Int)) fun b49=>AI (!b49) fun b50=>(if b50=true then bO1 (BI n s10 (116:Int)) fun b51=>AI (!b51) fun b52=>(if b52=true then (if s3=ByteArray.empty then Cn n z1 s4 l7 z9 s10 false else Cn n z1 s4 l7 z9 s10 true)else Cn n z1 s4 l7 z9 s10 false)else Cn n z1 s4 l7 z9 s10 false)))
def Cn:Nat->Int->BA->LD->Int->BA->Bool->Option (Bool)
 | 0,_,_,_,_,_,_=>none
 | n+1,z1,s4,l7,z9,s10,b53=>
  (if b53=true then some false else bO1 (BI n s10 (118:Int)) fun b54=>(if b54=true then bO1 (Wk n s4) fun b55=>AI (!b55) fun b56=>(if b56=true then HS n z1 l7 z9 true else bO1 (BI n s10 (118:Int)) fun b57=>AI (!b57) fun b58=>(if b58=true then (if s4=ByteArray.empty then HS n z1 l7 z9 false else HS n z1 l7 z9 true)else HS n z1 l7 z9 false))else bO1 (BI n s10 (118:Int)) fun b59=>AI (!b59) fun b60=>(if b60=true then (if s4=ByteArray.empty then HS n z1 l7 z9 false else HS n z1 l7 z9 true)else HS n z1 l7 z9 false)))
def HS:Nat->Int->LD->Int->Bool->Option (Bool)
 | 0,_,_,_,_=>none
 | n+1,z1,l7,z9,b61=>
  (if b61=true then some false else EK n z1 l7 z9 (0:Int))
def EK:Nat->Int->LD->Int->Int->Option (Bool)
 | 0,_,_,_,_=>none
 | n+1,z1,l7,z9,z62=>
  AB l7 fun z63=>(if z62<z63 then NU n z1 l7 z9 z62 true else NU n z1 l7 z9 z62 false)
def NU:Nat->Int->LD->Int->Int->Bool->Option (Bool)
 | 0,_,_,_,_,_=>none
 | n+1,z1,l7,z9,z62,b64=>
  (if b64=true then Ae l7 z62 fun x65=>Ao x65 fun z66 z67 s68 s69 s70 l71 l72 z73=>bO1 (Zl n z66 z67 s68 s69 s70 l71 l72 z73) fun b74=>(if b74=true then (if z1=(18:Int)then Ae l7 z62 fun x75=>Ao x75 fun z76 z77 s78 s79 s80 l81 l82 z83=>AE (IntKind.wrap .i64 (z9 - 1)) fun z84=>bO1 (Vq n z76 z77 s78 s79 s80 l81 l82 z83 z84) fun b85=>AI (!b85) fun b86=>Im n z1 l7 z9 z62 b86 else Im n z1 l7 z9 z62 true)else Ae l7 z62 fun x87=>Ao x87 fun z88 z89 s90 s91 s92 l93 l94 z95=>AE (IntKind.wrap .i64 (z9 - 1)) fun z96=>bO1 (Vq n z88 z89 s90 s91 s92 l93 l94 z95 z96) fun b97=>AI (!b97) fun b98=>Im n z1 l7 z9 z62 b98)else some true)
def Im:Nat->Int->LD->Int->Int->Bool->Option (Bool)
 | 0,_,_,_,_,_=>none
 | n+1,z1,l7,z9,z62,b99=>
  (if b99=true then some false else AE (IntKind.wrap .i64 (z62+1)) fun z100=>EK n z1 l7 z9 z100)
def Vq:Nat->Int->Int->BA->BA->BA->LD->LD->Int->Int->Option (Bool)
 | 0,_,_,_,_,_,_,_,_,_=>none
 | n+1,z1,z2,s3,s4,s5,l6,l7,z8,z9=>
  bO1 (S5 n z1) fun s10=>(if z9<(1:Int)then LN n z1 z2 s3 s4 s5 l6 l7 z8 z9 s10 true else (if s10=ByteArray.empty then LN n z1 z2 s3 s4 s5 l6 l7 z8 z9 s10 true else AB l7 fun z11=>bO1 (Ji n s10 z11) fun b12=>AI (!b12) fun b13=>LN n z1 z2 s3 s4 s5 l6 l7 z8 z9 s10 b13))
end
noncomputable def sP:BS:=⟨84,Tryz.f84,[.agg [.y,.z,.str,.str,.str,.f 1,.q 8,.z],.z],[],⟨.one (.b),[],[]⟩,Bool,inferInstance,Vq,[⟨29,[1,2,4,5,23],[.loc 0],640,[.z,.p (.loc 0) 0,.one (.cb false),.s,.b],[[.y,.z,.str,.str,.str,.f 1,.q 8,.z]],fun n z9 s10 b14 z1 z2 s3 s4 s5 l6 l7 z8=>LN n z1 z2 s3 s4 s5 l6 l7 z8 z9 s10 b14⟩,
 ⟨485,[1,2,4,5,32],[.loc 0],832,[.z,.p (.loc 0) 0,.one (.cb false),.s,.b],[[.y,.z,.str,.str,.str,.f 1,.q 8,.z]],fun n z9 s10 b16 z1 z2 s3 s4 s5 l6 l7 z8=>S6 n z1 z2 s3 s4 s5 l6 l7 z8 z9 s10 b16⟩,
 ⟨1949,[1,2,4,5,43],[.loc 0],1088,[.z,.p (.loc 0) 0,.one (.cb false),.s,.b],[[.y,.z,.str,.str,.str,.f 1,.q 8,.z]],fun n z9 s10 b18 z1 z2 s3 s4 s5 l6 l7 z8=>NS n z1 z2 s3 s4 s5 l6 l7 z8 z9 s10 b18⟩,
 ⟨1951,[1,2,4,5,26],[.loc 0],928,[.z,.p (.loc 0) 0,.one (.cb false),.s,.b],[[.y,.z,.str,.str,.str,.f 1,.q 8,.z]],fun n z9 s10 b19 z1 z2 s3 s4 s5 l6 l7 z8=>S7 n z1 z2 s3 s4 s5 l6 l7 z8 z9 s10 b19⟩,
 ⟨31,[1,2,4,5],[.loc 0],1088,[.z,.p (.loc 0) 0,.one (.cb false),.s],[[.y,.z,.str,.str,.str,.f 1,.q 8,.z]],fun n z9 s10 z1 z2 s3 s4 s5 l6 l7 z8=>PS n z1 z2 s3 s4 s5 l6 l7 z8 z9 s10⟩,
 ⟨2015,[1,2,4,5,65],[.loc 0],1568,[.z,.p (.loc 0) 0,.one (.cb false),.s,.b],[[.y,.z,.str,.str,.str,.f 1,.q 8,.z]],fun n z9 s10 b27 z1 _ s3 s4 _ _ l7 _=>NT n z1 s3 s4 l7 z9 s10 b27⟩,
 ⟨63,[1,2,4,5],[.loc 0],1568,[.z,.p (.loc 0) 0,.one (.cb false),.s],[[.y,.z,.str,.str,.str,.f 1,.q 8,.z]],fun n z9 s10 z1 _ s3 s4 _ _ l7 _=>PT n z1 s3 s4 l7 z9 s10⟩,
 ⟨253,[1,2,4,5,98],[.loc 0],2624,[.z,.p (.loc 0) 0,.one (.cb false),.s,.b],[[.y,.z,.str,.str,.str,.f 1,.q 8,.z]],fun n z9 s10 b53 z1 _ _ s4 _ _ l7 _=>Cn n z1 s4 l7 z9 s10 b53⟩,
 ⟨509,[1,2,4,116],[.loc 0],3200,[.z,.p (.loc 0) 0,.one (.cb false),.b],[[.y,.z,.str,.str,.str,.f 1,.q 8,.z]],fun n z9 b61 z1 _ _ _ _ _ l7 _=>HS n z1 l7 z9 b61⟩,
 ⟨2042,[1,2,4,6],[.loc 0],3232,[.z,.p (.loc 0) 0,.one (.cb false),.z],[[.y,.z,.str,.str,.str,.f 1,.q 8,.z]],fun n z9 z62 z1 _ _ _ _ _ l7 _=>EK n z1 l7 z9 z62⟩,
 ⟨16337,[1,2,4,6,121],[.loc 0],3392,[.z,.p (.loc 0) 0,.one (.cb false),.z,.b],[[.y,.z,.str,.str,.str,.f 1,.q 8,.z]],fun n z9 z62 b64 z1 _ _ _ _ _ l7 _=>NU n z1 l7 z9 z62 b64⟩,
 ⟨65353,[1,2,4,6,145],[.loc 0],4096,[.z,.p (.loc 0) 0,.one (.cb false),.z,.b],[[.y,.z,.str,.str,.str,.f 1,.q 8,.z]],fun n z9 z62 b99 z1 _ _ _ _ _ l7 _=>Im n z1 l7 z9 z62 b99⟩]⟩
theorem xG:CF Tryz.prog inv (KU [sP]):=gr [pZ,qB,dX,kM,qF,kF,gJ,qG] ⟨⟨Tryz.func84,by kernel_rfl,by kernel_rfl,by kernel_rfl⟩,trivial⟩
noncomputable def sQ:Kz:=⟨sP.c,xG.1⟩
end Go.Proofs.YtjmofeakajdbiaaGreatDoor
end
set_option linter.unusedVariables false
noncomputable section
namespace Go.Proofs.YtjmofeakajdbiaaGreatDoor
open Go Go.AM
def UY:D→Bool
 | .str s=>decide (s=iK) || nm 97 122 s
 | _=>false
def F5:D→Bool
 | .str s=>nm 97 122 s
 | _=>false
def Co (s:ByteArray) (l:List D):Bool:=nm 97 122 s&&(l.all UY&&decide (l.length≤40))
theorem HT {L:List D}{i:Nat}{x:D}(h:L[i]?=some x) (p:D→Bool):(L.drop i).all p=(p x&&(L.drop (i+1)).all p):=by
 obtain⟨hi,rfl⟩:=List.getElem?_eq_some_iff.1 h
 rw[List.drop_eq_getElem_cons hi,List.all_cons]
theorem kN {s:ByteArray}(hs:s.size≤maxLen):Ev (fun n=>mS n s) (UY (.str s)):=by
 unfold mS UY
 by_cases h:s=iK
 ·simp only[if_pos h,decide_eq_true h,Bool.true_or];exact Ev.ret
 ·simp only[if_neg h,decide_eq_false h,Bool.false_or];exact Ev.bO1 (Ld hs) Ev.ret
theorem qH {L:List D}(hL:AK Ap 9 L) (m:Nat):∃r,Ev (fun n=>jL n L (m:Int)) r∧r=(L.all UY&&decide (L.length≤m))∨(m<L.length∧Ev (fun n=>jL n L (m:Int)) false):=by
 by_cases hm:L.length≤m
 ·have loop:∀i,i≤L.length→Ev (fun n=>JQ n L (m:Int) (i:Int)) ((L.drop i).all UY):=by
   refine down L.length (Ev.succ ?_) (fun i hi ih=>?_)
   ·simp only[JQ,AB,Int.lt_irrefl,if_false,List.drop_length]
    exact Ev.succ (by simp only[K5,Bool.false_eq_true,if_false,AB,if_pos (show (L.length:Int)≤(m:Int)by omega)];exact Ev.ret)
   ·obtain⟨x,hx,_,hr⟩:=hL.get hi
    obtain⟨s,rfl,hs⟩:=Yq hr
    rw[HT hx]
    refine Ev.succ ?_
    simp only[JQ,AB,if_pos (show (i:Int)<(L.length:Int)by omega),if_pos (show (i:Int)<(m:Int)by omega)]
    refine Ev.succ ?_
    simp only[K5,if_true,AG hx,Bc]
    refine Ev.bO1 (kN hs) ?_
    cases UY (.str s)
    ·simp only[AI,Bool.not_false,if_true,Bool.false_and];exact Ev.ret
    ·simp only[AI,Bool.not_true,Bool.false_eq_true,if_false,AE,AF hi hL.1,Bool.true_and];exact ih
  refine⟨_,.inl ⟨loop 0 (Nat.zero_le _),?_⟩⟩
  rw[decide_eq_true hm,Bool.and_true];rfl
 ·have loop:∀i,i≤m→Ev (fun n=>JQ n L (m:Int) (i:Int)) false:=by
   refine down m (Ev.succ ?_) (fun i hi ih=>?_)
   ·simp only[JQ,AB,if_pos (show (m:Int)<(L.length:Int)by omega),Int.lt_irrefl,if_false]
    exact Ev.succ (by simp only[K5,Bool.false_eq_true,if_false,AB,if_neg (show ¬(L.length:Int)≤(m:Int)by omega)];exact Ev.ret)
   ·obtain⟨x,hx,_,hr⟩:=hL.get (show i<L.length by omega)
    obtain⟨s,rfl,hs⟩:=Yq hr
    refine Ev.succ ?_
    simp only[JQ,AB,if_pos (show (i:Int)<(L.length:Int)by omega),if_pos (show (i:Int)<(m:Int)by omega)]
    refine Ev.succ ?_
    simp only[K5,if_true,AG hx,Bc]
    refine Ev.bO1 (kN hs) ?_
    cases UY (.str s)
    ·simp only[AI,Bool.not_false,if_true];exact Ev.ret
    ·simp only[AI,Bool.not_true,Bool.false_eq_true,if_false,AE,AF (show i<L.length by omega) hL.1];exact ih
  exact⟨false,.inr ⟨by omega,loop 0 (Nat.zero_le _)⟩⟩
theorem kO {L:List D}(hL:AK Ap 9 L) (m:Nat):Ev (fun n=>jL n L (m:Int)) (L.all UY&&decide (L.length≤m)):=by
 obtain⟨r,⟨h1,h2⟩ | ⟨h1,h2⟩⟩:=qH hL m
 ·rw[←h2];exact h1
 ·rw[decide_eq_false (by omega),Bool.and_false];exact h2
theorem PU {L:List D}(hL:AK Ap 9 L) (m:Nat):Ev (fun n=>K6 n L (m:Int)) (L.all F5&&decide (L.length≤m)):=by
 by_cases hm:L.length≤m
 ·have loop:∀i,i≤L.length→Ev (fun n=>EW n L (m:Int) (i:Int)) ((L.drop i).all F5):=by
   refine down L.length (Ev.succ ?_) (fun i hi ih=>?_)
   ·simp only[EW,AB,Int.lt_irrefl,if_false,List.drop_length]
    exact Ev.succ (by simp only[FC,Bool.false_eq_true,if_false,AB,if_pos (show (L.length:Int)≤(m:Int)by omega)];exact Ev.ret)
   ·obtain⟨x,hx,_,hr⟩:=hL.get hi
    obtain⟨s,rfl,hs⟩:=Yq hr
    rw[HT hx]
    refine Ev.succ ?_
    simp only[EW,AB,if_pos (show (i:Int)<(L.length:Int)by omega),if_pos (show (i:Int)<(m:Int)by omega)]
    refine Ev.succ ?_
    simp only[FC,if_true,AG hx,Bc]
    refine Ev.bO1 (Ld hs) ?_
    simp only[F5]
    cases nm 97 122 s
    ·simp only[AI,Bool.not_false,if_true,Bool.false_and];exact Ev.ret
    ·simp only[AI,Bool.not_true,Bool.false_eq_true,if_false,AE,AF hi hL.1,Bool.true_and];exact ih
  rw[decide_eq_true hm,Bool.and_true]
  exact loop 0 (Nat.zero_le _)
 ·have loop:∀i,i≤m→Ev (fun n=>EW n L (m:Int) (i:Int)) false:=by
   refine down m (Ev.succ ?_) (fun i hi ih=>?_)
   ·simp only[EW,AB,if_pos (show (m:Int)<(L.length:Int)by omega),Int.lt_irrefl,if_false]
    exact Ev.succ (by simp only[FC,Bool.false_eq_true,if_false,AB,if_neg (show ¬(L.length:Int)≤(m:Int)by omega)];exact Ev.ret)
   ·obtain⟨x,hx,_,hr⟩:=hL.get (show i<L.length by omega)
    obtain⟨s,rfl,hs⟩:=Yq hr
    refine Ev.succ ?_
    simp only[EW,AB,if_pos (show (i:Int)<(L.length:Int)by omega),if_pos (show (i:Int)<(m:Int)by omega)]
    refine Ev.succ ?_
    simp only[FC,if_true,AG hx,Bc]
    refine Ev.bO1 (Ld hs) ?_
    cases nm 97 122 s
    ·simp only[AI,Bool.not_false,if_true];exact Ev.ret
    ·simp only[AI,Bool.not_true,Bool.false_eq_true,if_false,AE,AF (show i<L.length by omega) hL.1];exact ih
  rw[decide_eq_false hm,Bool.and_false]
  exact loop 0 (Nat.zero_le _)
theorem kP {s:ByteArray}(hs:s.size≤maxLen) {l:List D}(hl:AK Ap 9 l):Ev (fun n=>Yo n s l) (Co s l):=by
 unfold Yo Co
 refine Ev.bO1 (Ld hs) ?_
 cases nm 97 122 s
 ·simp only[Bool.false_eq_true,if_false,Bool.false_and];exact Ev.ret
 ·simp only[if_true,Bool.true_and];exact Ev.bO1 (kO hl 40) Ev.ret
theorem kQ {s:ByteArray}(hs:s.size≤maxLen) {l:List D}(hl:AK Ap 9 l):Ev (fun n=>YM n s l) (Co s l):=by
 have loop:∀i,i≤l.length→Ev (fun n=>KZ n l (i:Int)) ((l.drop i).all UY):=by
  refine down l.length (Ev.succ ?_) (fun i hi ih=>?_)
  ·simp only[KZ,AB,Int.lt_irrefl,if_false,List.drop_length]
   exact Ev.succ (by simp only[NQ,Bool.false_eq_true,if_false];exact Ev.ret)
  ·obtain⟨x,hx,_,hr⟩:=hl.get hi
   obtain⟨s,rfl,hs⟩:=Yq hr
   rw[HT hx]
   refine Ev.succ ?_
   simp only[KZ,AB,if_pos (show (i:Int)<(l.length:Int)by omega)]
   refine Ev.succ ?_
   simp only[NQ,if_true,AG hx,Bc,UY]
   have fin:∀b,Ev (fun n=>Ka n l (i:Int) (!b)) (b&&(l.drop (i+1)).all UY):=by
    intro b
    refine Ev.succ ?_
    cases b
    ·simp only[Ka,Bool.not_false,if_true,Bool.false_and];exact Ev.ret
    ·simp only[Ka,Bool.not_true,Bool.false_eq_true,if_false,AE,AF hi hl.1,Bool.true_and];exact ih
   by_cases h:s=iK
   ·simp only[if_pos h,decide_eq_true h,Bool.true_or];exact fin true
   ·simp only[if_neg h,decide_eq_false h,Bool.false_or]
    exact Ev.bO1 (N8 hs) (by simp only[AI];exact fin _)
 unfold YM Co
 refine Ev.bO1 (N8 hs) ?_
 have no:Ev (fun n=>Ik n l true) false:=Ev.succ (by simp only[Ik,if_true];exact Ev.ret)
 cases nm 97 122 s
 ·simp only[AI,Bool.not_false,if_true,Bool.false_and];exact no
 ·simp only[AI,Bool.not_true,Bool.false_eq_true,if_false,AB,Bool.true_and]
  by_cases h:40<(l.length:Int)
  ·simp only[if_pos h,decide_eq_false (show ¬l.length≤40 by omega),Bool.and_false];exact no
  ·simp only[if_neg h,decide_eq_true (show l.length≤40 by omega),Bool.and_true]
   exact Ev.succ (by simp only[Ik,Bool.false_eq_true,if_false];exact loop 0 (Nat.zero_le _))
structure Good (z1:Int) (f:ByteArray) (hp:Bool) (least most:Int):Prop where
 f40:Ev (fun n=>S5 n z1) f
 f58:Ev (fun n=>bL n z1) (hp,least,most,true)
 ne:¬f=ByteArray.empty
 many:∀n:Int,0≤n→Ev (fun k=>Ji k f n) (decide (least≤n)&&decide (n≤most))
 hi:Ev (fun n=>BI n f 105) (decide (z1=1))
 hb:Ev (fun n=>BI n f 98) (decide (z1=2))
 h112:Ev (fun n=>BI n f 112) hp
 hf:Ev (fun n=>BI n f 102) (decide (z1=19))
 hn:Ev (fun n=>BI n f 110) (decide (z1=18))
 ht:Ev (fun n=>BI n f 116) (decide (z1=19∨z1=20))
 hv:Ev (fun n=>BI n f 118) (decide (z1=20))
 np:z1=18∨z1=19∨z1=20→hp=false
 most6:0≤least∧least≤most∧most≤6
theorem AP {α:Type}{A:Nat→Option α}{r:α}(h:∀m,A (m+40)=some r):Ev A r:=⟨40,fun n hn=>by obtain⟨m,rfl⟩:∃m,n=m+40:=⟨n - 40,by omega⟩;exact h m⟩
theorem kR (m:Nat) (z:Int):Ji (m+40) nM z=(if z=0 then some true else some false):=by kernel_rfl
theorem kS (m:Nat) (z:Int):Ji (m+40) cN z=(if z=0 then some true else some false):=by kernel_rfl
theorem kT (m:Nat) (z:Int):Ji (m+40) cO z=(if z=0 then some true else some false):=by kernel_rfl
theorem NV (m:Nat) (z:Int):Ji (m+40) Ia z=(if z=0 then some true else some false):=by kernel_rfl
theorem Vr (m:Nat) (z:Int):Ji (m+40) Qj z=(if z=1 then some true else some false):=by kernel_rfl
theorem many1 (m:Nat) (z:Int):Ji (m+40) N2 z=(if z=1 then some true else some false):=by kernel_rfl
theorem Jj (m:Nat) (z:Int):Ji (m+40) Qi z=(if z=2 then some true else some false):=by kernel_rfl
theorem kU (m:Nat) (z:Int):Ji (m+40) cQ z=(if z≤6 then some true else some false):=by kernel_rfl
theorem kV (m:Nat) (z:Int):Ji (m+40) Xf z=(if z≤6 then some true else some false):=by kernel_rfl
theorem kW (m:Nat) (z:Int):Ji (m+40) Xg z=(if z≤1 then some true else some false):=by kernel_rfl
theorem Hr {z k:Int}:(if z=k then some true else some false)=some (decide (k≤z)&&decide (z≤k)):=by
 by_cases h:z=k
 ·simp[h]
 ·rw[if_neg h];congr 1;symm;rw[Bool.and_eq_false_iff]
  by_cases h1:k≤z
  ·right;exact decide_eq_false (by omega)
  ·left;exact decide_eq_false h1
theorem qI {z k:Int}(h0:0≤z):(if z≤k then some true else some false)=some (decide (0≤z)&&decide (z≤k)):=by
 by_cases h:z≤k<;>simp[h,h0]
theorem BF {z1:Int}{f:ByteArray}{hp:Bool}{least most:Int}(a:∀m,S5 (m+40) z1=some f) (b:∀m,bL (m+40) z1=some (hp,least,most,true)) (c:¬f=ByteArray.empty)
  (d:∀(m:Nat) (n:Int),0≤n→Ji (m+40) f n=some (decide (least≤n)&&decide (n≤most)))
  (e1:∀m,BI (m+40) f 105=some (decide (z1=1))) (e2:∀m,BI (m+40) f 98=some (decide (z1=2))) (e3:∀m,BI (m+40) f 112=some hp) (e4:∀m,BI (m+40) f 102=some (decide (z1=19)))
  (e5:∀m,BI (m+40) f 110=some (decide (z1=18))) (e6:∀m,BI (m+40) f 116=some (decide (z1=19∨z1=20))) (e7:∀m,BI (m+40) f 118=some (decide (z1=20)))
  (g:z1=18∨z1=19∨z1=20→hp=false) (k:0≤least∧least≤most∧most≤6):Good z1 f hp least most:=
 ⟨AP a,AP b,c,fun n hn=>AP fun m=>d m n hn,AP e1,AP e2,AP e3,AP e4,AP e5,AP e6,AP e7,g,k⟩
theorem kX:Good 1 cN false 0 0:=BF (fun m=>by kernel_rfl) (fun m=>by kernel_rfl) (by decide) (fun m n h0=>by rw[kS];exact Hr) (fun m=>by kernel_rfl) (fun m=>by kernel_rfl) (fun m=>by kernel_rfl) (fun m=>by kernel_rfl) (fun m=>by kernel_rfl) (fun m=>by kernel_rfl) (fun m=>by kernel_rfl) (fun _=>rfl) (by decide)
theorem kY:Good 2 cO false 0 0:=BF (fun m=>by kernel_rfl) (fun m=>by kernel_rfl) (by decide) (fun m n h0=>by rw[kT];exact Hr) (fun m=>by kernel_rfl) (fun m=>by kernel_rfl) (fun m=>by kernel_rfl) (fun m=>by kernel_rfl) (fun m=>by kernel_rfl) (fun m=>by kernel_rfl) (fun m=>by kernel_rfl) (fun _=>rfl) (by decide)
theorem kZ:Good 3 nM false 0 0:=BF (fun m=>by kernel_rfl) (fun m=>by kernel_rfl) (by decide) (fun m n h0=>by rw[kR];exact Hr) (fun m=>by kernel_rfl) (fun m=>by kernel_rfl) (fun m=>by kernel_rfl) (fun m=>by kernel_rfl) (fun m=>by kernel_rfl) (fun m=>by kernel_rfl) (fun m=>by kernel_rfl) (fun _=>rfl) (by decide)
theorem lA:Good 4 Ia true 0 0:=BF (fun m=>by kernel_rfl) (fun m=>by kernel_rfl) (by decide) (fun m n h0=>by rw[NV];exact Hr) (fun m=>by kernel_rfl) (fun m=>by kernel_rfl) (fun m=>by kernel_rfl) (fun m=>by kernel_rfl) (fun m=>by kernel_rfl) (fun m=>by kernel_rfl) (fun m=>by kernel_rfl) (fun h=>by omega) (by decide)
theorem lB:Good 5 Ia true 0 0:=BF (fun m=>by kernel_rfl) (fun m=>by kernel_rfl) (by decide) (fun m n h0=>by rw[NV];exact Hr) (fun m=>by kernel_rfl) (fun m=>by kernel_rfl) (fun m=>by kernel_rfl) (fun m=>by kernel_rfl) (fun m=>by kernel_rfl) (fun m=>by kernel_rfl) (fun m=>by kernel_rfl) (fun h=>by omega) (by decide)
theorem lC:Good 6 Ia true 0 0:=BF (fun m=>by kernel_rfl) (fun m=>by kernel_rfl) (by decide) (fun m n h0=>by rw[NV];exact Hr) (fun m=>by kernel_rfl) (fun m=>by kernel_rfl) (fun m=>by kernel_rfl) (fun m=>by kernel_rfl) (fun m=>by kernel_rfl) (fun m=>by kernel_rfl) (fun m=>by kernel_rfl) (fun h=>by omega) (by decide)
theorem lD:Good 7 N2 false 1 1:=BF (fun m=>by kernel_rfl) (fun m=>by kernel_rfl) (by decide) (fun m n h0=>by rw[many1];exact Hr) (fun m=>by kernel_rfl) (fun m=>by kernel_rfl) (fun m=>by kernel_rfl) (fun m=>by kernel_rfl) (fun m=>by kernel_rfl) (fun m=>by kernel_rfl) (fun m=>by kernel_rfl) (fun _=>rfl) (by decide)
theorem lF:Good 8 N2 false 1 1:=BF (fun m=>by kernel_rfl) (fun m=>by kernel_rfl) (by decide) (fun m n h0=>by rw[many1];exact Hr) (fun m=>by kernel_rfl) (fun m=>by kernel_rfl) (fun m=>by kernel_rfl) (fun m=>by kernel_rfl) (fun m=>by kernel_rfl) (fun m=>by kernel_rfl) (fun m=>by kernel_rfl) (fun _=>rfl) (by decide)
theorem lG:Good 9 Qi false 2 2:=BF (fun m=>by kernel_rfl) (fun m=>by kernel_rfl) (by decide) (fun m n h0=>by rw[Jj];exact Hr) (fun m=>by kernel_rfl) (fun m=>by kernel_rfl) (fun m=>by kernel_rfl) (fun m=>by kernel_rfl) (fun m=>by kernel_rfl) (fun m=>by kernel_rfl) (fun m=>by kernel_rfl) (fun _=>rfl) (by decide)
theorem dY:Good 10 Qi false 2 2:=BF (fun m=>by kernel_rfl) (fun m=>by kernel_rfl) (by decide) (fun m n h0=>by rw[Jj];exact Hr) (fun m=>by kernel_rfl) (fun m=>by kernel_rfl) (fun m=>by kernel_rfl) (fun m=>by kernel_rfl) (fun m=>by kernel_rfl) (fun m=>by kernel_rfl) (fun m=>by kernel_rfl) (fun _=>rfl) (by decide)
theorem dZ:Good 11 Qi false 2 2:=BF (fun m=>by kernel_rfl) (fun m=>by kernel_rfl) (by decide) (fun m n h0=>by rw[Jj];exact Hr) (fun m=>by kernel_rfl) (fun m=>by kernel_rfl) (fun m=>by kernel_rfl) (fun m=>by kernel_rfl) (fun m=>by kernel_rfl) (fun m=>by kernel_rfl) (fun m=>by kernel_rfl) (fun _=>rfl) (by decide)
theorem eA:Good 12 Qi false 2 2:=BF (fun m=>by kernel_rfl) (fun m=>by kernel_rfl) (by decide) (fun m n h0=>by rw[Jj];exact Hr) (fun m=>by kernel_rfl) (fun m=>by kernel_rfl) (fun m=>by kernel_rfl) (fun m=>by kernel_rfl) (fun m=>by kernel_rfl) (fun m=>by kernel_rfl) (fun m=>by kernel_rfl) (fun _=>rfl) (by decide)
theorem eB:Good 13 Qi false 2 2:=BF (fun m=>by kernel_rfl) (fun m=>by kernel_rfl) (by decide) (fun m n h0=>by rw[Jj];exact Hr) (fun m=>by kernel_rfl) (fun m=>by kernel_rfl) (fun m=>by kernel_rfl) (fun m=>by kernel_rfl) (fun m=>by kernel_rfl) (fun m=>by kernel_rfl) (fun m=>by kernel_rfl) (fun _=>rfl) (by decide)
theorem eC:Good 14 Qi false 2 2:=BF (fun m=>by kernel_rfl) (fun m=>by kernel_rfl) (by decide) (fun m n h0=>by rw[Jj];exact Hr) (fun m=>by kernel_rfl) (fun m=>by kernel_rfl) (fun m=>by kernel_rfl) (fun m=>by kernel_rfl) (fun m=>by kernel_rfl) (fun m=>by kernel_rfl) (fun m=>by kernel_rfl) (fun _=>rfl) (by decide)
theorem eD:Good 15 Qi false 2 2:=BF (fun m=>by kernel_rfl) (fun m=>by kernel_rfl) (by decide) (fun m n h0=>by rw[Jj];exact Hr) (fun m=>by kernel_rfl) (fun m=>by kernel_rfl) (fun m=>by kernel_rfl) (fun m=>by kernel_rfl) (fun m=>by kernel_rfl) (fun m=>by kernel_rfl) (fun m=>by kernel_rfl) (fun _=>rfl) (by decide)
theorem eE:Good 16 Qi false 2 2:=BF (fun m=>by kernel_rfl) (fun m=>by kernel_rfl) (by decide) (fun m n h0=>by rw[Jj];exact Hr) (fun m=>by kernel_rfl) (fun m=>by kernel_rfl) (fun m=>by kernel_rfl) (fun m=>by kernel_rfl) (fun m=>by kernel_rfl) (fun m=>by kernel_rfl) (fun m=>by kernel_rfl) (fun _=>rfl) (by decide)
theorem eF:Good 17 Qi false 2 2:=BF (fun m=>by kernel_rfl) (fun m=>by kernel_rfl) (by decide) (fun m n h0=>by rw[Jj];exact Hr) (fun m=>by kernel_rfl) (fun m=>by kernel_rfl) (fun m=>by kernel_rfl) (fun m=>by kernel_rfl) (fun m=>by kernel_rfl) (fun m=>by kernel_rfl) (fun m=>by kernel_rfl) (fun _=>rfl) (by decide)
theorem eG:Good 18 cQ false 0 6:=BF (fun m=>by kernel_rfl) (fun m=>by kernel_rfl) (by decide) (fun m n h0=>by rw[kU];exact qI h0) (fun m=>by kernel_rfl) (fun m=>by kernel_rfl) (fun m=>by kernel_rfl) (fun m=>by kernel_rfl) (fun m=>by kernel_rfl) (fun m=>by kernel_rfl) (fun m=>by kernel_rfl) (fun _=>rfl) (by decide)
theorem eH:Good 19 Xf false 0 6:=BF (fun m=>by kernel_rfl) (fun m=>by kernel_rfl) (by decide) (fun m n h0=>by rw[kV];exact qI h0) (fun m=>by kernel_rfl) (fun m=>by kernel_rfl) (fun m=>by kernel_rfl) (fun m=>by kernel_rfl) (fun m=>by kernel_rfl) (fun m=>by kernel_rfl) (fun m=>by kernel_rfl) (fun _=>rfl) (by decide)
theorem eI:Good 20 Xg false 0 1:=BF (fun m=>by kernel_rfl) (fun m=>by kernel_rfl) (by decide) (fun m n h0=>by rw[kW];exact qI h0) (fun m=>by kernel_rfl) (fun m=>by kernel_rfl) (fun m=>by kernel_rfl) (fun m=>by kernel_rfl) (fun m=>by kernel_rfl) (fun m=>by kernel_rfl) (fun m=>by kernel_rfl) (fun _=>rfl) (by decide)
theorem eJ:Good 21 N2 false 1 1:=BF (fun m=>by kernel_rfl) (fun m=>by kernel_rfl) (by decide) (fun m n h0=>by rw[many1];exact Hr) (fun m=>by kernel_rfl) (fun m=>by kernel_rfl) (fun m=>by kernel_rfl) (fun m=>by kernel_rfl) (fun m=>by kernel_rfl) (fun m=>by kernel_rfl) (fun m=>by kernel_rfl) (fun _=>rfl) (by decide)
theorem eK:Good 22 N2 false 1 1:=BF (fun m=>by kernel_rfl) (fun m=>by kernel_rfl) (by decide) (fun m n h0=>by rw[many1];exact Hr) (fun m=>by kernel_rfl) (fun m=>by kernel_rfl) (fun m=>by kernel_rfl) (fun m=>by kernel_rfl) (fun m=>by kernel_rfl) (fun m=>by kernel_rfl) (fun m=>by kernel_rfl) (fun _=>rfl) (by decide)
theorem eL:Good 23 N2 false 1 1:=BF (fun m=>by kernel_rfl) (fun m=>by kernel_rfl) (by decide) (fun m n h0=>by rw[many1];exact Hr) (fun m=>by kernel_rfl) (fun m=>by kernel_rfl) (fun m=>by kernel_rfl) (fun m=>by kernel_rfl) (fun m=>by kernel_rfl) (fun m=>by kernel_rfl) (fun m=>by kernel_rfl) (fun _=>rfl) (by decide)
theorem eM:Good 24 Ia true 0 0:=BF (fun m=>by kernel_rfl) (fun m=>by kernel_rfl) (by decide) (fun m n h0=>by rw[NV];exact Hr) (fun m=>by kernel_rfl) (fun m=>by kernel_rfl) (fun m=>by kernel_rfl) (fun m=>by kernel_rfl) (fun m=>by kernel_rfl) (fun m=>by kernel_rfl) (fun m=>by kernel_rfl) (fun h=>by omega) (by decide)
theorem eN:Good 25 Qj true 1 1:=BF (fun m=>by kernel_rfl) (fun m=>by kernel_rfl) (by decide) (fun m n h0=>by rw[Vr];exact Hr) (fun m=>by kernel_rfl) (fun m=>by kernel_rfl) (fun m=>by kernel_rfl) (fun m=>by kernel_rfl) (fun m=>by kernel_rfl) (fun m=>by kernel_rfl) (fun m=>by kernel_rfl) (fun h=>by omega) (by decide)
theorem eO:Good 26 N2 false 1 1:=BF (fun m=>by kernel_rfl) (fun m=>by kernel_rfl) (by decide) (fun m n h0=>by rw[many1];exact Hr) (fun m=>by kernel_rfl) (fun m=>by kernel_rfl) (fun m=>by kernel_rfl) (fun m=>by kernel_rfl) (fun m=>by kernel_rfl) (fun m=>by kernel_rfl) (fun m=>by kernel_rfl) (fun _=>rfl) (by decide)
theorem eP:Good 27 N2 false 1 1:=BF (fun m=>by kernel_rfl) (fun m=>by kernel_rfl) (by decide) (fun m n h0=>by rw[many1];exact Hr) (fun m=>by kernel_rfl) (fun m=>by kernel_rfl) (fun m=>by kernel_rfl) (fun m=>by kernel_rfl) (fun m=>by kernel_rfl) (fun m=>by kernel_rfl) (fun m=>by kernel_rfl) (fun _=>rfl) (by decide)
theorem eS:Good 28 Ia true 0 0:=BF (fun m=>by kernel_rfl) (fun m=>by kernel_rfl) (by decide) (fun m n h0=>by rw[NV];exact Hr) (fun m=>by kernel_rfl) (fun m=>by kernel_rfl) (fun m=>by kernel_rfl) (fun m=>by kernel_rfl) (fun m=>by kernel_rfl) (fun m=>by kernel_rfl) (fun m=>by kernel_rfl) (fun h=>by omega) (by decide)
theorem eT:Good 29 N2 false 1 1:=BF (fun m=>by kernel_rfl) (fun m=>by kernel_rfl) (by decide) (fun m n h0=>by rw[many1];exact Hr) (fun m=>by kernel_rfl) (fun m=>by kernel_rfl) (fun m=>by kernel_rfl) (fun m=>by kernel_rfl) (fun m=>by kernel_rfl) (fun m=>by kernel_rfl) (fun m=>by kernel_rfl) (fun _=>rfl) (by decide)
theorem eU:Good 30 N2 false 1 1:=BF (fun m=>by kernel_rfl) (fun m=>by kernel_rfl) (by decide) (fun m n h0=>by rw[many1];exact Hr) (fun m=>by kernel_rfl) (fun m=>by kernel_rfl) (fun m=>by kernel_rfl) (fun m=>by kernel_rfl) (fun m=>by kernel_rfl) (fun m=>by kernel_rfl) (fun m=>by kernel_rfl) (fun _=>rfl) (by decide)
theorem eV:Good 31 N2 false 1 1:=BF (fun m=>by kernel_rfl) (fun m=>by kernel_rfl) (by decide) (fun m n h0=>by rw[many1];exact Hr) (fun m=>by kernel_rfl) (fun m=>by kernel_rfl) (fun m=>by kernel_rfl) (fun m=>by kernel_rfl) (fun m=>by kernel_rfl) (fun m=>by kernel_rfl) (fun m=>by kernel_rfl) (fun _=>rfl) (by decide)
theorem eW:Good 32 Ia true 0 0:=BF (fun m=>by kernel_rfl) (fun m=>by kernel_rfl) (by decide) (fun m n h0=>by rw[NV];exact Hr) (fun m=>by kernel_rfl) (fun m=>by kernel_rfl) (fun m=>by kernel_rfl) (fun m=>by kernel_rfl) (fun m=>by kernel_rfl) (fun m=>by kernel_rfl) (fun m=>by kernel_rfl) (fun h=>by omega) (by decide)
theorem eY:Good 33 Qj true 1 1:=BF (fun m=>by kernel_rfl) (fun m=>by kernel_rfl) (by decide) (fun m n h0=>by rw[Vr];exact Hr) (fun m=>by kernel_rfl) (fun m=>by kernel_rfl) (fun m=>by kernel_rfl) (fun m=>by kernel_rfl) (fun m=>by kernel_rfl) (fun m=>by kernel_rfl) (fun m=>by kernel_rfl) (fun h=>by omega) (by decide)
theorem eZ:Good 34 Qj true 1 1:=BF (fun m=>by kernel_rfl) (fun m=>by kernel_rfl) (by decide) (fun m n h0=>by rw[Vr];exact Hr) (fun m=>by kernel_rfl) (fun m=>by kernel_rfl) (fun m=>by kernel_rfl) (fun m=>by kernel_rfl) (fun m=>by kernel_rfl) (fun m=>by kernel_rfl) (fun m=>by kernel_rfl) (fun h=>by omega) (by decide)
theorem fB:Good 35 Qj true 1 1:=BF (fun m=>by kernel_rfl) (fun m=>by kernel_rfl) (by decide) (fun m n h0=>by rw[Vr];exact Hr) (fun m=>by kernel_rfl) (fun m=>by kernel_rfl) (fun m=>by kernel_rfl) (fun m=>by kernel_rfl) (fun m=>by kernel_rfl) (fun m=>by kernel_rfl) (fun m=>by kernel_rfl) (fun h=>by omega) (by decide)
theorem fC:Good 36 Ia true 0 0:=BF (fun m=>by kernel_rfl) (fun m=>by kernel_rfl) (by decide) (fun m n h0=>by rw[NV];exact Hr) (fun m=>by kernel_rfl) (fun m=>by kernel_rfl) (fun m=>by kernel_rfl) (fun m=>by kernel_rfl) (fun m=>by kernel_rfl) (fun m=>by kernel_rfl) (fun m=>by kernel_rfl) (fun h=>by omega) (by decide)
theorem YN {z1:Int}(h0:0≤z1) (h1:z1<256):(∃f hp least most,Good z1 f hp least most)∨(Ev (fun n=>S5 n z1) ByteArray.empty∧∃hp a b,Ev (fun n=>bL n z1) (hp,a,b,false)):=by
 by_cases hb:37≤z1
 ·right
  refine⟨.succ ?_,false,1,1,?_⟩
  ·simp only[S5,AE,PM (show -9223372036854775808≤z1∧z1≤9223372036854775807 by omega),if_pos hb]
   simp only[HR,if_true];exact Ev.ret
  ·simp only[bL,if_neg (show ¬z1=1 by omega)]
   refine .succ ?_
   simp only[LG,Bool.false_eq_true,if_false,if_neg (show ¬z1=2 by omega)]
   refine .succ ?_
   simp only[LF,Bool.false_eq_true,if_false,if_neg (show ¬z1=3 by omega)]
   refine .succ ?_
   simp only[Hz,Bool.false_eq_true,if_false,if_neg (show ¬z1=4 by omega)]
   refine .succ ?_
   simp only[LC,Bool.false_eq_true,if_false,if_neg (show ¬z1=5 by omega)]
   refine .succ ?_
   simp only[LB,Bool.false_eq_true,if_false,if_neg (show ¬z1=6 by omega)]
   refine .succ ?_
   simp only[LA,Bool.false_eq_true,if_false,if_neg (show ¬z1=24 by omega)]
   refine .succ ?_
   simp only[K9,Bool.false_eq_true,if_false,if_neg (show ¬z1=28 by omega)]
   refine .succ ?_
   simp only[K8,Bool.false_eq_true,if_false,if_neg (show ¬z1=32 by omega)]
   refine .succ ?_
   simp only[K7,Bool.false_eq_true,if_false,if_neg (show ¬z1=36 by omega)]
   refine .succ ?_
   simp only[Db,Bool.false_eq_true,if_false,if_neg (show ¬z1=25 by omega)]
   refine .succ ?_
   simp only[HJ,Bool.false_eq_true,if_false,if_neg (show ¬z1=33 by omega)]
   refine .succ ?_
   simp only[HI,Bool.false_eq_true,if_false,if_neg (show ¬z1=34 by omega)]
   refine .succ ?_
   simp only[HH,Bool.false_eq_true,if_false,if_neg (show ¬z1=35 by omega)]
   refine .succ ?_
   simp only[Ek,Bool.false_eq_true,if_false,if_neg (show ¬z1=18 by omega)]
   refine .succ ?_
   simp only[HG,Bool.false_eq_true,if_false,if_neg (show ¬z1=19 by omega)]
   refine .succ ?_
   simp only[GI,Bool.false_eq_true,if_false,if_neg (show ¬z1=20 by omega)]
   refine .succ ?_
   simp only[HF,Bool.false_eq_true,if_false,if_neg (show ¬z1=9 by omega)]
   refine .succ ?_
   simp only[HE,Bool.false_eq_true,if_false,if_neg (show ¬z1=10 by omega)]
   refine .succ ?_
   simp only[HD,Bool.false_eq_true,if_false,if_neg (show ¬z1=11 by omega)]
   refine .succ ?_
   simp only[HC,Bool.false_eq_true,if_false,if_neg (show ¬z1=12 by omega)]
   refine .succ ?_
   simp only[HB,Bool.false_eq_true,if_false,if_neg (show ¬z1=13 by omega)]
   refine .succ ?_
   simp only[HA,Bool.false_eq_true,if_false,if_neg (show ¬z1=14 by omega)]
   refine .succ ?_
   simp only[G9,Bool.false_eq_true,if_false,if_neg (show ¬z1=15 by omega)]
   refine .succ ?_
   simp only[G8,Bool.false_eq_true,if_false,if_neg (show ¬z1=16 by omega)]
   refine .succ ?_
   simp only[G7,Bool.false_eq_true,if_false,if_neg (show ¬z1=17 by omega)]
   refine .succ ?_
   simp only[Cv,Bool.false_eq_true,if_false,if_pos (show 1≤z1 by omega),if_neg (show ¬z1≤36 by omega)];exact Ev.ret
 ·obtain⟨k,rfl⟩:∃k:Nat,z1=k:=⟨z1.toNat,by omega⟩
  have hk:k<37:=by omega
  clear h0 h1 hb
  match k,hk with
  | 0,_=>right;exact⟨AP (fun m=>by kernel_rfl),false,1,1,AP (fun m=>by kernel_rfl)⟩
  | 1,_=>left;exact⟨_,_,_,_,kX⟩
  | 2,_=>left;exact⟨_,_,_,_,kY⟩
  | 3,_=>left;exact⟨_,_,_,_,kZ⟩
  | 4,_=>left;exact⟨_,_,_,_,lA⟩
  | 5,_=>left;exact⟨_,_,_,_,lB⟩
  | 6,_=>left;exact⟨_,_,_,_,lC⟩
  | 7,_=>left;exact⟨_,_,_,_,lD⟩
  | 8,_=>left;exact⟨_,_,_,_,lF⟩
  | 9,_=>left;exact⟨_,_,_,_,lG⟩
  | 10,_=>left;exact⟨_,_,_,_,dY⟩
  | 11,_=>left;exact⟨_,_,_,_,dZ⟩
  | 12,_=>left;exact⟨_,_,_,_,eA⟩
  | 13,_=>left;exact⟨_,_,_,_,eB⟩
  | 14,_=>left;exact⟨_,_,_,_,eC⟩
  | 15,_=>left;exact⟨_,_,_,_,eD⟩
  | 16,_=>left;exact⟨_,_,_,_,eE⟩
  | 17,_=>left;exact⟨_,_,_,_,eF⟩
  | 18,_=>left;exact⟨_,_,_,_,eG⟩
  | 19,_=>left;exact⟨_,_,_,_,eH⟩
  | 20,_=>left;exact⟨_,_,_,_,eI⟩
  | 21,_=>left;exact⟨_,_,_,_,eJ⟩
  | 22,_=>left;exact⟨_,_,_,_,eK⟩
  | 23,_=>left;exact⟨_,_,_,_,eL⟩
  | 24,_=>left;exact⟨_,_,_,_,eM⟩
  | 25,_=>left;exact⟨_,_,_,_,eN⟩
  | 26,_=>left;exact⟨_,_,_,_,eO⟩
  | 27,_=>left;exact⟨_,_,_,_,eP⟩
  | 28,_=>left;exact⟨_,_,_,_,eS⟩
  | 29,_=>left;exact⟨_,_,_,_,eT⟩
  | 30,_=>left;exact⟨_,_,_,_,eU⟩
  | 31,_=>left;exact⟨_,_,_,_,eV⟩
  | 32,_=>left;exact⟨_,_,_,_,eW⟩
  | 33,_=>left;exact⟨_,_,_,_,eY⟩
  | 34,_=>left;exact⟨_,_,_,_,eZ⟩
  | 35,_=>left;exact⟨_,_,_,_,fB⟩
  | 36,_=>left;exact⟨_,_,_,_,fC⟩
  | n+37,h=>exact absurd h (by omega)
end Go.Proofs.YtjmofeakajdbiaaGreatDoor
end
namespace Go.AM
open Go
theorem Shape.row {ti:Types}{t:TypeId}{cs:List D}{y:TI}(h:Shape ti t cs) (hy:ti t=some y) (h1:Aj y.desc=true):cs.length=y.size∧∀c∈cs,c.isAgg=false:=by
 cases h with
 | struct ds h hd hl hg hr=>rw[hy]at h;cases h;exact⟨hl,hg⟩
 | bool b h hd=>rw[hy]at h;cases h;rw[hd]at h1;cases h1
 | int n h hd=>rw[hy]at h;cases h;rw[hd]at h1;cases h1
 | str s h hd=>rw[hy]at h;cases h;rw[hd]at h1;cases h1
 | slice rows h hd=>rw[hy]at h;cases h;rw[hd]at h1;cases h1
theorem Shape.cell {ti:Types}{t:TypeId}{cs:List D}{y:TI}(h:Shape ti t cs) (hy:ti t=some y) (h1:Aj y.desc=false):∃c,cs=[c]∧c.isAgg=false:=by
 cases h with
 | struct ds h hd hl hg hr=>rw[hy]at h;cases h;rw[hd]at h1;cases h1
 | bool b h hd=>exact⟨_,rfl,rfl⟩
 | int n h hd=>exact⟨_,rfl,rfl⟩
 | str s h hd=>exact⟨_,rfl,rfl⟩
 | slice rows h hd=>exact⟨_,rfl,rfl⟩
theorem FZ.fits {ti:Types}{e:TypeId}{r:D}{y:TI}(h1:Bu ti) (h:FZ ti e r) (hy:ti e=some y):r.fits (Aj y.desc) y.size:=by
 have ha:=h.2 y hy
 cases hr:Aj y.desc with
 | true=>
  obtain⟨q1,q2⟩:=h.1.row hy hr
  exact⟨by rw[ha,hr],q1,q2⟩
 | false=>
  obtain⟨c,q1,q2⟩:=h.1.cell hy hr
  exact⟨by rw[ha,hr],by rw[q1,h1 e y hy hr];rfl,by rw[q1];simpa using q2⟩
theorem AK.nil {ti:Types}{e:TypeId}:AK ti e []:=⟨Nat.zero_le _,by simp⟩
theorem AK.cons {ti:Types}{e:TypeId}{x:D}{L:List D}(hx:FZ ti e x) (h:AK ti e L) (hl:L.length+1≤maxLen):AK ti e (x::L):=⟨by simpa using hl,fun y hy=>by
 rcases List.mem_cons.1 hy with rfl | hy
 ·exact hx
 ·exact h.2 y hy⟩
theorem AK.app {ti:Types}{e:TypeId}{L M:List D}(h:AK ti e L) (h':AK ti e M) (hl:L.length+M.length≤maxLen):AK ti e (L++M):=⟨by simpa using hl,fun y hy=>by
 rcases List.mem_append.1 hy with hy | hy
 ·exact h.2 y hy
 ·exact h'.2 y hy⟩
theorem AK.one {ti:Types}{e:TypeId}{x:D}(hx:FZ ti e x):AK ti e [x]:=.cons hx .nil (by simp[maxLen])
theorem AK.set {ti:Types}{e:TypeId}{L:List D}(h:AK ti e L) (i:Nat) {x:D}(hx:FZ ti e x):AK ti e (L.set i x):=⟨by simpa using h.1,fun y hy=>by
 rcases List.mem_or_eq_of_mem_set hy with hy | rfl
 ·exact h.2 y hy
 ·exact hx⟩
theorem AK.take {ti:Types}{e:TypeId}{L:List D}(h:AK ti e L) (i:Nat):AK ti e (L.take i):=⟨by have:=h.1;simp;omega,fun x hx=>h.2 x (List.mem_of_mem_take hx)⟩
theorem AK.drop {ti:Types}{e:TypeId}{L:List D}(h:AK ti e L) (i:Nat):AK ti e (L.drop i):=⟨by have:=h.1;simp;omega,fun x hx=>h.2 x (List.mem_of_mem_drop hx)⟩
theorem Ev.bO3 {A1 A2 A3 γ:Type}{A:Nat→Option (A1×A2×A3)}{a1:A1}{a2:A2}{a3:A3}{k:Nat→A1→A2→A3→Option γ}{r:γ}(ha:Ev A (a1,a2,a3)) (hk:Ev (fun n=>k n a1 a2 a3) r):Ev (fun n=>bO3 (A n) (k n)) r:=by
 obtain⟨N,ha⟩:=ha
 obtain⟨M,hk⟩:=hk
 refine⟨N+M,fun n hn=>?_⟩
 show Go.AM.bO3 (A n) (k n)=some r
 rw[ha n (by omega)]
 exact hk n (by omega)
theorem Ev.bO4 {A1 A2 A3 A4 γ:Type}{A:Nat→Option (A1×A2×A3×A4)}{a1:A1}{a2:A2}{a3:A3}{a4:A4}{k:Nat→A1→A2→A3→A4→Option γ}{r:γ}(ha:Ev A (a1,a2,a3,a4)) (hk:Ev (fun n=>k n a1 a2 a3 a4) r):Ev (fun n=>bO4 (A n) (k n)) r:=by
 obtain⟨N,ha⟩:=ha
 obtain⟨M,hk⟩:=hk
 refine⟨N+M,fun n hn=>?_⟩
 show Go.AM.bO4 (A n) (k n)=some r
 rw[ha n (by omega)]
 exact hk n (by omega)
theorem Ev.bO7 {A1 A2 A3 A4 A5 A6 A7 γ:Type}{A:Nat→Option (A1×A2×A3×A4×A5×A6×A7)}{a1:A1}{a2:A2}{a3:A3}{a4:A4}{a5:A5}{a6:A6}{a7:A7}{k:Nat→A1→A2→A3→A4→A5→A6→A7→Option γ}{r:γ}(ha:Ev A (a1,a2,a3,a4,a5,a6,a7)) (hk:Ev (fun n=>k n a1 a2 a3 a4 a5 a6 a7) r):Ev (fun n=>bO7 (A n) (k n)) r:=by
 obtain⟨N,ha⟩:=ha
 obtain⟨M,hk⟩:=hk
 refine⟨N+M,fun n hn=>?_⟩
 show Go.AM.bO7 (A n) (k n)=some r
 rw[ha n (by omega)]
 exact hk n (by omega)
theorem Ev.bO8 {A1 A2 A3 A4 A5 A6 A7 A8 γ:Type}{A:Nat→Option (A1×A2×A3×A4×A5×A6×A7×A8)}{a1:A1}{a2:A2}{a3:A3}{a4:A4}{a5:A5}{a6:A6}{a7:A7}{a8:A8}{k:Nat→A1→A2→A3→A4→A5→A6→A7→A8→Option γ}{r:γ}(ha:Ev A (a1,a2,a3,a4,a5,a6,a7,a8)) (hk:Ev (fun n=>k n a1 a2 a3 a4 a5 a6 a7 a8) r):Ev (fun n=>bO8 (A n) (k n)) r:=by
 obtain⟨N,ha⟩:=ha
 obtain⟨M,hk⟩:=hk
 refine⟨N+M,fun n hn=>?_⟩
 show Go.AM.bO8 (A n) (k n)=some r
 rw[ha n (by omega)]
 exact hk n (by omega)
theorem Ev.bO10 {A1 A2 A3 A4 A5 A6 A7 A8 A9 A10 γ:Type}{A:Nat→Option (A1×A2×A3×A4×A5×A6×A7×A8×A9×A10)}{a1:A1}{a2:A2}{a3:A3}{a4:A4}{a5:A5}{a6:A6}{a7:A7}{a8:A8}{a9:A9}{a10:A10}{k:Nat→A1→A2→A3→A4→A5→A6→A7→A8→A9→A10→Option γ}{r:γ}(ha:Ev A (a1,a2,a3,a4,a5,a6,a7,a8,a9,a10)) (hk:Ev (fun n=>k n a1 a2 a3 a4 a5 a6 a7 a8 a9 a10) r):Ev (fun n=>bO10 (A n) (k n)) r:=by
 obtain⟨N,ha⟩:=ha
 obtain⟨M,hk⟩:=hk
 refine⟨N+M,fun n hn=>?_⟩
 show Go.AM.bO10 (A n) (k n)=some r
 rw[ha n (by omega)]
 exact hk n (by omega)
theorem Ev.bO15 {A1 A2 A3 A4 A5 A6 A7 A8 A9 A10 A11 A12 A13 A14 A15 γ:Type}{A:Nat→Option (A1×A2×A3×A4×A5×A6×A7×A8×A9×A10×A11×A12×A13×A14×A15)}{a1:A1}{a2:A2}{a3:A3}{a4:A4}{a5:A5}{a6:A6}{a7:A7}{a8:A8}{a9:A9}{a10:A10}{a11:A11}{a12:A12}{a13:A13}{a14:A14}{a15:A15}{k:Nat→A1→A2→A3→A4→A5→A6→A7→A8→A9→A10→A11→A12→A13→A14→A15→Option γ}{r:γ}(ha:Ev A (a1,a2,a3,a4,a5,a6,a7,a8,a9,a10,a11,a12,a13,a14,a15)) (hk:Ev (fun n=>k n a1 a2 a3 a4 a5 a6 a7 a8 a9 a10 a11 a12 a13 a14 a15) r):Ev (fun n=>bO15 (A n) (k n)) r:=by
 obtain⟨N,ha⟩:=ha
 obtain⟨M,hk⟩:=hk
 refine⟨N+M,fun n hn=>?_⟩
 show Go.AM.bO15 (A n) (k n)=some r
 rw[ha n (by omega)]
 exact hk n (by omega)
theorem Ev.bO16 {A1 A2 A3 A4 A5 A6 A7 A8 A9 A10 A11 A12 A13 A14 A15 A16 γ:Type}{A:Nat→Option (A1×A2×A3×A4×A5×A6×A7×A8×A9×A10×A11×A12×A13×A14×A15×A16)}{a1:A1}{a2:A2}{a3:A3}{a4:A4}{a5:A5}{a6:A6}{a7:A7}{a8:A8}{a9:A9}{a10:A10}{a11:A11}{a12:A12}{a13:A13}{a14:A14}{a15:A15}{a16:A16}{k:Nat→A1→A2→A3→A4→A5→A6→A7→A8→A9→A10→A11→A12→A13→A14→A15→A16→Option γ}{r:γ}(ha:Ev A (a1,a2,a3,a4,a5,a6,a7,a8,a9,a10,a11,a12,a13,a14,a15,a16)) (hk:Ev (fun n=>k n a1 a2 a3 a4 a5 a6 a7 a8 a9 a10 a11 a12 a13 a14 a15 a16) r):Ev (fun n=>bO16 (A n) (k n)) r:=by
 obtain⟨N,ha⟩:=ha
 obtain⟨M,hk⟩:=hk
 refine⟨N+M,fun n hn=>?_⟩
 show Go.AM.bO16 (A n) (k n)=some r
 rw[ha n (by omega)]
 exact hk n (by omega)
theorem Ev.bO18 {A1 A2 A3 A4 A5 A6 A7 A8 A9 A10 A11 A12 A13 A14 A15 A16 A17 A18 γ:Type}{A:Nat→Option (A1×A2×A3×A4×A5×A6×A7×A8×A9×A10×A11×A12×A13×A14×A15×A16×A17×A18)}{a1:A1}{a2:A2}{a3:A3}{a4:A4}{a5:A5}{a6:A6}{a7:A7}{a8:A8}{a9:A9}{a10:A10}{a11:A11}{a12:A12}{a13:A13}{a14:A14}{a15:A15}{a16:A16}{a17:A17}{a18:A18}{k:Nat→A1→A2→A3→A4→A5→A6→A7→A8→A9→A10→A11→A12→A13→A14→A15→A16→A17→A18→Option γ}{r:γ}(ha:Ev A (a1,a2,a3,a4,a5,a6,a7,a8,a9,a10,a11,a12,a13,a14,a15,a16,a17,a18)) (hk:Ev (fun n=>k n a1 a2 a3 a4 a5 a6 a7 a8 a9 a10 a11 a12 a13 a14 a15 a16 a17 a18) r):Ev (fun n=>bO18 (A n) (k n)) r:=by
 obtain⟨N,ha⟩:=ha
 obtain⟨M,hk⟩:=hk
 refine⟨N+M,fun n hn=>?_⟩
 show Go.AM.bO18 (A n) (k n)=some r
 rw[ha n (by omega)]
 exact hk n (by omega)
end Go.AM
namespace Go.AM
open Go Go.RowKit Go.ChangeShapes Go.WideShapes
def Ip (ti:Types):List TypeId→List D→Prop
 | [],[]=>True
 | t::ts,x::xs=>Shape ti t x.cells∧(∀y,ti t=some y→x.isAgg=Aj y.desc)∧Ip ti ts xs
 | _,_=>False
theorem Ip.length {ti:Types}:∀{ts:List TypeId}{xs:List D},Ip ti ts xs→xs.length=ts.length
 | [],[],_=>rfl
 | _::_,_::_,h=>by simp[Ip.length h.2.2]
 | [],_::_,h=>h.elim
 | _::_,[],h=>h.elim
section
variable {H:Type}{enc:TypeId×Value→H}{P:Program}{ti:Types}{T:List TypeId}{w:World}
theorem YO (hti:BN P ti) (hT:Mr ti T=true) {Z:Aq}(hZ:∀b o,¬Z b o) {base base':Nat}{spare:Nat→Bool}{held:Bool}{r:Reach}{t:TypeId}{v:Value}{d:DataW H}{ps:List MemPlace}(ht:t∈T)
  (hok:Value.okWide P w r base' t v) (h:DataW.Trod enc P w base spare held t v d ps):∃x:D,Shape ti t x.cells∧(∀y,ti t=some y→x.isAgg=Aj y.desc)∧Ad w Z x v:=by
 obtain⟨fuel,h⟩:=h
 obtain⟨ds,hs,h1,h2,h3⟩:=conv hti hT (Z:=Z) hZ fuel t _ _ _ ht h
 have hp:=List.all_eq_true.1 hT t ht
 split at hp
 ·rename_i y hy
  have hu:=(hti t y hy).1
  have single:Aj y.desc=false→v.cells.toList=[v]→∃x:D,Shape ti t x.cells∧(∀y,ti t=some y→x.isAgg=Aj y.desc)∧Ad w Z x v:=by
   intro hr hv
   rw[hv]at h1 h3
   obtain⟨c,rfl⟩:=List.length_eq_one_iff.1 h1
   have hc:=h2 c (by simp)
   have e:c.cells=[c]:=by cases c<;>first | rfl | simp[D.isAgg]at hc
   refine⟨c,by rw[e];exact hs,fun y' hy'=>?_,h3 0 c v rfl rfl⟩
   rw[hy]at hy'
   obtain rfl:y=y':=by simpa using hy'
   rw[hc,hr]
  split at hp
  ·rename_i hd
   rw[hd]at hu
   obtain⟨b,rfl⟩:=okWide_bool hu hok
   exact single (by rw[hd];rfl) rfl
  ·rename_i k hd
   rw[hd]at hu
   obtain⟨b,rfl⟩:=okWide_int hu hok
   exact single (by rw[hd];rfl) rfl
  ·rename_i hd
   rw[hd]at hu
   obtain⟨b,rfl⟩:=okWide_string hu hok
   exact single (by rw[hd];rfl) rfl
  ·rename_i e hd
   rw[hd]at hu
   obtain⟨a,l,c,rfl⟩:=okWide_slice hu hok
   exact single (by rw[hd];rfl) rfl
  ·rename_i fs hd
   rw[hd]at hu
   obtain⟨cs,rfl,_⟩:=okWide_struct hu hok
   refine⟨.agg ds,hs,fun y' hy'=>?_,.agg ds cs (by simpa [Value.cells] using h1.symm) h2 (fun j c u hc hu'=>h3 j c u hc (by simpa [Value.cells] using hu'))⟩
   rw[hy]at hy'
   obtain rfl:y=y':=by simpa using hy'
   rw[hd];rfl
  ·simp at hp
 ·simp at hp
theorem PV (hti:BN P ti) (hT:Mr ti T=true) {Z:Aq}(hZ:∀b o,¬Z b o) {base base':Nat}{spare:Nat→Bool}{held:Bool}{r:Reach}:
  ∀(ts:List TypeId) (vs:List Value) (ds:List (DataW H)) (ps:List MemPlace),(∀t∈ts,t∈T)→DataW.TrodAll enc P w base spare held ts vs ds ps→
   (∀(j:Nat) t v,ts[j]?=some t→vs[j]?=some v→Value.okWide P w r base' t v)→
   ∃xs,Ip ti ts xs∧∀(j:Nat) x v,xs[j]?=some x→vs[j]?=some v→Ad w Z x v
 | [],vs,ds,ps,_,h,_=>⟨[],trivial,by simp⟩
 | t::ts,vs,ds,ps,ht,h,hok=>by
  obtain⟨v,vs1,d,ds1,a,b,rfl,rfl,rfl,h1,h2⟩:=trodAll_cons h
  obtain⟨x,k1,k2,k3⟩:=YO hti hT hZ (ht t (by simp)) (hok 0 t v rfl rfl) h1
  obtain⟨xs,k4,k5⟩:=PV hti hT hZ ts vs1 ds1 b (fun t ht'=>ht t (by simp[ht'])) h2 (fun j t v h1 h2=>hok (j+1) t v (by simpa using h1) (by simpa using h2))
  refine⟨x::xs,⟨k1,k2,k4⟩,fun j x' v' hx hv=>?_⟩
  match j with
  | 0=>simp at hx hv;subst hx;subst hv;exact k3
  | j+1=>simp at hx hv;exact k5 j x' v' hx hv
theorem PW (hl:laidOutB P=true) {W W':World}(hb:Below W.heap.size W W'):∀(ts:List TypeId) (vs:List Value) (ds:List (DataW H)) (ps:List MemPlace),
  (∀t∈ts,P.readableRec t=true∧t<P.types.size)→DataW.TrodAll enc P W 0 (fun _=>true) true ts vs ds ps→(∀x∈ps,x.block<W.heap.size)→
  DataW.TrodAll enc P W' 0 (fun b=>decide (b<W.heap.size)) true ts vs ds ps
 | [],vs,ds,ps,_,h,_=>by
  obtain⟨rfl,rfl,rfl⟩:=trodAll_nil h
  exact rfl
 | t::ts,vs,ds,ps,ht,h,hlt=>by
  obtain⟨v,vs1,d,ds1,a,b,rfl,rfl,rfl,h1,h2⟩:=trodAll_cons h
  have ht1:=ht t (by simp)
  exact⟨a,b,Below.trod hl ht1.1 ht1.2 h1 hb (fun x hx=>hlt x (by simp[hx])),PW hl hb ts vs1 ds1 b (fun t ht'=>ht t (by simp[ht'])) h2 (fun x hx=>hlt x (by simp[hx])),rfl⟩
theorem Wn {I:Inv}(hti:BN P ti) (hT:Mr ti T=true) {s:ChangeSpec}{fn:Func}{f:FuncId}{ts:List TypeId}{bt:TypeId}
  (hp:fn.params.toList=ts) (hv:s.vars=[]) (hr:fn.resultTypes=#[bt]) (hb:P.underlying bt=some .bool) (htT:∀t∈ts,t∈T)
  (hs:∀ds:List (DataW H),ds.length=ts.length→(s.fn H ds).results=[.lit (.bool true)]∧(s.fn H ds).args=ds∧(s.fn H ds).vars=[])
  (hl:laidOutB P=true) (hrec:∀t∈ts,P.readableRec t=true∧t<P.types.size)
  (hc:∀xs:List D,Ip ti ts xs→BB P I f (xs.map V1.d) [] (.v (.d (.bool true))) [] [])
  {W:World} {base:Nat} {args:Array Value} {ds gs:List (DataW H)} {before:List MemPlace}
  (hI:I.at W fun _ _=>False) (hval:∀(j:Nat) t v,fn.params[j]?=some t→args[j]?=some v→Value.okWide P W .any base t v)
  (hW:DataW.Whole enc P fn.params.toList s.vars false W args.toList ds gs before):
  Calls P f args W fun e W'=>∃v,e= .returned v∧s.post enc P fn false true false false W args v W':=by
 have hW':=hW
 obtain⟨p,q,hA,hV,rfl,_,_⟩:=hW
 rw[hv]at hV
 obtain⟨rfl,rfl⟩:gs=[]∧q=[]:=by
  cases gs with
  | nil=>exact⟨rfl,hV⟩
  | cons _ _=>exact hV.elim
 rw[hp]at hA
 obtain⟨hlen,hdl⟩:=trodAll_length hA
 obtain⟨xs,hsh,hrel⟩:=PV hti hT (Z:=fun _ _=>False) (fun _ _ h=>h) (r:=.any) (base':=base) ts args.toList ds p htT hA (fun j t v h1 h2=>hval j t v (by
  rw[←Array.getElem?_toList,hp];exact h1) (by simpa using h2))
 have hxl:=hsh.length
 have hcall:=hc xs hsh
 have hheap:∀i o,Av [] i=some o→False:=by
  intro i o h
  cases i<;>simp[Av]at h
 have hzone:∀(g:AW) b o,¬zone g (Av []) b o:=by
  rintro g b o ⟨i,ob,h,_⟩
  exact hheap i ob h
 refine (hcall.calls (w:=W) (X:=fun _ _=>False) (g:=fun _=>undef) (vals:=args) (fun _ _ h=>h.elim) (hI.mono fun b o hz=>hz.elim (hzone _ b o) id) ⟨fun i o h=>(hheap i o h).elim,fun i _ _ _ _ h=>(hheap i _ h).elim,fun i _ _ _ h=>(hheap i _ h).elim⟩ (fun _=>rfl)
  (by simp at hlen;simp;omega) (fun j x v hx hvv=>?_)).mono ?_
 ·simp only[List.getElem?_map,Option.map_eq_some_iff]at hx
  obtain⟨d,hd,rfl⟩:=hx
  exact (hrel j d v hd (by simpa using hvv)).mono (fun b o u hu _=>⟨hu,fun hz=>hz.elim (hzone _ b o) id⟩)
 ·rintro e W' ⟨v,g',rfl,hpost⟩
  obtain rfl:v= .bool true:=by cases (show Ad _ _ (.bool true) v from hpost.res);rfl
  have hbel:Below W.heap.size W W':=⟨hpost.frame.os,hpost.frame.tape,hpost.frame.output,hpost.frame.size,fun k hk=>hpost.frame.block k hk (fun o=>hzone _ k o)⟩
  obtain⟨s1,s2,s3⟩:=hs (ds++[]) (by simp[hdl])
  refine⟨_,rfl,ds,[],p++[],[],p,[],hW',?_,?_,?_,hbel.frame _,fun h=>by cases h⟩
  ·rw[s1,hr]
   exact trodAll_mk1 (shut_bool hb true)
  ·rw[s2,hp,List.append_nil]
   exact PW hl hbel ts args.toList ds p hrec hA (fun x hx=>hW'.lt x (by simp[hx]))
  ·rw[s3,hv];rfl
end
end Go.AM
set_option linter.unusedVariables false
noncomputable section
namespace Go.Proofs.YtjmofeakajdbiaaGreatDoor
open Go Go.AM
abbrev emp (s:ByteArray):Bool:=decide (s=ByteArray.empty)
def Lg (z1 z2:Int):Bool:=if z1=1 then decide (0≤z2)else if z1=2 then decide (z2=0) || decide (z2=1)else decide (z2=0)
def Dj (z1:Int) (s:ByteArray):Bool:=if z1=18 then nm 97 122 s else if z1=19∨z1=20 then nm 65 90 s else emp s
def GQ (z1:Int) (s:ByteArray):Bool:=if z1=20 then nm 65 90 s else emp s
def RC (s:ByteArray) (l6 l7:List D):Bool:=emp s&&(decide (l6.length=l7.length)&&l6.all F5)
def Jk (z1:Int) (hp:Bool) (s:ByteArray) (l6 l7:List D):Bool:=if hp=true then Co s l6 else if z1=19 then RC s l6 l7 else emp s&&decide (l6.length=0)
section
variable {z1 z2:Int}{s3 s4 s5:ByteArray}{l6 l7:List D}{z8:Int}
theorem lH (h3:s3.size≤maxLen) (h4:s4.size≤maxLen):Ev (fun n=>mT n z1 z2 s3 s4 s5 l6 l7 z8) (Dj z1 s3&&(GQ z1 s4&&Lg z1 z2)):=by
 have e7:∀a b c,Ev (fun n=>Ga n a b c) (a&&(b&&c)):=fun a b c=>.succ (by cases a<;>cases b<;>simp only[Ga,if_true,Bool.false_eq_true,if_false]<;>exact Ev.ret)
 have main:Ev (fun n=>Gb n z1 z2 s3 s4 (emp s3) (emp s4) (decide (z2=0))) (Dj z1 s3&&(GQ z1 s4&&Lg z1 z2)):=by
  refine .succ ?_
  by_cases c1:z1=1
  ·subst c1
   simp only[Gb,if_true]
   refine .succ ?_
   simp only[PD,if_true,Dj,GQ,Lg,show ¬(1:Int)=18 by decide,show ¬((1:Int)=19∨(1:Int)=20)by decide,show ¬(1:Int)=20 by decide,if_false]
   by_cases c:0≤z2
   ·simp only[if_pos c,decide_eq_true c];exact e7 _ _ _
   ·simp only[if_neg c,decide_eq_false c];exact e7 _ _ _
  simp only[Gb,if_neg c1]
  refine .succ ?_
  by_cases c2:z1=2
  ·subst c2
   simp only[PD,Bool.false_eq_true,if_false,if_true]
   refine .succ ?_
   simp only[PC,if_true,Dj,GQ,Lg,show ¬(2:Int)=18 by decide,show ¬((2:Int)=19∨(2:Int)=20)by decide,show ¬(2:Int)=20 by decide,show ¬(2:Int)=1 by decide,if_false]
   by_cases c:z2=0
   ·simp only[if_pos c,decide_eq_true c,Bool.true_or];exact e7 _ _ _
   ·by_cases d:z2=1
    ·simp only[if_neg c,if_pos d,decide_eq_false c,decide_eq_true d,Bool.false_or];exact e7 _ _ _
    ·simp only[if_neg c,if_neg d,decide_eq_false c,decide_eq_false d,Bool.false_or];exact e7 _ _ _
  simp only[PD,Bool.false_eq_true,if_false,if_neg c2]
  refine .succ ?_
  have ei:Lg z1 z2=decide (z2=0):=by simp only[Lg,if_neg c1,if_neg c2]
  rw[ei]
  by_cases c3:z1=18
  ·subst c3
   simp only[PC,Bool.false_eq_true,if_false,if_true]
   refine .succ ?_
   simp only[PB,if_true,Dj,GQ,show ¬(18:Int)=20 by decide,if_false]
   exact Ev.bO1 (Ld h3) (e7 _ _ _)
  simp only[PC,Bool.false_eq_true,if_false,if_neg c3]
  refine .succ ?_
  by_cases c4:z1=19
  ·subst c4
   simp only[PB,Bool.false_eq_true,if_false,if_true]
   refine .succ ?_
   simp only[PA,if_true,Dj,GQ,show ¬(19:Int)=18 by decide,show ¬(19:Int)=20 by decide,if_false,true_or]
   exact Ev.bO1 (RB h3) (e7 _ _ _)
  simp only[PB,Bool.false_eq_true,if_false,if_neg c4]
  refine .succ ?_
  by_cases c5:z1=20
  ·subst c5
   simp only[PA,Bool.false_eq_true,if_false,if_true]
   refine .succ ?_
   simp only[Sq,if_true,Dj,GQ,show ¬(20:Int)=18 by decide,if_false,or_true]
   exact Ev.bO1 (RB h3) (Ev.bO1 (RB h4) (e7 _ _ _))
  simp only[PA,Bool.false_eq_true,if_false,if_neg c5]
  refine .succ ?_
  simp only[Sq,Bool.false_eq_true,if_false,Dj,GQ,if_neg c3,if_neg (show ¬(z1=19∨z1=20)from fun h=>h.elim c4 c5),if_neg c5]
  exact e7 _ _ _
 unfold mT
 by_cases a:s3=ByteArray.empty<;>by_cases b:s4=ByteArray.empty<;>by_cases c:z2=0<;>simp only[a,b,c,if_true,if_false]<;>simpa only[a,b,c,emp,decide_true,decide_false] using main
theorem lI (h5:s5.size≤maxLen) (h6:AK Ap 9 l6) (hp:Bool):Ev (fun n=>mU n z1 z2 s3 s4 s5 l6 l7 z8 hp) (if hp=true then Co s5 l6 else if z1=19 then RC s5 l6 l7&&decide (l6.length≤6)else emp s5&&decide (l6.length=0)):=by
 unfold mU
 cases hp
 ·simp only[Bool.false_eq_true,if_false]
  by_cases c:z1=19
  ·simp only[if_pos c]
   refine .succ ?_
   simp only[Sr,if_true,RC]
   by_cases e:s5=ByteArray.empty
   ·simp only[if_pos e,AB,decide_eq_true e,Bool.true_and]
    by_cases e2:l6.length=l7.length
    ·simp only[if_pos (show (l6.length:Int)=(l7.length:Int)by omega),decide_eq_true e2,Bool.true_and]
     exact Ev.bO1 (PU h6 6) Ev.ret
    ·simp only[if_neg (show ¬(l6.length:Int)=(l7.length:Int)by omega),decide_eq_false e2,Bool.false_and];exact Ev.ret
   ·simp only[if_neg e,decide_eq_false e,Bool.false_and];exact Ev.ret
  ·simp only[if_neg c]
   refine .succ ?_
   simp only[Sr,Bool.false_eq_true,if_false,N5]
   refine Ev.bO1 (a:=emp s5&&decide (l6.length=0)) ?_ Ev.ret
   by_cases e:s5=ByteArray.empty
   ·simp only[if_pos e,AB,decide_eq_true e,Bool.true_and]
    by_cases e2:l6.length=0
    ·simp only[if_pos (show (l6.length:Int)=0 by omega),decide_eq_true e2];exact Ev.ret
    ·simp only[if_neg (show ¬(l6.length:Int)=0 by omega),decide_eq_false e2];exact Ev.ret
   ·simp only[if_neg e,decide_eq_false e,Bool.false_and];exact Ev.ret
 ·simp only[if_true];exact Ev.bO1 (kP h5 h6) Ev.ret
theorem qJ (h6:AK Ap 9 l6):Ev (fun n=>Zk n z1 z2 s3 s4 s5 l6 l7 z8) (RC s5 l6 l7):=by
 have loop:∀i,i≤l6.length→Ev (fun n=>Kb n l6 (i:Int)) ((l6.drop i).all F5):=by
  refine down l6.length (Ev.succ ?_) (fun i hi ih=>?_)
  ·simp only[Kb,AB,Int.lt_irrefl,if_false,List.drop_length]
   exact Ev.succ (by simp only[NR,Bool.false_eq_true,if_false];exact Ev.ret)
  ·obtain⟨x,hx,_,hr⟩:=h6.get hi
   obtain⟨s,rfl,hs⟩:=Yq hr
   rw[HT hx]
   refine Ev.succ ?_
   simp only[Kb,AB,if_pos (show (i:Int)<(l6.length:Int)by omega)]
   refine Ev.succ ?_
   simp only[NR,if_true,AG hx,Bc,F5]
   refine Ev.bO1 (N8 hs) ?_
   cases nm 97 122 s
   ·simp only[AI,Bool.not_false,if_true,Bool.false_and];exact Ev.ret
   ·simp only[AI,Bool.not_true,Bool.false_eq_true,if_false,AE,AF hi h6.1,Bool.true_and];exact ih
 have no:Ev (fun n=>Il n l6 true) false:=Ev.succ (by simp only[Il,if_true];exact Ev.ret)
 unfold Zk RC
 by_cases e:s5=ByteArray.empty
 ·simp only[if_pos e,AB,decide_eq_true e,Bool.true_and]
  by_cases e2:l6.length=l7.length
  ·simp only[if_pos (show (l6.length:Int)=(l7.length:Int)by omega),decide_eq_true e2,Bool.true_and]
   exact Ev.succ (by simp only[Il,Bool.false_eq_true,if_false];exact loop 0 (Nat.zero_le _))
  ·simp only[if_neg (show ¬(l6.length:Int)=(l7.length:Int)by omega),decide_eq_false e2,Bool.false_and];exact no
 ·simp only[if_neg e,decide_eq_false e,Bool.false_and];exact no
variable {f:ByteArray}{hp:Bool}{least most:Int}(G:Good z1 f hp least most) {deep:Int}{A:Bool}
theorem g9 (hA:Ev (fun n=>EK n z1 l7 deep (0:Int)) A) (b:Bool):Ev (fun n=>HS n z1 l7 deep (!b)) (b&&A):=by
 refine .succ ?_
 cases b
 ·simp only[HS,Bool.not_false,if_true,Bool.false_and];exact Ev.ret
 ·simp only[HS,Bool.not_true,Bool.false_eq_true,if_false,Bool.true_and];exact hA
include G
theorem g8 (h4:s4.size≤maxLen) (hA:Ev (fun n=>EK n z1 l7 deep (0:Int)) A) (b:Bool):Ev (fun n=>Cn n z1 s4 l7 deep f (!b)) (b&&(GQ z1 s4&&A)):=by
 have k9:=g9 hA
 refine .succ ?_
 cases b
 ·simp only[Cn,Bool.not_false,if_true,Bool.false_and];exact Ev.ret
 simp only[Cn,Bool.not_true,Bool.false_eq_true,if_false,Bool.true_and]
 refine Ev.bO1 G.hv ?_
 by_cases c:z1=20
 ·simp only[decide_eq_true c,if_true,GQ,if_pos c]
  refine Ev.bO1 (S4 h4) ?_
  cases nm 65 90 s4
  ·simp only[AI,Bool.not_false,if_true];exact k9 false
  ·simp only[AI,Bool.not_true,Bool.false_eq_true,if_false]
   refine Ev.bO1 G.hv ?_
   simp only[decide_eq_true c,AI,Bool.not_true,Bool.false_eq_true,if_false];exact k9 true
 ·simp only[decide_eq_false c,Bool.false_eq_true,if_false,GQ,if_neg c]
  refine Ev.bO1 G.hv ?_
  simp only[decide_eq_false c,AI,Bool.not_false,if_true]
  by_cases e:s4=ByteArray.empty
  ·simp only[if_pos e,emp,decide_eq_true e];exact k9 true
  ·simp only[if_neg e,emp,decide_eq_false e];exact k9 false
theorem g7 (h3:s3.size≤maxLen) (h4:s4.size≤maxLen) (hA:Ev (fun n=>EK n z1 l7 deep (0:Int)) A):Ev (fun n=>PT n z1 s3 s4 l7 deep f) (Dj z1 s3&&(GQ z1 s4&&A)):=by
 have k8:=g8 G h4 hA
 refine .succ ?_
 simp only[PT]
 refine Ev.bO1 G.hn ?_
 by_cases c:z1=18
 ·have ct:¬(z1=19∨z1=20):=by omega
  simp only[decide_eq_true c,if_true,Dj,if_pos c]
  refine Ev.bO1 (N8 h3) ?_
  cases nm 97 122 s3
  ·simp only[AI,Bool.not_false,if_true];exact k8 false
  ·simp only[AI,Bool.not_true,Bool.false_eq_true,if_false]
   refine Ev.bO1 G.ht ?_
   simp only[decide_eq_false ct,Bool.false_eq_true,if_false]
   refine Ev.bO1 G.hn ?_
   simp only[decide_eq_true c,AI,Bool.not_true,Bool.false_eq_true,if_false];exact k8 true
 simp only[decide_eq_false c,Bool.false_eq_true,if_false,Dj,if_neg c]
 refine Ev.bO1 G.ht ?_
 by_cases ct:z1=19∨z1=20
 ·simp only[decide_eq_true ct,if_true,if_pos ct]
  refine Ev.bO1 (S4 h3) ?_
  cases nm 65 90 s3
  ·simp only[AI,Bool.not_false,if_true];exact k8 false
  ·simp only[AI,Bool.not_true,Bool.false_eq_true,if_false]
   refine Ev.bO1 G.hn ?_
   simp only[decide_eq_false c,AI,Bool.not_false,if_true]
   refine Ev.bO1 G.ht ?_
   simp only[decide_eq_true ct,AI,Bool.not_true,Bool.false_eq_true,if_false];exact k8 true
 ·simp only[decide_eq_false ct,Bool.false_eq_true,if_false,if_neg ct]
  refine Ev.bO1 G.hn ?_
  simp only[decide_eq_false c,AI,Bool.not_false,if_true]
  refine Ev.bO1 G.ht ?_
  simp only[decide_eq_false ct,AI,Bool.not_false,if_true]
  by_cases e:s3=ByteArray.empty
  ·simp only[if_pos e,emp,decide_eq_true e];exact k8 true
  ·simp only[if_neg e,emp,decide_eq_false e];exact k8 false
theorem g5 (h3:s3.size≤maxLen) (h4:s4.size≤maxLen) (h5:s5.size≤maxLen) (h6:AK Ap 9 l6) (hA:Ev (fun n=>EK n z1 l7 deep (0:Int)) A):
  Ev (fun n=>PS n z1 z2 s3 s4 s5 l6 l7 z8 deep f) (Jk z1 hp s5 l6 l7&&(Dj z1 s3&&(GQ z1 s4&&A))):=by
 have k7:=g7 G h3 h4 hA
 refine .succ ?_
 simp only[PS]
 refine Ev.bO1 G.h112 ?_
 cases hp
 ·simp only[Bool.false_eq_true,if_false,Jk]
  refine Ev.bO1 G.hf ?_
  by_cases c:z1=19
  ·simp only[decide_eq_true c,if_true,if_pos c]
   refine Ev.bO1 (qJ h6) ?_
   cases RC s5 l6 l7
   ·simp only[AI,Bool.not_false,if_true,Bool.false_and];exact Ev.ret
   ·simp only[AI,Bool.not_true,Bool.false_eq_true,if_false,Bool.true_and];exact k7
  ·simp only[decide_eq_false c,Bool.false_eq_true,if_false,if_neg c]
   have k6:∀b,Ev (fun n=>NT n z1 s3 s4 l7 deep f (!b)) (b&&(Dj z1 s3&&(GQ z1 s4&&A))):=by
    intro b
    refine .succ ?_
    cases b
    ·simp only[NT,Bool.not_false,if_true,Bool.false_and];exact Ev.ret
    ·simp only[NT,Bool.not_true,Bool.false_eq_true,if_false,Bool.true_and];exact k7
   by_cases e:s5=ByteArray.empty
   ·simp only[if_pos e,emp,decide_eq_true e,Bool.true_and,AB]
    by_cases e2:l6.length=0
    ·simp only[if_neg (show ¬0<(l6.length:Int)by omega),decide_eq_true e2];exact k6 true
    ·simp only[if_pos (show 0<(l6.length:Int)by omega),decide_eq_false e2];exact k6 false
   ·simp only[if_neg e,emp,decide_eq_false e,Bool.false_and];exact k6 false
 ·simp only[if_true,Jk]
  refine Ev.bO1 (kQ h5 h6) ?_
  cases Co s5 l6
  ·simp only[AI,Bool.not_false,if_true,Bool.false_and];exact Ev.ret
  ·simp only[AI,Bool.not_true,Bool.false_eq_true,if_false,Bool.true_and];exact k7
theorem g1 (h3:s3.size≤maxLen) (h4:s4.size≤maxLen) (h5:s5.size≤maxLen) (h6:AK Ap 9 l6) (hA:Ev (fun n=>EK n z1 l7 deep (0:Int)) A):
  Ev (fun n=>LN n z1 z2 s3 s4 s5 l6 l7 z8 deep f false) (Lg z1 z2&&(Jk z1 hp s5 l6 l7&&(Dj z1 s3&&(GQ z1 s4&&A)))):=by
 have k5:=g5 (z2:=z2) (z8:=z8) G h3 h4 h5 h6 hA
 refine .succ ?_
 simp only[LN,Bool.false_eq_true,if_false]
 refine Ev.bO1 G.hi ?_
 by_cases c1:z1=1
 ·simp only[decide_eq_true c1,if_true,Lg,if_pos c1]
  by_cases c:0≤z2
  ·simp only[if_neg (show ¬z2<0 by omega),decide_eq_true c,Bool.true_and]
   exact .succ (by simp only[S6,Bool.false_eq_true,if_false];exact k5)
  ·simp only[if_pos (show z2<0 by omega),decide_eq_false c,Bool.false_and]
   exact .succ (by simp only[S6,if_true];exact Ev.ret)
 simp only[decide_eq_false c1,Bool.false_eq_true,if_false,Lg,if_neg c1]
 refine Ev.bO1 G.hb ?_
 by_cases c2:z1=2
 ·simp only[decide_eq_true c2,if_true,if_pos c2]
  have y:Ev (fun n=>NS n z1 z2 s3 s4 s5 l6 l7 z8 deep f false) (Jk z1 hp s5 l6 l7&&(Dj z1 s3&&(GQ z1 s4&&A))):=.succ (by simp only[NS,Bool.false_eq_true,if_false];exact k5)
  by_cases c:z2=0
  ·simp only[if_pos c,decide_eq_true c,Bool.true_or,Bool.true_and];exact y
  ·by_cases d:z2=1
   ·simp only[if_neg c,if_pos d,decide_eq_true d,Bool.or_true,Bool.true_and];exact y
   ·simp only[if_neg c,if_neg d,decide_eq_false c,decide_eq_false d,Bool.or_false,Bool.false_and]
    exact .succ (by simp only[NS,if_true];exact Ev.ret)
 ·simp only[decide_eq_false c2,Bool.false_eq_true,if_false,if_neg c2]
  by_cases c:z2=0
  ·simp only[if_pos c,decide_eq_true c,Bool.true_and]
   exact .succ (by simp only[S7,Bool.false_eq_true,if_false];exact k5)
  ·simp only[if_neg c,decide_eq_false c,Bool.false_and]
   exact .succ (by simp only[S7,if_true];exact Ev.ret)
end
theorem S8 (l:List D):AK Ap 39 l→∀z1 z2 (s3 s4 s5:ByteArray) l6 z8 deep,0≤z1→z1<256→s3.size≤maxLen→s4.size≤maxLen→s5.size≤maxLen→AK Ap 9 l6→0≤deep→deep≤40→
  LM (fun n=>N6 n z1 z2 s3 s4 s5 l6 l z8 deep) (fun n=>Vq n z1 z2 s3 s4 s5 l6 l z8 deep):=by
 refine Bt (P:=fun l=>AK Ap 39 l→∀z1 z2 (s3 s4 s5:ByteArray) l6 z8 deep,0≤z1→z1<256→s3.size≤maxLen→s4.size≤maxLen→s5.size≤maxLen→AK Ap 9 l6→0≤deep→deep≤40→
  LM (fun n=>N6 n z1 z2 s3 s4 s5 l6 l z8 deep) (fun n=>Vq n z1 z2 s3 s4 s5 l6 l z8 deep)) (fun l ih h z1 z2 s3 s4 s5 l6 z8 deep h0 h1 h3 h4 h5 h6 d0 d40=>?_) l
 have no39:∀m,Ev (fun n=>H0 n z1 z2 s3 s4 s5 l6 l z8 deep m true) false:=fun m=>.succ (by simp only[H0,if_true];exact Ev.ret)
 have no23:∀f,Ev (fun n=>LN n z1 z2 s3 s4 s5 l6 l z8 deep f true) false:=fun f=>.succ (by simp only[LN,if_true];exact Ev.ret)
 rcases YN h0 h1 with⟨f,hp,least,most,G⟩ | ⟨g1',hp,a,b,g2⟩
 rotate_left
 ·refine⟨false,.succ ?_,.succ ?_⟩
  ·simp only[N6]
   refine Ev.bO4 g2 ?_
   by_cases c:deep<1
   ·simp only[if_pos c];exact no39 _
   ·simp only[if_neg c,AI,Bool.not_false,if_true];exact no39 _
  ·simp only[Vq]
   refine Ev.bO1 g1' ?_
   by_cases c:deep<1
   ·simp only[if_pos c];exact no23 _
   ·simp only[if_neg c,if_true];exact no23 _
 by_cases c:deep<1
 ·refine⟨false,.succ ?_,.succ ?_⟩
  ·simp only[N6]
   refine Ev.bO4 G.f58 ?_
   simp only[if_pos c];exact no39 _
  ·simp only[Vq]
   refine Ev.bO1 G.f40 ?_
   simp only[if_pos c];exact no23 _
 have wd:IntKind.i64.wrap (deep - 1)=deep - 1:=IntWalk.i64_in _ (by omega)
 obtain⟨m0,m1,m2⟩:=G.most6
 obtain⟨M,rfl⟩:∃M:Nat,most=M:=⟨most.toNat,by omega⟩
 -- one argument
 have arg:∀{i:Nat},i<l.length→∃r a0 a1 a2 a3 a4 a5 a6 a7,l[i]?=some (.agg [.int .u8 a0,.int .i64 a1,.str a2,.str a3,.str a4,.list false 1 a5,.list true 8 a6,.int .i64 a7])∧
   Ev (fun n=>jN n a0 a1 a2 a3 a4 a5 a6 a7 z1 z2 s3 s4 s5 l6 l z8 deep) (r,z1,z2,s3,s4,s5,l6,l,z8,deep)∧
   ∃q,(z1=18→r=q)∧(¬z1=18→r=(!decide (a0=5∨a0=6)&&q))∧Ev (fun n=>Vq n a0 a1 a2 a3 a4 a5 a6 a7 (deep - 1)) q:=by
  intro i hi
  obtain⟨x,hx,hm,hr⟩:=h.get hi
  obtain⟨a0,a1,a2,a3,a4,a5,a6,a7,rfl,w0,_,w2,w3,w4,w5,w6,_⟩:=NM hr
  obtain⟨q,q1,q2⟩:=ih a6 (Au (ag:=true) (sz:=8) hm (by simp)) w6 a0 a1 a2 a3 a4 a5 a7 (deep - 1) (EB w0).1 (EB w0).2 w2 w3 w4 w5 (by omega) (by omega)
  have e38:∀n,Wj n a0 a1 a2 a3 a4 a5 a6 a7=some (decide (a0=5∨a0=6)):=fun n=>by
   unfold Wj
   by_cases c5:a0=5
   ·simp[c5]
   ·by_cases c6:a0=6<;>simp[c5,c6]
  by_cases c18:z1=18
  ·refine⟨q,a0,a1,a2,a3,a4,a5,a6,a7,hx,.succ ?_,q,fun _=>rfl,fun h=>absurd c18 h,q2⟩
   simp only[jN,if_pos c18,AE,wd]
   exact Ev.bO1 q1 Ev.ret
  ·refine⟨_,a0,a1,a2,a3,a4,a5,a6,a7,hx,.succ ?_,q,fun h=>absurd h c18,fun _=>rfl,q2⟩
   simp only[jN,if_neg c18,e38]
   refine Ev.bO1 Ev.ret ?_
   cases decide (a0=5∨a0=6)
   ·simp only[AI,Bool.not_false,if_true,AE,wd,Bool.true_and]
    exact Ev.bO1 q1 Ev.ret
   ·simp only[AI,Bool.not_true,Bool.false_eq_true,if_false,Bool.false_and];exact Ev.ret
 -- the arguments
 have args:l.length≤M→∃A,Ev (fun n=>gC n l (M:Int) z1 z2 s3 s4 s5 l6 l z8 deep) (A,z1,z2,s3,s4,s5,l6,l,z8,deep)∧Ev (fun n=>EK n z1 l deep (0:Int)) A:=by
  intro hM
  have loop:∀i,i≤l.length→∃A,Ev (fun n=>JR n l (M:Int) (i:Int) z1 z2 s3 s4 s5 l6 l z8 deep) (A,z1,z2,s3,s4,s5,l6,l,z8,deep)∧Ev (fun n=>EK n z1 l deep (i:Int)) A:=by
   refine down l.length ⟨true,.succ ?_,.succ ?_⟩ (fun i hi ih2=>?_)
   ·simp only[JR,AB,Int.lt_irrefl,if_false]
    exact .succ (by simp only[LH,Bool.false_eq_true,if_false,AB,if_pos (show (l.length:Int)≤(M:Int)by omega)];exact Ev.ret)
   ·simp only[EK,AB,Int.lt_irrefl,if_false]
    exact .succ (by simp only[NU,Bool.false_eq_true,if_false];exact Ev.ret)
   ·obtain⟨A,b1,b2⟩:=ih2
    obtain⟨r,a0,a1,a2,a3,a4,a5,a6,a7,hx,p1,q,p2,p3,p4⟩:=arg hi
    refine⟨r&&A,.succ ?_,.succ ?_⟩
    ·simp only[JR,AB,if_pos (show (i:Int)<(l.length:Int)by omega),if_pos (show (i:Int)<(M:Int)by omega)]
     refine .succ ?_
     simp only[LH,if_true,AG hx,Ao]
     refine Ev.bO10 p1 ?_
     cases r
     ·simp only[AI,Bool.not_false,if_true,Bool.false_and];exact Ev.ret
     ·simp only[AI,Bool.not_true,Bool.false_eq_true,if_false,AE,AF hi h.1,Bool.true_and];exact b1
    ·simp only[EK,AB,if_pos (show (i:Int)<(l.length:Int)by omega)]
     refine .succ ?_
     simp only[NU,if_true,AG hx,Ao]
     have e22:∀n,Zl n a0 a1 a2 a3 a4 a5 a6 a7=some (decide (a0=5∨a0=6)):=fun n=>by
      unfold Zl
      by_cases c5:a0=5
      ·simp[c5]
      ·by_cases c6:a0=6<;>simp[c5,c6]
     have gH:∀b,Ev (fun n=>Im n z1 l deep (i:Int) (!b)) (b&&A):=by
      intro b
      refine .succ ?_
      cases b
      ·simp only[Im,Bool.not_false,if_true,Bool.false_and];exact Ev.ret
      ·simp only[Im,Bool.not_true,Bool.false_eq_true,if_false,AE,AF hi h.1,Bool.true_and];exact b2
     simp only[e22]
     refine Ev.bO1 Ev.ret ?_
     by_cases c18:z1=18
     ·rw[p2 c18]
      simp only[if_pos c18,AE,wd]
      cases decide (a0=5∨a0=6)
      ·simp only[Bool.false_eq_true,if_false]
       exact Ev.bO1 p4 (by simp only[AI];exact gH q)
      ·simp only[if_true]
       exact Ev.bO1 p4 (by simp only[AI];exact gH q)
     ·rw[p3 c18]
      simp only[if_neg c18,AE,wd]
      cases decide (a0=5∨a0=6)
      ·simp only[Bool.false_eq_true,if_false,Bool.not_false,Bool.true_and]
       exact Ev.bO1 p4 (by simp only[AI];exact gH q)
      ·simp only[if_true,Bool.not_true,Bool.false_and];exact gH false
  obtain⟨A,b1,b2⟩:=loop 0 (Nat.zero_le _)
  exact⟨A,.succ (by simp only[gC];exact b1),b2⟩
 have args2:¬l.length≤M→Ev (fun n=>gC n l (M:Int) z1 z2 s3 s4 s5 l6 l z8 deep) (false,z1,z2,s3,s4,s5,l6,l,z8,deep):=by
  intro hM
  have loop:∀i,i≤M→Ev (fun n=>JR n l (M:Int) (i:Int) z1 z2 s3 s4 s5 l6 l z8 deep) (false,z1,z2,s3,s4,s5,l6,l,z8,deep):=by
   refine down M (.succ ?_) (fun i hi ih2=>?_)
   ·simp only[JR,AB,if_pos (show (M:Int)<(l.length:Int)by omega),Int.lt_irrefl,if_false]
    exact .succ (by simp only[LH,Bool.false_eq_true,if_false,AB,if_neg (show ¬(l.length:Int)≤(M:Int)by omega)];exact Ev.ret)
   ·obtain⟨r,a0,a1,a2,a3,a4,a5,a6,a7,hx,p1,q,p2,p3,p4⟩:=arg (show i<l.length by omega)
    refine .succ ?_
    simp only[JR,AB,if_pos (show (i:Int)<(l.length:Int)by omega),if_pos (show (i:Int)<(M:Int)by omega)]
    refine .succ ?_
    simp only[LH,if_true,AG hx,Ao]
    refine Ev.bO10 p1 ?_
    cases r
    ·simp only[AI,Bool.not_false,if_true];exact Ev.ret
    ·simp only[AI,Bool.not_true,Bool.false_eq_true,if_false,AE,AF (show i<l.length by omega) h.1];exact ih2
  exact .succ (by simp only[gC];exact loop 0 (Nat.zero_le _))
 -- how many
 by_cases hmany:least≤(l.length:Int)∧(l.length:Int)≤(M:Int)
 rotate_left
 ·refine⟨false,.succ ?_,.succ ?_⟩
  ·simp only[N6]
   refine Ev.bO4 G.f58 ?_
   simp only[if_neg c,AI,Bool.not_true,Bool.false_eq_true,if_false]
   refine Ev.bO1 (lH h3 h4) ?_
   cases Dj z1 s3&&(GQ z1 s4&&Lg z1 z2)
   ·simp only[Bool.not_false,if_true];exact no39 _
   ·simp only[Bool.not_true,Bool.false_eq_true,if_false,AB]
    by_cases cl:(l.length:Int)<least
    ·simp only[if_pos cl];exact no39 _
    ·simp only[if_neg cl]
     refine Ev.bO1 (lI h5 h6 hp) ?_
     generalize (if hp=true then Co s5 l6 else if z1=19 then RC s5 l6 l&&decide (l6.length≤6)else emp s5&&decide (l6.length=0))=P
     cases P
     ·simp only[Bool.not_false];exact no39 _
     ·simp only[Bool.not_true]
      refine .succ ?_
      simp only[H0,Bool.false_eq_true,if_false]
      exact Ev.bO10 (args2 (by omega)) Ev.ret
  ·simp only[Vq]
   refine Ev.bO1 G.f40 ?_
   simp only[if_neg c,if_neg G.ne,AB]
   refine Ev.bO1 (G.many _ (by omega)) ?_
   have:(decide (least≤(l.length:Int))&&decide ((l.length:Int)≤(M:Int)))=false:=by
    rw[Bool.and_eq_false_iff]
    by_cases c1:least≤(l.length:Int)
    ·right;exact decide_eq_false (fun c2=>hmany ⟨c1,c2⟩)
    ·left;exact decide_eq_false c1
   simp only[this,AI,Bool.not_false]
   exact no23 _
 obtain⟨A,b1,b2⟩:=args (by omega)
 refine⟨Lg z1 z2&&(Jk z1 hp s5 l6 l&&(Dj z1 s3&&(GQ z1 s4&&A))),.succ ?_,.succ ?_⟩
 ·have hpl:(if hp=true then Co s5 l6 else if z1=19 then RC s5 l6 l&&decide (l6.length≤6)else emp s5&&decide (l6.length=0))=Jk z1 hp s5 l6 l:=by
   unfold Jk
   congr 1
   congr 1
   unfold RC
   by_cases e:l6.length=l.length
   ·rw[decide_eq_true (show l6.length≤6 by omega),Bool.and_true]
   ·simp only[decide_eq_false e,Bool.false_and,Bool.and_false]
  simp only[N6]
  refine Ev.bO4 G.f58 ?_
  simp only[if_neg c,AI,Bool.not_true,Bool.false_eq_true,if_false]
  refine Ev.bO1 (lH h3 h4) ?_
  cases hN:Dj z1 s3
  ·simp only[Bool.false_and,Bool.and_false,Bool.not_false,if_true];exact no39 _
  cases hS:GQ z1 s4
  ·simp only[Bool.false_and,Bool.and_false,Bool.true_and,Bool.not_false,if_true];exact no39 _
  cases hI:Lg z1 z2
  ·simp only[Bool.false_and,Bool.and_false,Bool.true_and,Bool.not_false,if_true];exact no39 _
  simp only[Bool.true_and,Bool.not_true,Bool.false_eq_true,if_false,AB,if_neg (show ¬(l.length:Int)<least by omega)]
  refine Ev.bO1 (lI h5 h6 hp) ?_
  rw[hpl]
  cases Jk z1 hp s5 l6 l
  ·simp only[Bool.false_and,Bool.not_false];exact no39 _
  ·simp only[Bool.true_and,Bool.not_true]
   refine .succ ?_
   simp only[H0,Bool.false_eq_true,if_false]
   exact Ev.bO10 b1 Ev.ret
 ·simp only[Vq]
  refine Ev.bO1 G.f40 ?_
  simp only[if_neg c,if_neg G.ne,AB]
  refine Ev.bO1 (G.many _ (by omega)) ?_
  simp only[decide_eq_true hmany.1,decide_eq_true hmany.2,Bool.and_true,AI,Bool.not_true]
  exact g1 G h3 h4 h5 h6 b2
end Go.Proofs.YtjmofeakajdbiaaGreatDoor
end
set_option linter.unusedVariables false
noncomputable section
namespace Go.Proofs.YtjmofeakajdbiaaGreatDoor
open Go Go.AM
theorem Kc {γ:Type}(x:D) (l:List D) (k:D→Option γ):Ae (x::l) (0:Int) k=k x:=AG (i:=0) rfl
end Go.Proofs.YtjmofeakajdbiaaGreatDoor
set_option linter.unusedVariables false
noncomputable section
namespace Go.Proofs.YtjmofeakajdbiaaGreatDoor
open Go Go.AM
section
variable {α β γ:Type}
theorem tr {r:α}:Total (fun _=>some r):=⟨r,.ret⟩
theorem tu {A:Nat→Option α}(h:Total fun n=>A (n+1)):Total A:=h.imp fun _ h=>.succ h
theorem t1 {A:Nat→Option α}{k:Nat→α→Option γ}(ha:Total A) (hk:∀a,Total fun n=>k n a):Total fun n=>bO1 (A n) (k n):=by
 obtain⟨a,ha⟩:=ha
 obtain⟨r,h⟩:=hk a
 exact⟨r,.bO1 ha h⟩
theorem t2 {A:Nat→Option (α×β)}{k:Nat→α→β→Option γ}(ha:Total A) (hk:∀a b,Total fun n=>k n a b):Total fun n=>bO2 (A n) (k n):=by
 obtain⟨⟨a,b⟩,ha⟩:=ha
 obtain⟨r,h⟩:=hk a b
 exact⟨r,.bO2 ha h⟩
theorem t3 {A1 A2 A3:Type}{A:Nat→Option (A1×A2×A3)}{k:Nat→A1→A2→A3→Option γ}(ha:Total A) (hk:∀a b c,Total fun n=>k n a b c):Total fun n=>bO3 (A n) (k n):=by
 obtain⟨⟨a,b,c⟩,ha⟩:=ha
 obtain⟨r,h⟩:=hk a b c
 exact⟨r,.bO3 ha h⟩
theorem t4 {A1 A2 A3 A4:Type}{A:Nat→Option (A1×A2×A3×A4)}{k:Nat→A1→A2→A3→A4→Option γ}(ha:Total A) (hk:∀a b c d,Total fun n=>k n a b c d):Total fun n=>bO4 (A n) (k n):=by
 obtain⟨⟨a,b,c,d⟩,ha⟩:=ha
 obtain⟨r,h⟩:=hk a b c d
 exact⟨r,.bO4 ha h⟩
theorem ti {c:Prop} [Decidable c] {A B:Nat→Option γ}(h1:Total A) (h2:Total B):Total fun n=>if c then A n else B n:=by
 by_cases h:c
 ·simp only[if_pos h];exact h1
 ·simp only[if_neg h];exact h2
end
end Go.Proofs.YtjmofeakajdbiaaGreatDoor
end
set_option linter.unusedVariables false
noncomputable section
namespace Go.Proofs.YtjmofeakajdbiaaGreatDoor
open Go Go.AM
theorem PX:∀{b29:Bool},Total (fun n=>D3 n b29):=by
 intros
 exact tu (by simp only[D3];exact ti tr tr)
theorem PY:∀{z1:Int}{b28:Bool},Total (fun n=>D4 n z1 b28):=by
 intros
 exact tu (by simp only[D4];exact ti tr (ti PX PX))
theorem PZ:∀{z1:Int}{l4:List D}{b26:Bool},Total (fun n=>D5 n z1 l4 b26):=by
 intros
 exact tu (by simp only[D5,AB];exact ti tr (ti PY PY))
theorem Ke:∀{z1:Int}{l4:List D}{b25:Bool},Total (fun n=>Da n z1 l4 b25):=by
 intros
 exact tu (by simp only[Da];exact ti tr (ti PZ PZ))
theorem S9:∀{z1:Int}{l4:List D}{b24:Bool},Total (fun n=>FL n z1 l4 b24):=by
 intros
 exact tu (by simp only[FL];exact ti Ke (ti Ke Ke))
theorem TA:∀{z1:Int}{l4:List D}{b23:Bool},Total (fun n=>FM n z1 l4 b23):=by
 intros
 exact tu (by simp only[FM];exact ti tr (ti S9 S9))
theorem TB:∀{z1:Int}{l4:List D}{b22:Bool},Total (fun n=>FO n z1 l4 b22):=by
 intros
 exact tu (by simp only[FO];exact ti tr (ti TA TA))
theorem TC:∀{z1:Int}{l4:List D}{b21:Bool},Total (fun n=>FP n z1 l4 b21):=by
 intros
 exact tu (by simp only[FP];exact ti tr (ti TB TB))
theorem TD:∀{z1:Int}{l4:List D}{b20:Bool},Total (fun n=>FQ n z1 l4 b20):=by
 intros
 exact tu (by simp only[FQ];exact ti tr (ti TC TC))
theorem TE:∀{z1:Int}{l4:List D}{b19:Bool},Total (fun n=>FR n z1 l4 b19):=by
 intros
 exact tu (by simp only[FR];exact ti tr (ti TD TD))
theorem TF:∀{z1:Int}{l4:List D}{b18:Bool},Total (fun n=>FT n z1 l4 b18):=by
 intros
 exact tu (by simp only[FT];exact ti tr (ti TE TE))
theorem TG:∀{z1:Int}{l4:List D}{b17:Bool},Total (fun n=>FU n z1 l4 b17):=by
 intros
 exact tu (by simp only[FU];exact ti tr (ti TF TF))
theorem TH:∀{z1:Int}{l4:List D}{b16:Bool},Total (fun n=>FV n z1 l4 b16):=by
 intros
 exact tu (by simp only[FV];exact ti tr (ti TG TG))
theorem fD:∀{z1:Int}{s2 s3:ByteArray}{l4:List D}{z5:Int}{s6:ByteArray}{l7:List D}{z8:Int}{s9:ByteArray}{l10 l11 l12 l13 l14:List D}{z15:Int},Total (fun n=>JP n z1 s2 s3 l4 z5 s6 l7 z8 s9 l10 l11 l12 l13 l14 z15):=by
 intros
 exact (by unfold JP;exact ti TH TH)
theorem lJ (n:Nat):JS n=Bp n∧Hh n=CA n:=by
 induction n with
 | zero=>exact⟨rfl,rfl⟩
 | succ n ih=>exact⟨by funext a b c d e f g h i j k l;simp only[JS,Bp,ih.2],by funext a b c d e f g h i j k l m;simp only[Hh,CA,ih.1,show NC=Lc from rfl]⟩
theorem lK:Vj=FD:=by
 funext n a b c d e f g h i j k
 simp only[Vj,FD,(lJ _).1]
theorem lL (n:Nat):JT n=Bp n∧Hi n=CA n:=by
 induction n with
 | zero=>exact⟨rfl,rfl⟩
 | succ n ih=>exact⟨by funext a b c d e f g h i j k l;simp only[JT,Bp,ih.2],by funext a b c d e f g h i j k l m;simp only[Hi,CA,ih.1,show ND=Lc from rfl]⟩
theorem lM:Vk=FD:=by
 funext n a b c d e f g h i j k
 simp only[Vk,FD,(lL _).1]
theorem lN (n:Nat):JU n=Bp n∧Hj n=CA n:=by
 induction n with
 | zero=>exact⟨rfl,rfl⟩
 | succ n ih=>exact⟨by funext a b c d e f g h i j k l;simp only[JU,Bp,ih.2],by funext a b c d e f g h i j k l m;simp only[Hj,CA,ih.1,show NF=Lc from rfl]⟩
theorem lO:Vl=FD:=by
 funext n a b c d e f g h i j k
 simp only[Vl,FD,(lN _).1]
theorem lP (n:Nat):JV n=Bp n∧Hk n=CA n:=by
 induction n with
 | zero=>exact⟨rfl,rfl⟩
 | succ n ih=>exact⟨by funext a b c d e f g h i j k l;simp only[JV,Bp,ih.2],by funext a b c d e f g h i j k l m;simp only[Hk,CA,ih.1,show NG=Lc from rfl]⟩
theorem lQ:Vm=FD:=by
 funext n a b c d e f g h i j k
 simp only[Vm,FD,(lP _).1]
section
variable {z1:Int}{s2:ByteArray}{l3:List D}{z4:Int}{s5:ByteArray}{l6 l7:List D}{z8 z9:Int}{s10 s11 s12:ByteArray}{l13 l14:List D}{z15 z16:Int}
  (h2:s2.size≤maxLen) (h3:AK Ap 74 l3) (h5:s5.size≤maxLen) (h6:AK Ap 33 l6) (h7:AK Ap 50 l7) (h10:s10.size≤maxLen) (h11:s11.size≤maxLen) (h12:s12.size≤maxLen) (h13:AK Ap 9 l13) (h14:AK Ap 39 l14)
include h2 h3 h5 h6 h7 h10 h11 h12 h13 h14
end
end Go.Proofs.YtjmofeakajdbiaaGreatDoor
end
set_option linter.unusedVariables false
noncomputable section
namespace Go.Proofs.YtjmofeakajdbiaaGreatDoor
open Go Go.AM
theorem Ev.uniq {α:Type}{A:Nat→Option α}{r s:α}(h1:Ev A r) (h2:Ev A s):r=s:=by
 obtain⟨N,h1⟩:=h1
 obtain⟨M,h2⟩:=h2
 have a:=h1 (N+M) (by omega)
 have b:=h2 (N+M) (by omega)
 rw[a]at b
 exact Option.some.inj b
theorem iw {z:Int}(h1: -9223372036854775808≤z) (h2:z≤9223372036854775807):IntKind.i64.wrap z=z:=IntWalk.i64_in _ (by omega)
theorem Es (s:ByteArray) (z:Int) (h1: -6≤z) (h2:z≤20000):∃r,Ev (fun n=>Nu n s z) r∧ -1≤r∧r≤20000∧(0≤r→r+5≤z):=by
 by_cases h3:z<5
 ·exact⟨-1,.succ (.of fun n=>by unfold Nu;rw[if_pos h3,H4,if_pos rfl]),by omega,by omega,by omega⟩
 ·have e:IntKind.i64.wrap (z - 5)=z - 5:=iw (by omega) (by omega)
  by_cases h4:z - 5<((bl s).length:Int)
  ·exact⟨-1,.succ (.of fun n=>by unfold Nu;rw[if_neg h3,Cc];simp only[AE];rw[e,if_pos h4,H4,if_pos rfl]),by omega,by omega,by omega⟩
  ·have e2:IntKind.i64.wrap (z - 5 - ((bl s).length:Int))=z - 5 - ((bl s).length:Int):=iw (by omega) (by omega)
   exact⟨z - 5 - ((bl s).length:Int),.succ (.of fun n=>by unfold Nu;rw[if_neg h3,Cc];simp only[AE];rw[e,if_neg h4,H4,if_neg Bool.false_ne_true];simp only[AE];rw[Cc,e,e2]),by omega,by omega,by omega⟩
theorem YP {l:List D}(h:AK Ap 9 l) (z:Int) (h1: -1≤z) (h2:z≤20000):∃r,Ev (fun n=>dU n l z) r∧ -6≤r∧r≤20000∧(0≤r→r≤z):=by
 have main:∀i:Nat,i≤l.length→∀z,-6≤z→z≤20000→∃r,Ev (fun n=>F0 n l (i:Int) z) r∧ -6≤r∧r≤20000∧(0≤r→r≤z):=by
  refine down l.length ?_ ?_
  ·intro z h1 h2
   refine⟨z,.succ (.succ (.of fun n=>?_)),by omega,by omega,by omega⟩
   rw[F0];simp only[AB];rw[if_neg (by omega),H6,if_neg Bool.false_ne_true]
  ·intro i hi ih z h1 h2
   by_cases hz:(0:Int)≤z
   ·obtain⟨x,hx,_,hr⟩:=h.get hi
    obtain⟨s,rfl,_⟩:=Yq hr
    obtain⟨z1,g1,g2,g3,g4⟩:=Es s z (by omega) h2
    obtain⟨r,k1,k2,k3,k4⟩:=ih z1 (by omega) (by omega)
    refine⟨r,.succ (.succ (Ev.congr (A:=fun n=>bO1 (Nu n s z) fun z10=>F0 n l ((i+1:Nat):Int) z10) (Ev.bO1 g1 k1) fun n=>?_)),k2,k3,by omega⟩
    rw[F0];simp only[AB];rw[if_pos (by omega),if_pos hz,H6,if_pos rfl,AG hx]
    simp only[Bc,AE,AF hi h.1]
   ·refine⟨z,.succ (.succ (.of fun n=>?_)),by omega,by omega,by omega⟩
    rw[F0];simp only[AB];rw[if_pos (by omega),if_neg hz,H6,if_neg Bool.false_ne_true]
 obtain⟨r,h,a,b,c⟩:=main 0 (Nat.zero_le _) (z - 5) (by omega) (by omega)
 exact⟨r,h.congr fun n=>by unfold dU;simp only[AE,iw (show -9223372036854775808≤z - 5 by omega) (by omega)];rfl,a,b,by omega⟩
theorem YQ {l:List D}(h:AK Ap 9 l) (s:ByteArray) (z:Int) (h1: -6≤z) (h2:z≤20000):∃r,Ev (fun n=>kH n s l z) r∧ -6≤r∧r≤20000∧(0≤r→r+5≤z):=by
 obtain⟨y,g1,g2,g3,g4⟩:=Es s z h1 h2
 obtain⟨r,k1,k2,k3,k4⟩:=YP h y g2 g3
 exact⟨r,Ev.bO1 g1 (Ev.bO1 k1 .ret),k2,k3,by omega⟩
end Go.Proofs.YtjmofeakajdbiaaGreatDoor
set_option linter.unusedVariables false
noncomputable section
namespace Go.Proofs.YtjmofeakajdbiaaGreatDoor
open Go Go.AM
def GR:Nat->Int->Bool->Option (BA)
 | 0,_,_=>none
 | n+1,z1,b3=>
  (if b3=true then some ByteArray.empty else Ae ([.str ByteArray.empty,.str iL,.str bC,.str iM,.str rL,.str rM,.str bD,.str iP,.str bF,.str mP,.str bG,.str bH,.str bI,.str mP]) z1 fun x4=>Bc x4 fun s5=>some s5)
def RD (n:Nat) (z1:Int):Option (BA):=
 AE (IntKind.wrap .i64 z1) fun z2=>(if (14:Int)<=z2 then GR n z1 true else GR n z1 false)
theorem qK (n:Nat):∀⦃z1 r1⦄,RD n z1=some r1->
    BB Tryz.prog inv 148 [.d (.int .u8 z1)] [] (.v (.d (.str r1))) [] []:=by
 intro z1 r1 h
 unfold RD at h
 refine BB.of BU BK Ht Tryz.func148 rfl (by kernel_rfl) rfl rfl rfl (fun M hM hI=>?_)
 try cbv
 refine AD ?_
 try cbv
 refine AD ?_
 try cbv
 refine⟨false,?_⟩
 try cbv
 refine⟨true,?_⟩
 try cbv
 refine AD ?_
 try cbv
 refine AJ 9 [0,2,3,9] [] 256 (fun m b=>m<=n/\GR m z1 b=some r1) ?_ ?_
 ·try cbv
  replace h:=Aa h
  obtain⟨z2,hz,h⟩:=h
  refine⟨z2,hz,?_⟩
  clear hz
  try cbv
  refine⟨14,(M.lenI_eq _).trans rfl,?_⟩
  try cbv
  refine GC (fun e=>?_) (fun e=>?_)
  ·replace h:=Ag e h
   clear e
   try cbv
   exact AA (n,true) [0,2,3,9] [] 256 ⟨by omega,h⟩ (by cbv)
  replace h:=Ah (Int.not_le.2 e) h
  clear e
  try cbv
  exact AA (n,false) [0,2,3,9] [] 256 ⟨by omega,h⟩ (by cbv)
 clear h
 rintro⟨m1,b3⟩ ⟨hm1,h⟩
 try cbv
 replace hm1:m1<=n:=hm1
 obtain _ | m1:=m1
 ·replace h:GR 0 z1 b3=some r1:=h
  rw[GR]at h
  cases h
 replace h:GR (m1+1) z1 b3=some r1:=h
 rw[GR]at h
 try cbv
 cases b3
 ·replace h:=Bz h
  try cbv
  refine AD ?_
  try cbv
  replace h:=Az h
  obtain⟨x4,⟨hx0,hx⟩,h⟩:=h
  refine⟨x4,hx0,hx,?_⟩
  clear hx0 hx
  replace h:=Eh h
  obtain⟨s5,rfl,h⟩:=h
  try cbv
  obtain rfl:=Option.some.inj h
  refine AZ ?_
  try cbv
  exact⟨[],by trivial⟩
 replace h:=Bx h
 try cbv
 refine AD ?_
 try cbv
 obtain rfl:=Option.some.inj h
 refine AZ ?_
 try cbv
 exact⟨[],by trivial⟩
noncomputable def qL:BW:=⟨148,[.y],[],[⟨.one (.s),[],[]⟩],BA,inferInstance,RD⟩
noncomputable def qM:Kz:=⟨qL,fun n=>Di fun z1 p h w1 w2 w4 w3 l1 l2 e1 e2 e5 e3 xs e4=>by cases e1;cases e2;cases e4;cases e5;cases e3;exact qK n h⟩
def gK (n:Nat) (z1:Int) (s2:BA) (l3:LD):Option (Bool):=
 (if z1=(0:Int)then (if s2=ByteArray.empty then AB l3 fun z4=>(if z4=(0:Int)then some true else some false)else some false)else some false)
noncomputable def xH:BS:=⟨79,Tryz.f79,[.agg [.y,.str,.q 3]],[],⟨.one (.b),[],[]⟩,Bool,inferInstance,gK,[]⟩
noncomputable def sV:Kz:=sg xH [] Tryz.func79 (by kernel_rfl) (by kernel_rfl) (by kernel_rfl)
def NW:Nat->BA->LD->BA->Option (Bool)
 | 0,_,_,_=>none
 | n+1,s9,l10,s16=>
  bO1 (BI n s16 (112:Int)) fun b92=>(if b92=true then bO1 (YM n s9 l10) fun b93=>some b93 else (if s9=ByteArray.empty then AB l10 fun z94=>(if z94=(0:Int)then some true else some false)else some false))
def Iq:Nat->BA->LD->BA->Bool->Option (Bool)
 | 0,_,_,_,_=>none
 | n+1,s9,l10,s16,b88=>
  (if b88=true then some false else NW n s9 l10 s16)
def Kg:Nat->BA->LD->BA->Bool->Option (Bool)
 | 0,_,_,_,_=>none
 | n+1,s9,l10,s16,b91=>
  (if b91=true then some false else NW n s9 l10 s16)
mutual
def HU:Nat->LD->Int->BA->LD->Int->BA->LD->BA->Int->Int->Option (Bool)
 | 0,_,_,_,_,_,_,_,_,_,_=>none
 | n+1,l4,z5,s6,l7,z8,s9,l10,s16,z17,z76=>
  AB l4 fun z77=>(if z76<z77 then NX n l4 z5 s6 l7 z8 s9 l10 s16 z17 z76 true else NX n l4 z5 s6 l7 z8 s9 l10 s16 z17 z76 false)
def NX:Nat->LD->Int->BA->LD->Int->BA->LD->BA->Int->Int->Bool->Option (Bool)
 | 0,_,_,_,_,_,_,_,_,_,_,_=>none
 | n+1,l4,z5,s6,l7,z8,s9,l10,s16,z17,z76,b78=>
  (if b78=true then Ae l4 z76 fun x79=>Bc x79 fun s80=>bO1 (Wx n s80) fun b81=>AI (!b81) fun b82=>(if b82=true then some false else AE (IntKind.wrap .i64 (z76+1)) fun z83=>HU n l4 z5 s6 l7 z8 s9 l10 s16 z17 z83)else bO1 (BI n s16 (84:Int)) fun b84=>(if b84=true then (if z8<(1:Int)then Iq n s9 l10 s16 true else (if (8:Int)<z8 then Iq n s9 l10 s16 true else AE (IntKind.wrap .i64 (z17 - 1)) fun z85=>bO1 (Tv n z5 s6 l7 z85) fun b86=>AI (!b86) fun b87=>Iq n s9 l10 s16 b87))else (if z8=(0:Int)then bO1 (gK n z5 s6 l7) fun b89=>AI (!b89) fun b90=>Kg n s9 l10 s16 b90 else Kg n s9 l10 s16 true)))
end
def GS:Nat->LD->Int->BA->LD->Int->BA->LD->BA->Int->Bool->Option (Bool)
 | 0,_,_,_,_,_,_,_,_,_,_=>none
 | n+1,l4,z5,s6,l7,z8,s9,l10,s16,z17,b75=>
  (if b75=true then some false else HU n l4 z5 s6 l7 z8 s9 l10 s16 z17 (0:Int))
def B2:Nat->LD->Int->BA->LD->Int->BA->LD->BA->Int->Bool->Option (Bool)
 | 0,_,_,_,_,_,_,_,_,_,_=>none
 | n+1,l4,z5,s6,l7,z8,s9,l10,s16,z17,b69=>
  (if b69=true then some false else bO1 (BI n s16 (78:Int)) fun b70=>AI (!b70) fun b71=>(if b71=true then AB l4 fun z72=>(if (0:Int)<z72 then GS n l4 z5 s6 l7 z8 s9 l10 s16 z17 true else AB l4 fun z73=>(if (6:Int)<z73 then GS n l4 z5 s6 l7 z8 s9 l10 s16 z17 true else GS n l4 z5 s6 l7 z8 s9 l10 s16 z17 false))else AB l4 fun z74=>(if (6:Int)<z74 then GS n l4 z5 s6 l7 z8 s9 l10 s16 z17 true else GS n l4 z5 s6 l7 z8 s9 l10 s16 z17 false)))
def B3:Nat->BA->LD->Int->BA->LD->Int->BA->LD->BA->Int->Bool->Option (Bool)
 | 0,_,_,_,_,_,_,_,_,_,_,_=>none
 | n+1,s3,l4,z5,s6,l7,z8,s9,l10,s16,z17,b43=>
  (if b43=true then some false else bO1 (BI n s16 (115:Int)) fun b44=>(if b44=true then bO1 (Wx n s3) fun b45=>AI (!b45) fun b46=>(if b46=true then B2 n l4 z5 s6 l7 z8 s9 l10 s16 z17 true else bO1 (BI n s16 (121:Int)) fun b47=>(if b47=true then bO1 (Wk n s3) fun b48=>AI (!b48) fun b49=>(if b49=true then B2 n l4 z5 s6 l7 z8 s9 l10 s16 z17 true else bO1 (BI n s16 (115:Int)) fun b50=>AI (!b50) fun b51=>(if b51=true then bO1 (BI n s16 (121:Int)) fun b52=>AI (!b52) fun b53=>(if b53=true then (if s3=ByteArray.empty then B2 n l4 z5 s6 l7 z8 s9 l10 s16 z17 false else B2 n l4 z5 s6 l7 z8 s9 l10 s16 z17 true)else B2 n l4 z5 s6 l7 z8 s9 l10 s16 z17 false)else B2 n l4 z5 s6 l7 z8 s9 l10 s16 z17 false))else bO1 (BI n s16 (115:Int)) fun b54=>AI (!b54) fun b55=>(if b55=true then bO1 (BI n s16 (121:Int)) fun b56=>AI (!b56) fun b57=>(if b57=true then (if s3=ByteArray.empty then B2 n l4 z5 s6 l7 z8 s9 l10 s16 z17 false else B2 n l4 z5 s6 l7 z8 s9 l10 s16 z17 true)else B2 n l4 z5 s6 l7 z8 s9 l10 s16 z17 false)else B2 n l4 z5 s6 l7 z8 s9 l10 s16 z17 false)))else bO1 (BI n s16 (121:Int)) fun b58=>(if b58=true then bO1 (Wk n s3) fun b59=>AI (!b59) fun b60=>(if b60=true then B2 n l4 z5 s6 l7 z8 s9 l10 s16 z17 true else bO1 (BI n s16 (115:Int)) fun b61=>AI (!b61) fun b62=>(if b62=true then bO1 (BI n s16 (121:Int)) fun b63=>AI (!b63) fun b64=>(if b64=true then (if s3=ByteArray.empty then B2 n l4 z5 s6 l7 z8 s9 l10 s16 z17 false else B2 n l4 z5 s6 l7 z8 s9 l10 s16 z17 true)else B2 n l4 z5 s6 l7 z8 s9 l10 s16 z17 false)else B2 n l4 z5 s6 l7 z8 s9 l10 s16 z17 false))else bO1 (BI n s16 (115:Int)) fun b65=>AI (!b65) fun b66=>(if b66=true then bO1 (BI n s16 (121:Int)) fun b67=>AI (!b67) fun b68=>(if b68=true then (if s3=ByteArray.empty then B2 n l4 z5 s6 l7 z8 s9 l10 s16 z17 false else B2 n l4 z5 s6 l7 z8 s9 l10 s16 z17 true)else B2 n l4 z5 s6 l7 z8 s9 l10 s16 z17 false)else B2 n l4 z5 s6 l7 z8 s9 l10 s16 z17 false))))
def YR (n:Nat) (z1:Int) (s2:BA) (s3:BA) (l4:LD) (z5:Int) (s6:BA) (l7:LD) (z8:Int) (s9:BA) (l10:LD) (l11:LD) (l12:LD) (l13:LD) (l14:LD) (z15:Int) (s16:BA) (z17:Int):Option (Bool):=
 bO1 (BI n s16 (110:Int)) fun b18=>(if b18=true then bO1 (Wx n s2) fun b19=>AI (!b19) fun b20=>(if b20=true then B3 n s3 l4 z5 s6 l7 z8 s9 l10 s16 z17 true else bO1 (BI n s16 (116:Int)) fun b21=>(if b21=true then bO1 (Wk n s2) fun b22=>AI (!b22) fun b23=>(if b23=true then B3 n s3 l4 z5 s6 l7 z8 s9 l10 s16 z17 true else bO1 (BI n s16 (110:Int)) fun b24=>AI (!b24) fun b25=>(if b25=true then bO1 (BI n s16 (116:Int)) fun b26=>AI (!b26) fun b27=>(if b27=true then (if s2=ByteArray.empty then B3 n s3 l4 z5 s6 l7 z8 s9 l10 s16 z17 false else B3 n s3 l4 z5 s6 l7 z8 s9 l10 s16 z17 true)else B3 n s3 l4 z5 s6 l7 z8 s9 l10 s16 z17 false)else B3 n s3 l4 z5 s6 l7 z8 s9 l10 s16 z17 false))else bO1 (BI n s16 (110:Int)) fun b28=>AI (!b28) fun b29=>(if b29=true then bO1 (BI n s16 (116:Int)) fun b30=>AI (!b30) fun b31=>(if b31=true then (if s2=ByteArray.empty then B3 n s3 l4 z5 s6 l7 z8 s9 l10 s16 z17 false else B3 n s3 l4 z5 s6 l7 z8 s9 l10 s16 z17 true)else B3 n s3 l4 z5 s6 l7 z8 s9 l10 s16 z17 false)else B3 n s3 l4 z5 s6 l7 z8 s9 l10 s16 z17 false)))else bO1 (BI n s16 (116:Int)) fun b32=>(if b32=true then bO1 (Wk n s2) fun b33=>AI (!b33) fun b34=>(if b34=true then B3 n s3 l4 z5 s6 l7 z8 s9 l10 s16 z17 true else bO1 (BI n s16 (110:Int)) fun b35=>AI (!b35) fun b36=>(if b36=true then bO1 (BI n s16 (116:Int)) fun b37=>AI (!b37) fun b38=>(if b38=true then (if s2=ByteArray.empty then B3 n s3 l4 z5 s6 l7 z8 s9 l10 s16 z17 false else B3 n s3 l4 z5 s6 l7 z8 s9 l10 s16 z17 true)else B3 n s3 l4 z5 s6 l7 z8 s9 l10 s16 z17 false)else B3 n s3 l4 z5 s6 l7 z8 s9 l10 s16 z17 false))else bO1 (BI n s16 (110:Int)) fun b39=>AI (!b39) fun b40=>(if b40=true then bO1 (BI n s16 (116:Int)) fun b41=>AI (!b41) fun b42=>(if b42=true then (if s2=ByteArray.empty then B3 n s3 l4 z5 s6 l7 z8 s9 l10 s16 z17 false else B3 n s3 l4 z5 s6 l7 z8 s9 l10 s16 z17 true)else B3 n s3 l4 z5 s6 l7 z8 s9 l10 s16 z17 false)else B3 n s3 l4 z5 s6 l7 z8 s9 l10 s16 z17 false)))
noncomputable def qN:BS:=⟨149,Tryz.f149,[.agg [.y,.str,.str,.f 1,.y,.str,.q 3,.z,.str,.f 1,.q 8,.q 15,.q 15,.q 3,.z],.s,.z],[],⟨.one (.b),[],[]⟩,Bool,inferInstance,YR,[⟨13,[1,2,3,6,40],[.loc 0],1120,[.s,.z,.p (.loc 0) 0,.one (.cb false),.b],[[.y,.str,.str,.f 1,.y,.str,.q 3,.z,.str,.f 1,.q 8,.q 15,.q 15,.q 3,.z]],fun n s16 z17 b43 _ _ s3 l4 z5 s6 l7 z8 s9 l10 _ _ _ _ _=>B3 n s3 l4 z5 s6 l7 z8 s9 l10 s16 z17 b43⟩,
 ⟨29,[1,2,3,6,73],[.loc 0],2176,[.s,.z,.p (.loc 0) 0,.one (.cb false),.b],[[.y,.str,.str,.f 1,.y,.str,.q 3,.z,.str,.f 1,.q 8,.q 15,.q 15,.q 3,.z]],fun n s16 z17 b69 _ _ _ l4 z5 s6 l7 z8 s9 l10 _ _ _ _ _=>B2 n l4 z5 s6 l7 z8 s9 l10 s16 z17 b69⟩,
 ⟨61,[1,2,3,6,88],[.loc 0],2656,[.s,.z,.p (.loc 0) 0,.one (.cb false),.b],[[.y,.str,.str,.f 1,.y,.str,.q 3,.z,.str,.f 1,.q 8,.q 15,.q 15,.q 3,.z]],fun n s16 z17 b75 _ _ _ l4 z5 s6 l7 z8 s9 l10 _ _ _ _ _=>GS n l4 z5 s6 l7 z8 s9 l10 s16 z17 b75⟩,
 ⟨250,[1,2,3,6,7],[.loc 0],2688,[.s,.z,.p (.loc 0) 0,.one (.cb false),.z],[[.y,.str,.str,.f 1,.y,.str,.q 3,.z,.str,.f 1,.q 8,.q 15,.q 15,.q 3,.z]],fun n s16 z17 z76 _ _ _ l4 z5 s6 l7 z8 s9 l10 _ _ _ _ _=>HU n l4 z5 s6 l7 z8 s9 l10 s16 z17 z76⟩,
 ⟨2001,[1,2,3,6,7,93],[.loc 0],2848,[.s,.z,.p (.loc 0) 0,.one (.cb false),.z,.b],[[.y,.str,.str,.f 1,.y,.str,.q 3,.z,.str,.f 1,.q 8,.q 15,.q 15,.q 3,.z]],fun n s16 z17 z76 b78 _ _ _ l4 z5 s6 l7 z8 s9 l10 _ _ _ _ _=>NX n l4 z5 s6 l7 z8 s9 l10 s16 z17 z76 b78⟩,
 ⟨1013,[1,3,6,120],[.loc 0],3424,[.s,.p (.loc 0) 0,.one (.cb false),.b],[[.y,.str,.str,.f 1,.y,.str,.q 3,.z,.str,.f 1,.q 8,.q 15,.q 15,.q 3,.z]],fun n s16 b88 _ _ _ _ _ _ _ _ s9 l10 _ _ _ _ _=>Iq n s9 l10 s16 b88⟩,
 ⟨1015,[1,3,6,129],[.loc 0],3200,[.s,.p (.loc 0) 0,.one (.cb false),.b],[[.y,.str,.str,.f 1,.y,.str,.q 3,.z,.str,.f 1,.q 8,.q 15,.q 15,.q 3,.z]],fun n s16 b91 _ _ _ _ _ _ _ _ s9 l10 _ _ _ _ _=>Kg n s9 l10 s16 b91⟩,
 ⟨127,[1,3,6],[.loc 0],3424,[.s,.p (.loc 0) 0,.one (.cb false)],[[.y,.str,.str,.f 1,.y,.str,.q 3,.z,.str,.f 1,.q 8,.q 15,.q 15,.q 3,.z]],fun n s16 _ _ _ _ _ _ _ _ s9 l10 _ _ _ _ _=>NW n s9 l10 s16⟩]⟩
noncomputable def qO:Kz:=sg qN [dX,kM,kF,sV,sO,gJ] Tryz.func149 (by kernel_rfl) (by kernel_rfl) (by kernel_rfl)
mutual
def GU:Nat->LD->LD->LD->LD->LD->Int->BA->Bool->Option (Bool)
 | 0,_,_,_,_,_,_,_,_=>none
 | n+1,l4,l11,l12,l13,l14,z16,s17,b20=>
  (if b20=true then some false else bO1 (BI n s17 (101:Int)) fun b21=>(if b21=true then Kh n l4 l11 l12 l13 l14 z16 s17 true else bO1 (BI n s17 (108:Int)) fun b22=>Kh n l4 l11 l12 l13 l14 z16 s17 b22))
def Kh:Nat->LD->LD->LD->LD->LD->Int->BA->Bool->Option (Bool)
 | 0,_,_,_,_,_,_,_,_=>none
 | n+1,l4,l11,l12,l13,l14,z16,s17,b23=>
  (if b23=true then Ki n l11 l12 l13 l14 z16 s17 (1:Int)else bO1 (BI n s17 (120:Int)) fun b24=>(if b24=true then AB l4 fun z25=>Ki n l11 l12 l13 l14 z16 s17 z25 else Ki n l11 l12 l13 l14 z16 s17 (0:Int)))
def Ki:Nat->LD->LD->LD->LD->Int->BA->Int->Option (Bool)
 | 0,_,_,_,_,_,_,_=>none
 | n+1,l11,l12,l13,l14,z16,s17,z26=>
  AB l11 fun z27=>(if z27=z26 then bO1 (BI n s17 (66:Int)) fun b28=>AI (!b28) fun b29=>(if b29=true then AB l12 fun z30=>(if (0:Int)<z30 then BH n l11 l12 l13 l14 z16 s17 true else bO1 (BI n s17 (69:Int)) fun b31=>AI (!b31) fun b32=>(if b32=true then AB l13 fun z33=>(if (0:Int)<z33 then BH n l11 l12 l13 l14 z16 s17 true else bO1 (BI n s17 (65:Int)) fun b34=>AI (!b34) fun b35=>(if b35=true then AB l14 fun z36=>(if (0:Int)<z36 then BH n l11 l12 l13 l14 z16 s17 true else AB l14 fun z37=>(if (6:Int)<z37 then BH n l11 l12 l13 l14 z16 s17 true else BH n l11 l12 l13 l14 z16 s17 false))else AB l14 fun z38=>(if (6:Int)<z38 then BH n l11 l12 l13 l14 z16 s17 true else BH n l11 l12 l13 l14 z16 s17 false)))else bO1 (BI n s17 (65:Int)) fun b39=>AI (!b39) fun b40=>(if b40=true then AB l14 fun z41=>(if (0:Int)<z41 then BH n l11 l12 l13 l14 z16 s17 true else AB l14 fun z42=>(if (6:Int)<z42 then BH n l11 l12 l13 l14 z16 s17 true else BH n l11 l12 l13 l14 z16 s17 false))else AB l14 fun z43=>(if (6:Int)<z43 then BH n l11 l12 l13 l14 z16 s17 true else BH n l11 l12 l13 l14 z16 s17 false))))else bO1 (BI n s17 (69:Int)) fun b44=>AI (!b44) fun b45=>(if b45=true then AB l13 fun z46=>(if (0:Int)<z46 then BH n l11 l12 l13 l14 z16 s17 true else bO1 (BI n s17 (65:Int)) fun b47=>AI (!b47) fun b48=>(if b48=true then AB l14 fun z49=>(if (0:Int)<z49 then BH n l11 l12 l13 l14 z16 s17 true else AB l14 fun z50=>(if (6:Int)<z50 then BH n l11 l12 l13 l14 z16 s17 true else BH n l11 l12 l13 l14 z16 s17 false))else AB l14 fun z51=>(if (6:Int)<z51 then BH n l11 l12 l13 l14 z16 s17 true else BH n l11 l12 l13 l14 z16 s17 false)))else bO1 (BI n s17 (65:Int)) fun b52=>AI (!b52) fun b53=>(if b53=true then AB l14 fun z54=>(if (0:Int)<z54 then BH n l11 l12 l13 l14 z16 s17 true else AB l14 fun z55=>(if (6:Int)<z55 then BH n l11 l12 l13 l14 z16 s17 true else BH n l11 l12 l13 l14 z16 s17 false))else AB l14 fun z56=>(if (6:Int)<z56 then BH n l11 l12 l13 l14 z16 s17 true else BH n l11 l12 l13 l14 z16 s17 false))))else BH n l11 l12 l13 l14 z16 s17 true)
def BH:Nat->LD->LD->LD->LD->Int->BA->Bool->Option (Bool)
 | 0,_,_,_,_,_,_,_=>none
 | n+1,l11,l12,l13,l14,z16,s17,b57=>
  (if b57=true then some false else HV n l11 l12 l13 l14 z16 s17 (0:Int))
def HV:Nat->LD->LD->LD->LD->Int->BA->Int->Option (Bool)
 | 0,_,_,_,_,_,_,_=>none
 | n+1,l11,l12,l13,l14,z16,s17,z58=>
  AB l11 fun z59=>(if z58<z59 then NY n l11 l12 l13 l14 z16 s17 z58 true else NY n l11 l12 l13 l14 z16 s17 z58 false)
def NY:Nat->LD->LD->LD->LD->Int->BA->Int->Bool->Option (Bool)
 | 0,_,_,_,_,_,_,_,_=>none
 | n+1,l11,l12,l13,l14,z16,s17,z58,b60=>
  (if b60=true then Ae l11 z58 fun x61=>Ao x61 fun z62 z63 s64 s65 s66 l67 l68 z69=>bO1 (Zl n z62 z63 s64 s65 s66 l67 l68 z69) fun b70=>(if b70=true then bO1 (BI n s17 (101:Int)) fun b71=>(if b71=true then Ir n l11 l12 l13 l14 z16 s17 z58 true else Ae l11 z58 fun x72=>Ao x72 fun z73 z74 s75 s76 s77 l78 l79 z80=>AE (IntKind.wrap .i64 (z16 - 1)) fun z81=>bO1 (Vq n z73 z74 s75 s76 s77 l78 l79 z80 z81) fun b82=>AI (!b82) fun b83=>Ir n l11 l12 l13 l14 z16 s17 z58 b83)else Ae l11 z58 fun x84=>Ao x84 fun z85 z86 s87 s88 s89 l90 l91 z92=>AE (IntKind.wrap .i64 (z16 - 1)) fun z93=>bO1 (Vq n z85 z86 s87 s88 s89 l90 l91 z92 z93) fun b94=>AI (!b94) fun b95=>Ir n l11 l12 l13 l14 z16 s17 z58 b95)else Et n l12 l13 l14 z16 (0:Int))
def Ir:Nat->LD->LD->LD->LD->Int->BA->Int->Bool->Option (Bool)
 | 0,_,_,_,_,_,_,_,_=>none
 | n+1,l11,l12,l13,l14,z16,s17,z58,b96=>
  (if b96=true then some false else AE (IntKind.wrap .i64 (z58+1)) fun z97=>HV n l11 l12 l13 l14 z16 s17 z97)
def Et:Nat->LD->LD->LD->Int->Int->Option (Bool)
 | 0,_,_,_,_,_=>none
 | n+1,l12,l13,l14,z16,z98=>
  AB l14 fun z99=>(if z98<z99 then NZ n l12 l13 l14 z16 z98 true else NZ n l12 l13 l14 z16 z98 false)
def NZ:Nat->LD->LD->LD->Int->Int->Bool->Option (Bool)
 | 0,_,_,_,_,_,_=>none
 | n+1,l12,l13,l14,z16,z98,b100=>
  (if b100=true then Ae l14 z98 fun x101=>Be x101 fun s102 s103 l104=>bO1 (Wk n s102) fun b105=>AI (!b105) fun b106=>(if b106=true then FE n l12 l13 l14 z16 z98 true else (if s103=ByteArray.empty then AE (IntKind.wrap .i64 (z16 - 1)) fun z107=>bO1 (RN n l104 z107) fun b108=>AI (!b108) fun b109=>FE n l12 l13 l14 z16 z98 b109 else bO1 (Wx n s103) fun b110=>AI (!b110) fun b111=>(if b111=true then FE n l12 l13 l14 z16 z98 true else AE (IntKind.wrap .i64 (z16 - 1)) fun z112=>bO1 (RN n l104 z112) fun b113=>AI (!b113) fun b114=>FE n l12 l13 l14 z16 z98 b114)))else AE (IntKind.wrap .i64 (z16 - 1)) fun z117=>bO1 (RN n l12 z117) fun b118=>(if b118=true then AE (IntKind.wrap .i64 (z16 - 1)) fun z119=>bO1 (RN n l13 z119) fun b120=>some b120 else some false))
def FE:Nat->LD->LD->LD->Int->Int->Bool->Option (Bool)
 | 0,_,_,_,_,_,_=>none
 | n+1,l12,l13,l14,z16,z98,b115=>
  (if b115=true then some false else AE (IntKind.wrap .i64 (z98+1)) fun z116=>Et n l12 l13 l14 z16 z116)
def TJ:Nat->Int->BA->BA->LD->Int->BA->LD->Int->BA->LD->LD->LD->LD->LD->Int->Int->Option (Bool)
 | 0,_,_,_,_,_,_,_,_,_,_,_,_,_,_,_,_=>none
 | n+1,z1,s2,s3,l4,z5,s6,l7,z8,s9,l10,l11,l12,l13,l14,z15,z16=>
  bO1 (RD n z1) fun s17=>(if z16<(1:Int)then GU n l4 l11 l12 l13 l14 z16 s17 true else (if s17=ByteArray.empty then GU n l4 l11 l12 l13 l14 z16 s17 true else bO1 (YR n z1 s2 s3 l4 z5 s6 l7 z8 s9 l10 l11 l12 l13 l14 z15 s17 z16) fun b18=>AI (!b18) fun b19=>GU n l4 l11 l12 l13 l14 z16 s17 b19))
def Pa:Nat->LD->Int->Int->Option (Bool)
 | 0,_,_,_=>none
 | n+1,l1,z2,z3=>
  AB l1 fun z4=>(if z3<z4 then TK n l1 z2 z3 true else TK n l1 z2 z3 false)
def TK:Nat->LD->Int->Int->Bool->Option (Bool)
 | 0,_,_,_,_=>none
 | n+1,l1,z2,z3,b5=>
  (if b5=true then Ae l1 z3 fun x6=>Af x6 fun z7 s8 s9 l10 z11 s12 l13 z14 s15 l16 l17 l18 l19 l20 z21=>bO1 (TJ n z7 s8 s9 l10 z11 s12 l13 z14 s15 l16 l17 l18 l19 l20 z21 z2) fun b22=>AI (!b22) fun b23=>(if b23=true then some false else AE (IntKind.wrap .i64 (z3+1)) fun z24=>Pa n l1 z2 z24)else some true)
def RN:Nat->LD->Int->Option (Bool)
 | 0,_,_=>none
 | n+1,l1,z2=>
  Pa n l1 z2 (0:Int)
end
noncomputable def qP:BS:=⟨137,Tryz.f137,[.agg [.y,.str,.str,.f 1,.y,.str,.q 3,.z,.str,.f 1,.q 8,.q 15,.q 15,.q 3,.z],.z],[],⟨.one (.b),[],[]⟩,Bool,inferInstance,TJ,[⟨29,[1,2,4,5,25],[.loc 0],608,[.z,.p (.loc 0) 0,.one (.cb false),.s,.b],[[.y,.str,.str,.f 1,.y,.str,.q 3,.z,.str,.f 1,.q 8,.q 15,.q 15,.q 3,.z]],fun n z16 s17 b20 _ _ _ l4 _ _ _ _ _ _ l11 l12 l13 l14 _=>GU n l4 l11 l12 l13 l14 z16 s17 b20⟩,
 ⟨125,[1,2,4,5,6,31],[.loc 0],832,[.z,.p (.loc 0) 0,.one (.cb false),.s,.k 0,.b],[[.y,.str,.str,.f 1,.y,.str,.q 3,.z,.str,.f 1,.q 8,.q 15,.q 15,.q 3,.z]],fun n z16 s17 b23 _ _ _ l4 _ _ _ _ _ _ l11 l12 l13 l14 _=>Kh n l4 l11 l12 l13 l14 z16 s17 b23⟩,
 ⟨63,[1,2,4,5,6],[.loc 0],1024,[.z,.p (.loc 0) 0,.one (.cb false),.s,.z],[[.y,.str,.str,.f 1,.y,.str,.q 3,.z,.str,.f 1,.q 8,.q 15,.q 15,.q 3,.z]],fun n z16 s17 z26 _ _ _ _ _ _ _ _ _ _ l11 l12 l13 l14 _=>Ki n l11 l12 l13 l14 z16 s17 z26⟩,
 ⟨253,[1,2,4,5,80],[.loc 0],2432,[.z,.p (.loc 0) 0,.one (.cb false),.s,.b],[[.y,.str,.str,.f 1,.y,.str,.q 3,.z,.str,.f 1,.q 8,.q 15,.q 15,.q 3,.z]],fun n z16 s17 b57 _ _ _ _ _ _ _ _ _ _ l11 l12 l13 l14 _=>BH n l11 l12 l13 l14 z16 s17 b57⟩,
 ⟨1018,[1,2,4,5,7],[.loc 0],2464,[.z,.p (.loc 0) 0,.one (.cb false),.s,.z],[[.y,.str,.str,.f 1,.y,.str,.q 3,.z,.str,.f 1,.q 8,.q 15,.q 15,.q 3,.z]],fun n z16 s17 z58 _ _ _ _ _ _ _ _ _ _ l11 l12 l13 l14 _=>HV n l11 l12 l13 l14 z16 s17 z58⟩,
 ⟨8145,[1,2,4,5,7,85],[.loc 0],2624,[.z,.p (.loc 0) 0,.one (.cb false),.s,.z,.b],[[.y,.str,.str,.f 1,.y,.str,.q 3,.z,.str,.f 1,.q 8,.q 15,.q 15,.q 3,.z]],fun n z16 s17 z58 b60 _ _ _ _ _ _ _ _ _ _ l11 l12 l13 l14 _=>NY n l11 l12 l13 l14 z16 s17 z58 b60⟩,
 ⟨32585,[1,2,4,5,7,108],[.loc 0],3296,[.z,.p (.loc 0) 0,.one (.cb false),.s,.z,.b],[[.y,.str,.str,.f 1,.y,.str,.q 3,.z,.str,.f 1,.q 8,.q 15,.q 15,.q 3,.z]],fun n z16 s17 z58 b96 _ _ _ _ _ _ _ _ _ _ l11 l12 l13 l14 _=>Ir n l11 l12 l13 l14 z16 s17 z58 b96⟩,
 ⟨2042,[1,2,4,8],[.loc 0],2656,[.z,.p (.loc 0) 0,.one (.cb false),.z],[[.y,.str,.str,.f 1,.y,.str,.q 3,.z,.str,.f 1,.q 8,.q 15,.q 15,.q 3,.z]],fun n z16 z98 _ _ _ _ _ _ _ _ _ _ _ l12 l13 l14 _=>Et n l12 l13 l14 z16 z98⟩,
 ⟨16337,[1,2,4,8,113],[.loc 0],2816,[.z,.p (.loc 0) 0,.one (.cb false),.z,.b],[[.y,.str,.str,.f 1,.y,.str,.q 3,.z,.str,.f 1,.q 8,.q 15,.q 15,.q 3,.z]],fun n z16 z98 b100 _ _ _ _ _ _ _ _ _ _ _ l12 l13 l14 _=>NZ n l12 l13 l14 z16 z98 b100⟩,
 ⟨130707,[1,2,4,8,143],[.loc 0],3776,[.z,.p (.loc 0) 0,.one (.cb false),.z,.b],[[.y,.str,.str,.f 1,.y,.str,.q 3,.z,.str,.f 1,.q 8,.q 15,.q 15,.q 3,.z]],fun n z16 z98 b115 _ _ _ _ _ _ _ _ _ _ _ l12 l13 l14 _=>FE n l12 l13 l14 z16 z98 b115⟩]⟩
noncomputable def sW:BS:=⟨85,Tryz.f85,[.q 15,.z],[],⟨.one (.b),[],[]⟩,Bool,inferInstance,RN,[⟨26,[0,1,4,5],[],64,[.q 15,.z,.one (.cb false),.z],[],fun n l1 z2 z3=>Pa n l1 z2 z3⟩,
 ⟨209,[0,1,4,5,9],[],192,[.q 15,.z,.one (.cb false),.z,.b],[],fun n l1 z2 z3 b5=>TK n l1 z2 z3 b5⟩]⟩
theorem qQ:CF Tryz.prog inv (KU [qP,sW]):=gr [dX,qM,qO,kF,gJ,qG,sQ] ⟨⟨Tryz.func137,by kernel_rfl,by kernel_rfl,by kernel_rfl⟩,⟨Tryz.func85,by kernel_rfl,by kernel_rfl,by kernel_rfl⟩,trivial⟩
noncomputable def xI:Kz:=⟨sW.c,qQ.2.1⟩
def mZ (n:Nat) (z1:Int) (z2:Int) (s3:BA) (s4:BA) (s5:BA) (l6:LD) (l7:LD) (z8:Int):Option (Bool):=
 (if z1=(0:Int)then (if z2=(0:Int)then (if s3=ByteArray.empty then (if s4=ByteArray.empty then (if s5=ByteArray.empty then AB l6 fun z9=>(if z9=(0:Int)then AB l7 fun z10=>(if z10=(0:Int)then some true else some false)else some false)else some false)else some false)else some false)else some false)else some false)
noncomputable def xJ:BS:=⟨82,Tryz.f82,[.agg [.y,.z,.str,.str,.str,.f 1,.q 8,.z]],[],⟨.one (.b),[],[]⟩,Bool,inferInstance,mZ,[]⟩
noncomputable def xK:Kz:=sg xJ [] Tryz.func82 (by kernel_rfl) (by kernel_rfl) (by kernel_rfl)
def LO:Nat->BA->Int->BA->LD->LD->Int->Int->BA->BA->BA->LD->LD->Int->Int->Bool->Option (Bool)
 | 0,_,_,_,_,_,_,_,_,_,_,_,_,_,_,_=>none
 | n+1,s2,z4,s5,l6,l7,z8,z9,s10,s11,s12,l13,l14,z15,z17,b44=>
  (if b44=true then bO1 (Wk n s2) fun b45=>(if b45=true then bO1 (gK n z4 s5 l6) fun b46=>(if b46=true then AB l7 fun z47=>(if z47=(0:Int)then bO1 (mZ n z8 z9 s10 s11 s12 l13 l14 z15) fun b48=>some b48 else some false)else some false)else some false)else bO1 (Wx n s2) fun b49=>(if b49=true then AE (IntKind.wrap .i64 (z17 - 1)) fun z50=>bO1 (Tv n z4 s5 l6 z50) fun b51=>(if b51=true then bO1 (Zl n z8 z9 s10 s11 s12 l13 l14 z15) fun b52=>AI (!b52) fun b53=>(if b53=true then AE (IntKind.wrap .i64 (z17 - 1)) fun z54=>bO1 (Vq n z8 z9 s10 s11 s12 l13 l14 z15 z54) fun b55=>(if b55=true then AE (IntKind.wrap .i64 (z17 - 1)) fun z56=>bO1 (RN n l7 z56) fun b57=>some b57 else some false)else some false)else some false)else some false))
mutual
def Jl:Nat->Int->BA->LD->Int->BA->LD->LD->Int->Int->BA->BA->BA->LD->LD->Int->Int->Int->Option (Bool)
 | 0,_,_,_,_,_,_,_,_,_,_,_,_,_,_,_,_,_=>none
 | n+1,z1,s2,l3,z4,s5,l6,l7,z8,z9,s10,s11,s12,l13,l14,z15,z17,z20=>
  AB l3 fun z21=>(if z20<z21 then TL n z1 s2 l3 z4 s5 l6 l7 z8 z9 s10 s11 s12 l13 l14 z15 z17 z20 true else TL n z1 s2 l3 z4 s5 l6 l7 z8 z9 s10 s11 s12 l13 l14 z15 z17 z20 false)
def TL:Nat->Int->BA->LD->Int->BA->LD->LD->Int->Int->BA->BA->BA->LD->LD->Int->Int->Int->Bool->Option (Bool)
 | 0,_,_,_,_,_,_,_,_,_,_,_,_,_,_,_,_,_,_=>none
 | n+1,z1,s2,l3,z4,s5,l6,l7,z8,z9,s10,s11,s12,l13,l14,z15,z17,z20,b22=>
  (if b22=true then Ae l3 z20 fun x23=>Bl x23 fun s24 z25 s26 l27=>(if z1=(2:Int)then TM n z1 s2 l3 z4 s5 l6 l7 z8 z9 s10 s11 s12 l13 l14 z15 z17 z20 s24 z25 s26 l27 true else TM n z1 s2 l3 z4 s5 l6 l7 z8 z9 s10 s11 s12 l13 l14 z15 z17 z20 s24 z25 s26 l27 false)else (if z1=(3:Int)then LO n s2 z4 s5 l6 l7 z8 z9 s10 s11 s12 l13 l14 z15 z17 false else LO n s2 z4 s5 l6 l7 z8 z9 s10 s11 s12 l13 l14 z15 z17 true))
def TM:Nat->Int->BA->LD->Int->BA->LD->LD->Int->Int->BA->BA->BA->LD->LD->Int->Int->Int->BA->Int->BA->LD->Bool->Option (Bool)
 | 0,_,_,_,_,_,_,_,_,_,_,_,_,_,_,_,_,_,_,_,_,_,_=>none
 | n+1,z1,s2,l3,z4,s5,l6,l7,z8,z9,s10,s11,s12,l13,l14,z15,z17,z20,s24,z25,s26,l27,b28=>
  (if b28=true then bO1 (Wk n s24) fun b29=>AI (!b29) fun b30=>(if b30=true then Na n z1 s2 l3 z4 s5 l6 l7 z8 z9 s10 s11 s12 l13 l14 z15 z17 z20 true else bO1 (gK n z25 s26 l27) fun b31=>AI (!b31) fun b32=>(if b32=true then AE (IntKind.wrap .i64 (z17 - 1)) fun z33=>bO1 (Tv n z25 s26 l27 z33) fun b34=>AI (!b34) fun b35=>Na n z1 s2 l3 z4 s5 l6 l7 z8 z9 s10 s11 s12 l13 l14 z15 z17 z20 b35 else Na n z1 s2 l3 z4 s5 l6 l7 z8 z9 s10 s11 s12 l13 l14 z15 z17 z20 false))else bO1 (Wx n s24) fun b37=>AI (!b37) fun b38=>(if b38=true then Pb n z1 s2 l3 z4 s5 l6 l7 z8 z9 s10 s11 s12 l13 l14 z15 z17 z20 true else AE (IntKind.wrap .i64 (z17 - 1)) fun z39=>bO1 (Tv n z25 s26 l27 z39) fun b40=>AI (!b40) fun b41=>Pb n z1 s2 l3 z4 s5 l6 l7 z8 z9 s10 s11 s12 l13 l14 z15 z17 z20 b41))
def Na:Nat->Int->BA->LD->Int->BA->LD->LD->Int->Int->BA->BA->BA->LD->LD->Int->Int->Int->Bool->Option (Bool)
 | 0,_,_,_,_,_,_,_,_,_,_,_,_,_,_,_,_,_,_=>none
 | n+1,z1,s2,l3,z4,s5,l6,l7,z8,z9,s10,s11,s12,l13,l14,z15,z17,z20,b36=>
  (if b36=true then some false else TN n z1 s2 l3 z4 s5 l6 l7 z8 z9 s10 s11 s12 l13 l14 z15 z17 z20)
def Pb:Nat->Int->BA->LD->Int->BA->LD->LD->Int->Int->BA->BA->BA->LD->LD->Int->Int->Int->Bool->Option (Bool)
 | 0,_,_,_,_,_,_,_,_,_,_,_,_,_,_,_,_,_,_=>none
 | n+1,z1,s2,l3,z4,s5,l6,l7,z8,z9,s10,s11,s12,l13,l14,z15,z17,z20,b42=>
  (if b42=true then some false else TN n z1 s2 l3 z4 s5 l6 l7 z8 z9 s10 s11 s12 l13 l14 z15 z17 z20)
def TN:Nat->Int->BA->LD->Int->BA->LD->LD->Int->Int->BA->BA->BA->LD->LD->Int->Int->Int->Option (Bool)
 | 0,_,_,_,_,_,_,_,_,_,_,_,_,_,_,_,_,_=>none
 | n+1,z1,s2,l3,z4,s5,l6,l7,z8,z9,s10,s11,s12,l13,l14,z15,z17,z20=>
  AE (IntKind.wrap .i64 (z20+1)) fun z43=>Jl n z1 s2 l3 z4 s5 l6 l7 z8 z9 s10 s11 s12 l13 l14 z15 z17 z43
end
def LP:Nat->Int->BA->LD->Int->BA->LD->LD->Int->Int->BA->BA->BA->LD->LD->Int->Int->Bool->Option (Bool)
 | 0,_,_,_,_,_,_,_,_,_,_,_,_,_,_,_,_,_=>none
 | n+1,z1,s2,l3,z4,s5,l6,l7,z8,z9,s10,s11,s12,l13,l14,z15,z17,b19=>
  (if b19=true then some false else Jl n z1 s2 l3 z4 s5 l6 l7 z8 z9 s10 s11 s12 l13 l14 z15 z17 (0:Int))
def gL (n:Nat) (z1:Int) (s2:BA) (l3:LD) (z4:Int) (s5:BA) (l6:LD) (l7:LD) (z8:Int) (z9:Int) (s10:BA) (s11:BA) (s12:BA) (l13:LD) (l14:LD) (z15:Int) (z16:Int) (z17:Int):Option (Bool):=
 (if z1<(1:Int)then LP n z1 s2 l3 z4 s5 l6 l7 z8 z9 s10 s11 s12 l13 l14 z15 z17 true else (if (3:Int)<z1 then LP n z1 s2 l3 z4 s5 l6 l7 z8 z9 s10 s11 s12 l13 l14 z15 z17 true else AB l3 fun z18=>(if (6:Int)<z18 then LP n z1 s2 l3 z4 s5 l6 l7 z8 z9 s10 s11 s12 l13 l14 z15 z17 true else LP n z1 s2 l3 z4 s5 l6 l7 z8 z9 s10 s11 s12 l13 l14 z15 z17 false)))
noncomputable def xL:BS:=⟨38,Tryz.f38,[.agg [.y,.str,.q 4,.y,.str,.q 3,.q 15,.y,.z,.str,.str,.str,.f 1,.q 8,.z,.z],.z],[],⟨.one (.b),[],[]⟩,Bool,inferInstance,gL,[⟨13,[1,2,4,20],[.loc 0],512,[.z,.p (.loc 0) 0,.one (.cb false),.b],[[.y,.str,.q 4,.y,.str,.q 3,.q 15,.y,.z,.str,.str,.str,.f 1,.q 8,.z,.z]],fun n z17 b19 z1 s2 l3 z4 s5 l6 l7 z8 z9 s10 s11 s12 l13 l14 z15 _=>LP n z1 s2 l3 z4 s5 l6 l7 z8 z9 s10 s11 s12 l13 l14 z15 z17 b19⟩,
 ⟨58,[1,2,4,5],[.loc 0],544,[.z,.p (.loc 0) 0,.one (.cb false),.z],[[.y,.str,.q 4,.y,.str,.q 3,.q 15,.y,.z,.str,.str,.str,.f 1,.q 8,.z,.z]],fun n z17 z20 z1 s2 l3 z4 s5 l6 l7 z8 z9 s10 s11 s12 l13 l14 z15 _=>Jl n z1 s2 l3 z4 s5 l6 l7 z8 z9 s10 s11 s12 l13 l14 z15 z17 z20⟩,
 ⟨465,[1,2,4,5,25],[.loc 0],704,[.z,.p (.loc 0) 0,.one (.cb false),.z,.b],[[.y,.str,.q 4,.y,.str,.q 3,.q 15,.y,.z,.str,.str,.str,.f 1,.q 8,.z,.z]],fun n z17 z20 b22 z1 s2 l3 z4 s5 l6 l7 z8 z9 s10 s11 s12 l13 l14 z15 _=>TL n z1 s2 l3 z4 s5 l6 l7 z8 z9 s10 s11 s12 l13 l14 z15 z17 z20 b22⟩,
 ⟨3731,[1,2,4,5,6,35],[.loc 0,.loc 864],1024,[.z,.p (.loc 0) 0,.one (.cb false),.z,.p (.loc 864) 0,.b],[[.y,.str,.q 4,.y,.str,.q 3,.q 15,.y,.z,.str,.str,.str,.f 1,.q 8,.z,.z],[.str,.y,.str,.q 3]],fun n z17 z20 b28 z1 s2 l3 z4 s5 l6 l7 z8 z9 s10 s11 s12 l13 l14 z15 _ s24 z25 s26 l27=>TM n z1 s2 l3 z4 s5 l6 l7 z8 z9 s10 s11 s12 l13 l14 z15 z17 z20 s24 z25 s26 l27 b28⟩,
 ⟨14925,[1,2,4,5,6,53],[.loc 0,.loc 864],1600,[.z,.p (.loc 0) 0,.one (.cb false),.z,.p (.loc 864) 0,.b],[[.y,.str,.q 4,.y,.str,.q 3,.q 15,.y,.z,.str,.str,.str,.f 1,.q 8,.z,.z],[.str,.y,.str,.q 3]],fun n z17 z20 b36 z1 s2 l3 z4 s5 l6 l7 z8 z9 s10 s11 s12 l13 l14 z15 _ _ _ _ _=>Na n z1 s2 l3 z4 s5 l6 l7 z8 z9 s10 s11 s12 l13 l14 z15 z17 z20 b36⟩,
 ⟨14927,[1,2,4,5,65],[.loc 0],1408,[.z,.p (.loc 0) 0,.one (.cb false),.z,.b],[[.y,.str,.q 4,.y,.str,.q 3,.q 15,.y,.z,.str,.str,.str,.f 1,.q 8,.z,.z]],fun n z17 z20 b42 z1 s2 l3 z4 s5 l6 l7 z8 z9 s10 s11 s12 l13 l14 z15 _=>Pb n z1 s2 l3 z4 s5 l6 l7 z8 z9 s10 s11 s12 l13 l14 z15 z17 z20 b42⟩,
 ⟨467,[1,2,4,5],[.loc 0],1600,[.z,.p (.loc 0) 0,.one (.cb false),.z],[[.y,.str,.q 4,.y,.str,.q 3,.q 15,.y,.z,.str,.str,.str,.f 1,.q 8,.z,.z]],fun n z17 z20 z1 s2 l3 z4 s5 l6 l7 z8 z9 s10 s11 s12 l13 l14 z15 _=>TN n z1 s2 l3 z4 s5 l6 l7 z8 z9 s10 s11 s12 l13 l14 z15 z17 z20⟩,
 ⟨61,[1,2,4,68],[.loc 0],800,[.z,.p (.loc 0) 0,.one (.cb false),.b],[[.y,.str,.q 4,.y,.str,.q 3,.q 15,.y,.z,.str,.str,.str,.f 1,.q 8,.z,.z]],fun n z17 b44 _ s2 _ z4 s5 l6 l7 z8 z9 s10 s11 s12 l13 l14 z15 _=>LO n s2 z4 s5 l6 l7 z8 z9 s10 s11 s12 l13 l14 z15 z17 b44⟩]⟩
noncomputable def xM:Kz:=sg xL [kF,sV,sO,gJ,xK,qG,sQ,xI] Tryz.func38 (by kernel_rfl) (by kernel_rfl) (by kernel_rfl)
mutual
def Pc:Nat->LD->Int->Option (Bool)
 | 0,_,_=>none
 | n+1,l1,z4=>
  AB l1 fun z5=>(if z4<z5 then TO n l1 z4 true else TO n l1 z4 false)
def TO:Nat->LD->Int->Bool->Option (Bool)
 | 0,_,_,_=>none
 | n+1,l1,z4,b6=>
  (if b6=true then Ae l1 z4 fun x7=>Bd x7 fun z8 s9 l10 z11 s12 l13 l14 z15 z16 s17 s18 s19 l20 l21 z22 z23=>bO1 (gL n z8 s9 l10 z11 s12 l13 l14 z15 z16 s17 s18 s19 l20 l21 z22 z23 (39:Int)) fun b24=>AI (!b24) fun b25=>(if b25=true then some false else AE (IntKind.wrap .i64 (z4+1)) fun z26=>Pc n l1 z26)else some true)
end
def Pd:Nat->LD->Bool->Option (Bool)
 | 0,_,_=>none
 | n+1,l1,b3=>
  (if b3=true then some false else Pc n l1 (0:Int))
def lR (n:Nat) (l1:LD):Option (Bool):=
 AB l1 fun z2=>(if (30:Int)<z2 then Pd n l1 true else Pd n l1 false)
noncomputable def xN:BS:=⟨11,Tryz.f11,[.agg [.q 16]],[],⟨.one (.b),[],[]⟩,Bool,inferInstance,lR,[⟨13,[1,2,7],[.loc 0],192,[.p (.loc 0) 0,.one (.cb false),.b],[[.q 16]],fun n b3 l1=>Pd n l1 b3⟩,
 ⟨58,[1,2,3],[.loc 0],224,[.p (.loc 0) 0,.one (.cb false),.z],[[.q 16]],fun n z4 l1=>Pc n l1 z4⟩,
 ⟨465,[1,2,3,12],[.loc 0],384,[.p (.loc 0) 0,.one (.cb false),.z,.b],[[.q 16]],fun n z4 b6 l1=>TO n l1 z4 b6⟩]⟩
noncomputable def xO:Kz:=sg xN [xM] Tryz.func11 (by kernel_rfl) (by kernel_rfl) (by kernel_rfl)
end Go.Proofs.YtjmofeakajdbiaaGreatDoor
end
set_option linter.unusedVariables false
noncomputable section
namespace Go.Proofs.YtjmofeakajdbiaaGreatDoor
open Go Go.AM
theorem bs:(!true)=false∧(!false)=true∧(false=true)=False∧(∀(γ:Type) [Decidable True] (x y:γ),(if True then x else y)=x)∧(∀(γ:Type) [Decidable False] (x y:γ),(if False then x else y)=y)∧(∀b,(true&&b)=b)∧(∀b,(false&&b)=false)∧(∀b,(b&&true)=b)∧(∀b,(b&&false)=false)∧(∀b,(true || b)=true)∧(∀b,(false || b)=b)∧(∀b,(b || true)=true)∧(∀b,(b || false)=b)∧(∀(γ:Type) (x y:γ),cond true x y=x)∧(∀(γ:Type) (x y:γ),cond false x y=y)∧∀(γ:Type) (b:Bool) (k:Bool→Option γ),AI b k=k b:=
 ⟨rfl,rfl,by simp,fun _ _ _ _=>if_pos trivial,fun _ _ _ _=>if_neg id,Bool.true_and,Bool.false_and,Bool.and_true,Bool.and_false,Bool.true_or,Bool.false_or,Bool.or_true,Bool.or_false,fun _ _ _=>rfl,fun _ _ _=>rfl,fun _ _ _=>rfl⟩
theorem bq:(!(false==true))=true∧(!(false==false))=false∧(!(true==true))=false∧(!(true==false))=true∧(false==true)=false∧(false==false)=true∧(true==true)=true∧(true==false)=false:=⟨rfl,rfl,rfl,rfl,rfl,rfl,rfl,rfl⟩
def DD (s:ByteArray) (l:List D):Bool:=emp s&&decide (l.length=0)
def Cw (z:Int) (s:ByteArray) (l:List D):Bool:=decide (z=0)&&(emp s&&decide (l.length=0))
theorem q0 (l:List D):((0:Int)<(l.length:Int))=¬l.length=0:=by
 apply propext;omega
theorem qz (l:List D):((l.length:Int)=0)=(l.length=0):=by
 apply propext;omega
theorem YS {s:ByteArray}{l:List D}:Ev (fun n=>N5 n s l) (DD s l):=by
 unfold N5 DD
 by_cases a:s=ByteArray.empty<;>by_cases b:l.length=0<;>simp only[a,b,emp,AB,qz,decide_true,decide_false,bs]<;>exact .ret
theorem gM {z:Int}{s:ByteArray}{l:List D}:Ev (fun n=>YF n z s l) (Cw z s l):=by
 unfold YF Cw
 by_cases c:z=0<;>by_cases a:s=ByteArray.empty<;>by_cases b:l.length=0<;>simp only[a,b,c,emp,AB,qz,decide_true,decide_false,bs]<;>exact .ret
theorem qR {z:Int}{s:ByteArray}{l:List D}:Ev (fun n=>gK n z s l) (Cw z s l):=by
 unfold gK Cw
 by_cases c:z=0<;>by_cases a:s=ByteArray.empty<;>by_cases b:l.length=0<;>simp only[a,b,c,emp,AB,qz,decide_true,decide_false,bs]<;>exact .ret
theorem Zm {s:ByteArray}:Ev (fun n=>Ul n s) (emp s):=by
 unfold Ul
 by_cases a:s=ByteArray.empty<;>simp only[a,emp,decide_true,decide_false,bs]<;>exact .ret
theorem sX (a0 a1:Int) (a2 a3 a4:ByteArray) (a5 a6:List D) (a7:Int) (n:Nat):Wj n a0 a1 a2 a3 a4 a5 a6 a7=some (decide (a0=5∨a0=6)):=by
 unfold Wj
 by_cases c5:a0=5
 ·simp[c5]
 ·by_cases c6:a0=6<;>simp[c5,c6]
theorem sY (a0 a1:Int) (a2 a3 a4:ByteArray) (a5 a6:List D) (a7:Int) (n:Nat):Zl n a0 a1 a2 a3 a4 a5 a6 a7=some (decide (a0=5∨a0=6)):=by
 unfold Zl
 by_cases c5:a0=5
 ·simp[c5]
 ·by_cases c6:a0=6<;>simp[c5,c6]
theorem Zn {l:List D}(h:AK Ap 39 l) {z16:Int}(d0:1≤z16) (d1:z16≤40):∃Y0 Y1:Bool,(l.length=0→Y0=true∧Y1=true)∧
  (∀(z3 z4:Int) (b5 b6 b7 b8 b9:Bool),Ev (fun n=>FD n l 6 z3 z4 b5 b6 b7 b8 b9 false z16) (Y0&&decide (l.length≤6),z3,z4,b5,b6,b7,b8,b9,false,z16))∧
  (∀(z3 z4:Int) (b5 b6 b7 b8 b9:Bool),Ev (fun n=>FD n l 6 z3 z4 b5 b6 b7 b8 b9 true z16) (Y1&&decide (l.length≤6),z3,z4,b5,b6,b7,b8,b9,true,z16))∧
  ∀(l12 l13 l14:List D) (f:ByteArray) (e R:Bool),Ev (fun n=>BI n f 101) e→Ev (fun n=>Et n l12 l13 l14 z16 (0:Int)) R→Ev (fun n=>HV n l l12 l13 l14 z16 f (0:Int)) (cond e Y0 Y1&&R):=by
 have wd:IntKind.i64.wrap (z16 - 1)=z16 - 1:=iw (by omega) (by omega)
 have el:∀i,i<l.length→∃a0 a1 a2 a3 a4 a5 a6 a7 lt q,l[i]?=some (.agg [.int .u8 a0,.int .i64 a1,.str a2,.str a3,.str a4,.list false 1 a5,.list true 8 a6,.int .i64 a7])∧(∀n,Zl n a0 a1 a2 a3 a4 a5 a6 a7=some lt)∧Ev (fun n=>Vq n a0 a1 a2 a3 a4 a5 a6 a7 (z16 - 1)) q∧
   (∀(z3 z4:Int) (b5 b6 b7 b8 b9:Bool),Ev (fun n=>Lc n a0 a1 a2 a3 a4 a5 a6 a7 z3 z4 b5 b6 b7 b8 b9 false z16) (!lt&&q,z3,z4,b5,b6,b7,b8,b9,false,z16))∧
   (∀(z3 z4:Int) (b5 b6 b7 b8 b9:Bool),Ev (fun n=>Lc n a0 a1 a2 a3 a4 a5 a6 a7 z3 z4 b5 b6 b7 b8 b9 true z16) (q,z3,z4,b5,b6,b7,b8,b9,true,z16)):=by
  intro i hi
  obtain⟨x,hx,hm,hr⟩:=h.get hi
  obtain⟨a0,a1,a2,a3,a4,a5,a6,a7,rfl,w0,_,w2,w3,w4,w5,w6,_⟩:=NM hr
  obtain⟨q,q1,q2⟩:=S8 a6 w6 a0 a1 a2 a3 a4 a5 a7 (z16 - 1) (EB w0).1 (EB w0).2 w2 w3 w4 w5 (by omega) (by omega)
  refine⟨a0,a1,a2,a3,a4,a5,a6,a7,decide (a0=5∨a0=6),q,hx,sY _ _ _ _ _ _ _ _,q2,fun z3 z4 b5 b6 b7 b8 b9=>?_,fun z3 z4 b5 b6 b7 b8 b9=>?_⟩
  ·unfold Lc
   simp only[Bool.false_eq_true,if_false,sX]
   refine Ev.bO1 .ret ?_
   generalize decide (a0=5∨a0=6)=lt
   cases lt
   ·simp only[bs,AE,wd]
    exact Ev.bO1 q1 .ret
   ·simp only[bs]
    exact .ret
  ·unfold Lc
   simp only[if_true,AE,wd]
   exact Ev.bO1 q1 .ret
 have loop:∀i:Nat,i≤l.length→∃Y0 Y1:Bool,(i=l.length→Y0=true∧Y1=true)∧
   (l.length≤6→∀(z3 z4:Int) (b5 b6 b7 b8 b9:Bool),Ev (fun n=>Bp n l 6 (i:Int) z3 z4 b5 b6 b7 b8 b9 false z16) (Y0,z3,z4,b5,b6,b7,b8,b9,false,z16))∧
   (l.length≤6→∀(z3 z4:Int) (b5 b6 b7 b8 b9:Bool),Ev (fun n=>Bp n l 6 (i:Int) z3 z4 b5 b6 b7 b8 b9 true z16) (Y1,z3,z4,b5,b6,b7,b8,b9,true,z16))∧
   ∀(l12 l13 l14:List D) (f:ByteArray) (e R:Bool),Ev (fun n=>BI n f 101) e→Ev (fun n=>Et n l12 l13 l14 z16 (0:Int)) R→Ev (fun n=>HV n l l12 l13 l14 z16 f (i:Int)) (cond e Y0 Y1&&R):=by
  refine down l.length ⟨true,true,fun _=>⟨rfl,rfl⟩,fun hl z3 z4 b5 b6 b7 b8 b9=>?_,fun hl z3 z4 b5 b6 b7 b8 b9=>?_,fun l12 l13 l14 f e R he hR=>?_⟩ ?_
  ·refine .succ ?_
   simp only[Bp,AB,Int.lt_irrefl,if_false]
   exact .succ (by simp only[CA,Bool.false_eq_true,if_false,AB,if_pos (show (l.length:Int)≤6 by omega)];exact .ret)
  ·refine .succ ?_
   simp only[Bp,AB,Int.lt_irrefl,if_false]
   exact .succ (by simp only[CA,Bool.false_eq_true,if_false,AB,if_pos (show (l.length:Int)≤6 by omega)];exact .ret)
  ·refine .succ ?_
   simp only[HV,AB,Int.lt_irrefl,if_false]
   refine .succ ?_
   simp only[NY,Bool.false_eq_true,if_false]
   rw[show cond e true true=true by cases e<;>rfl,Bool.true_and]
   exact hR
  ·rintro i hi ⟨Y0,Y1,_,y0,y1,y2⟩
   obtain⟨a0,a1,a2,a3,a4,a5,a6,a7,lt,q,hx,f1,f2,f3,f4⟩:=el i hi
   refine⟨(!lt&&q)&&Y0,q&&Y1,fun e=>absurd e (by omega),fun hl z3 z4 b5 b6 b7 b8 b9=>?_,fun hl z3 z4 b5 b6 b7 b8 b9=>?_,fun l12 l13 l14 f e R he hR=>?_⟩
   ·refine .succ ?_
    simp only[Bp,AB,if_pos (CT hi),if_pos (show (i:Int)<6 by omega)]
    refine .succ ?_
    simp only[CA,if_true,AG hx,Ao]
    refine Ev.bO10 (f3 _ _ _ _ _ _ _) ?_
    generalize (!lt&&q)=b
    cases b
    ·simp only[bs];exact .ret
    ·simp only[bs,AE,AF hi h.1];exact y0 hl _ _ _ _ _ _ _
   ·refine .succ ?_
    simp only[Bp,AB,if_pos (CT hi),if_pos (show (i:Int)<6 by omega)]
    refine .succ ?_
    simp only[CA,if_true,AG hx,Ao]
    refine Ev.bO10 (f4 _ _ _ _ _ _ _) ?_
    cases q
    ·simp only[bs];exact .ret
    ·simp only[bs,AE,AF hi h.1];exact y1 hl _ _ _ _ _ _ _
   ·have next:=y2 l12 l13 l14 f e R he hR
    have s7:∀b:Bool,Ev (fun n=>Ir n l l12 l13 l14 z16 f (i:Int) (!b)) (b&&(cond e Y0 Y1&&R)):=by
     intro b
     refine .succ ?_
     cases b
     ·simp only[Ir,bs];exact .ret
     ·simp only[Ir,bs,AE,AF hi h.1];exact next
    refine .succ ?_
    simp only[HV,AB,if_pos (CT hi)]
    refine .succ ?_
    simp only[NY,if_true,AG hx,Ao,f1]
    refine Ev.bO1 .ret ?_
    cases lt
    ·simp only[bs,AE,wd]
     refine Ev.bO1 f2 ?_
     have:=s7 q
     cases e<;>simpa only[cond_true,cond_false,Bool.and_assoc] using this
    ·simp only[bs]
     refine Ev.bO1 he ?_
     cases e
     ·simp only[bs,AE,wd]
      refine Ev.bO1 f2 ?_
      have:=s7 q
      simpa only[cond_true,cond_false,Bool.and_assoc] using this
     ·simp only[bs]
      exact s7 false
 have far:¬l.length≤6→∀i:Nat,i≤6→∀(z3 z4:Int) (b5 b6 b7 b8 b9 b10:Bool),Ev (fun n=>Bp n l 6 (i:Int) z3 z4 b5 b6 b7 b8 b9 b10 z16) (false,z3,z4,b5,b6,b7,b8,b9,b10,z16):=by
  intro hl
  refine down 6 (fun z3 z4 b5 b6 b7 b8 b9 b10=>?_) (fun i hi ih z3 z4 b5 b6 b7 b8 b9 b10=>?_)
  ·refine .succ ?_
   simp only[Bp,AB,if_pos (show ((6:Nat):Int)<(l.length:Int)by omega),if_neg (show ¬((6:Nat):Int)<6 by omega)]
   exact .succ (by simp only[CA,Bool.false_eq_true,if_false,AB,if_neg (show ¬(l.length:Int)≤6 by omega)];exact .ret)
  ·obtain⟨a0,a1,a2,a3,a4,a5,a6,a7,lt,q,hx,f1,f2,f3,f4⟩:=el i (by omega)
   refine .succ ?_
   simp only[Bp,AB,if_pos (show (i:Int)<(l.length:Int)by omega),if_pos (show (i:Int)<6 by omega)]
   refine .succ ?_
   simp only[CA,if_true,AG hx,Ao]
   have step:∀b:Bool,Ev (fun n=>AI (!b) fun b43=>if b43=true then some (false,z3,z4,b5,b6,b7,b8,b9,b10,z16)else AE (IntKind.wrap .i64 ((i:Int)+1)) fun z44=>Bp n l 6 z44 z3 z4 b5 b6 b7 b8 b9 b10 z16) (false,z3,z4,b5,b6,b7,b8,b9,b10,z16):=by
    intro b
    cases b
    ·simp only[bs];exact .ret
    ·simp only[bs,AE,AF (show i<l.length by omega) h.1];exact ih _ _ _ _ _ _ _ _
   cases b10
   ·exact Ev.bO10 (f3 _ _ _ _ _ _ _) (step _)
   ·exact Ev.bO10 (f4 _ _ _ _ _ _ _) (step _)
 obtain⟨Y0,Y1,y0,y1,y2,y3⟩:=loop 0 (Nat.zero_le _)
 refine⟨Y0,Y1,fun h=>y0 h.symm,fun z3 z4 b5 b6 b7 b8 b9=>?_,fun z3 z4 b5 b6 b7 b8 b9=>?_,y3⟩
 ·by_cases hl:l.length≤6
  ·rw[decide_eq_true hl,Bool.and_true];exact y1 hl _ _ _ _ _ _ _
  ·rw[decide_eq_false hl,Bool.and_false];exact far hl 0 (Nat.zero_le _) _ _ _ _ _ _ _ _
 ·by_cases hl:l.length≤6
  ·rw[decide_eq_true hl,Bool.and_true];exact y2 hl _ _ _ _ _ _ _
  ·rw[decide_eq_false hl,Bool.and_false];exact far hl 0 (Nat.zero_le _) _ _ _ _ _ _ _ _
theorem YT {l14:List D}(h:AK Ap 95 l14) {z16:Int}(d0:1≤z16) (d1:z16≤40) (hin:∀(s1 s2:ByteArray) (m:List D),.agg [.str s1,.str s2,.list true 15 m]∈l14→∃r,Ev (fun n=>CS n m (m.length:Int) z16) (r,z16)∧Ev (fun n=>RN n m (z16 - 1)) r):∃A:Bool,(l14.length=0→A=true)∧
  Ev (fun n=>N7 n l14 6 z16) (A&&decide (l14.length≤6),z16)∧
  ∀(l12 l13:List D) (B E:Bool),Ev (fun n=>RN n l12 (z16 - 1)) B→Ev (fun n=>RN n l13 (z16 - 1)) E→Ev (fun n=>Et n l12 l13 l14 z16 (0:Int)) (A&&(B&&E)):=by
 have wd:IntKind.i64.wrap (z16 - 1)=z16 - 1:=iw (by omega) (by omega)
 have el:∀i,i<l14.length→∃t1 t2 m q,l14[i]?=some (.agg [.str t1,.str t2,.list true 15 m])∧Ev (fun n=>Zh n t1 t2 m z16) (q,z16)∧
   ∀(l12 l13:List D) (X:Bool),Ev (fun n=>Et n l12 l13 l14 z16 (IntKind.wrap .i64 ((i:Int)+1))) X→Ev (fun n=>Et n l12 l13 l14 z16 (i:Int)) (q&&X):=by
  intro i hi
  obtain⟨x,hx,hm,hr⟩:=h.get hi
  obtain⟨t1,t2,m,rfl,w0,w1,w2⟩:=NN hr
  obtain⟨r,r1,r2⟩:=hin _ _ _ hm
  refine⟨t1,t2,m,nm 65 90 t1&&((emp t2 || nm 97 122 t2)&&r),hx,.succ ?_,fun l12 l13 X hX=>.succ ?_⟩
  ·simp only[Zh]
   refine Ev.bO1 (RB w0) ?_
   cases nm 65 90 t1
   ·simp only[bs];exact .ret
   simp only[bs,AB]
   by_cases c:t2=ByteArray.empty
   ·simp only[if_pos c,emp,decide_eq_true c,Bool.true_or,Bool.true_and]
    exact Ev.bO2 r1 .ret
   ·simp only[if_neg c,emp,decide_eq_false c,Bool.false_or]
    refine Ev.bO1 (Ld w1) ?_
    cases nm 97 122 t2
    ·simp only[bs];exact .ret
    ·simp only[bs]
     exact Ev.bO2 r1 .ret
  ·have s10:∀b:Bool,Ev (fun n=>FE n l12 l13 l14 z16 (i:Int) (!b)) (b&&X):=by
    intro b
    refine .succ ?_
    cases b
    ·simp only[FE,bs];exact .ret
    ·simp only[FE,bs,AE];exact hX
   simp only[Et,AB,if_pos (CT hi)]
   refine .succ ?_
   simp only[NZ,if_true,AG hx,Be]
   refine Ev.bO1 (S4 w0) ?_
   cases nm 65 90 t1
   ·simp only[bs];exact s10 false
   simp only[bs,AE,wd]
   by_cases c:t2=ByteArray.empty
   ·simp only[if_pos c,emp,decide_eq_true c,Bool.true_or,Bool.true_and]
    exact Ev.bO1 r2 (s10 _)
   ·simp only[if_neg c,emp,decide_eq_false c,Bool.false_or]
    refine Ev.bO1 (N8 w1) ?_
    cases nm 97 122 t2
    ·simp only[bs];exact s10 false
    ·simp only[bs]
     exact Ev.bO1 r2 (s10 _)
 have loop:∀i:Nat,i≤l14.length→∃A:Bool,(i=l14.length→A=true)∧(l14.length≤6→Ev (fun n=>GJ n l14 6 (i:Int) z16) (A,z16))∧
   ∀(l12 l13:List D) (B E:Bool),Ev (fun n=>RN n l12 (z16 - 1)) B→Ev (fun n=>RN n l13 (z16 - 1)) E→Ev (fun n=>Et n l12 l13 l14 z16 (i:Int)) (A&&(B&&E)):=by
  refine down l14.length ⟨true,fun _=>rfl,fun hl=>?_,fun l12 l13 B E hB hE=>?_⟩ ?_
  ·refine .succ ?_
   simp only[GJ,AB,Int.lt_irrefl,if_false]
   exact .succ (by simp only[HK,Bool.false_eq_true,if_false,AB,if_pos (show (l14.length:Int)≤6 by omega)];exact .ret)
  ·refine .succ ?_
   simp only[Et,AB,Int.lt_irrefl,if_false]
   refine .succ ?_
   simp only[NZ,Bool.false_eq_true,if_false,AE,wd]
   refine Ev.bO1 hB ?_
   cases B
   ·simp only[bs];exact .ret
   ·simp only[bs];exact Ev.bO1 hE .ret
  ·rintro i hi ⟨A,_,y1,y2⟩
   obtain⟨t1,t2,m,q,hx,f1,f2⟩:=el i hi
   refine⟨q&&A,fun e=>absurd e (by omega),fun hl=>.succ ?_,fun l12 l13 B E hB hE=>?_⟩
   ·simp only[GJ,AB,if_pos (CT hi),if_pos (show (i:Int)<6 by omega)]
    refine .succ ?_
    simp only[HK,if_true,AG hx,Be]
    refine Ev.bO2 f1 ?_
    cases q
    ·simp only[bs];exact .ret
    ·simp only[bs,AE,AF hi h.1];exact y1 hl
   ·rw[Bool.and_assoc]
    refine f2 l12 l13 _ ?_
    rw[AF hi h.1]
    exact y2 l12 l13 B E hB hE
 have far:¬l14.length≤6→∀i:Nat,i≤6→Ev (fun n=>GJ n l14 6 (i:Int) z16) (false,z16):=by
  intro hl
  refine down 6 (.succ ?_) (fun i hi ih=>?_)
  ·simp only[GJ,AB,if_pos (show ((6:Nat):Int)<(l14.length:Int)by omega),if_neg (show ¬((6:Nat):Int)<6 by omega)]
   exact .succ (by simp only[HK,Bool.false_eq_true,if_false,AB,if_neg (show ¬(l14.length:Int)≤6 by omega)];exact .ret)
  ·obtain⟨t1,t2,m,q,hx,f1,f2⟩:=el i (by omega)
   refine .succ ?_
   simp only[GJ,AB,if_pos (show (i:Int)<(l14.length:Int)by omega),if_pos (show (i:Int)<6 by omega)]
   refine .succ ?_
   simp only[HK,if_true,AG hx,Be]
   refine Ev.bO2 f1 ?_
   cases q
   ·simp only[bs];exact .ret
   ·simp only[bs,AE,AF (show i<l14.length by omega) h.1];exact ih
 obtain⟨A,y0,y1,y2⟩:=loop 0 (Nat.zero_le _)
 refine⟨A,fun h=>y0 h.symm,.succ ?_,y2⟩
 simp only[N7]
 by_cases hl:l14.length≤6
 ·rw[decide_eq_true hl,Bool.and_true];exact y1 hl
 ·rw[decide_eq_false hl,Bool.and_false];exact far hl 0 (Nat.zero_le _)
structure Pg (z5:Int) (s6:ByteArray) (l7:List D) (s9:ByteArray) (l10 l11 l12 l13 l14:List D) (z16:Int) (tB X0 X1 bB bE bA:Bool):Prop where
 hd:1≤z16∧z16≤40
 hty:Ev (fun n=>N4 n z5 s6 l7 (z16 - 1)) tB
 hpl:Ev (fun n=>Yo n s9 l10) (Co s9 l10)
 hx0:∀(z3 z4:Int) (b5 b6 b7 b8 b9:Bool),Ev (fun n=>FD n l11 6 z3 z4 b5 b6 b7 b8 b9 false z16) (X0,z3,z4,b5,b6,b7,b8,b9,false,z16)
 hx1:∀(z3 z4:Int) (b5 b6 b7 b8 b9:Bool),Ev (fun n=>FD n l11 6 z3 z4 b5 b6 b7 b8 b9 true z16) (X1,z3,z4,b5,b6,b7,b8,b9,true,z16)
 hb:Ev (fun n=>CS n l12 (l12.length:Int) z16) (bB,z16)
 he:Ev (fun n=>CS n l13 (l13.length:Int) z16) (bE,z16)
 ha:Ev (fun n=>N7 n l14 6 z16) (bA,z16)
section
variable {z1:Int}{s2 s3:ByteArray}{l4:List D}{z5:Int}{s6:ByteArray}{l7:List D}{z8:Int}{s9:ByteArray}{l10 l11 l12 l13 l14:List D}{z15:Int}{z16:Int}{tB X0 X1 bB bE bA:Bool}(G:Pg z5 s6 l7 s9 l10 l11 l12 l13 l14 z16 tB X0 X1 bB bE bA)
include G
theorem tl (X:Bool):Ev (fun n=>if X=true then AB l12 fun z79=>bO2 (CS n l12 z79 z16) fun b80 z81=>(if b80=true then AB l13 fun z82=>bO2 (CS n l13 z82 z81) fun b83 z84=>(if b83=true then bO2 (N7 n l14 (6:Int) z84) fun b85 z86=>some b85 else some false)else some false)else some false) (X&&(bB&&(bE&&bA))):=by
 cases X
 ·simp only[bs];exact .ret
 simp only[bs,AB]
 refine Ev.bO2 G.hb ?_
 cases bB
 ·simp only[bs];exact .ret
 simp only[bs]
 refine Ev.bO2 G.he ?_
 cases bE
 ·simp only[bs];exact .ret
 simp only[bs]
 exact Ev.bO2 G.ha .ret
theorem p3 (z17 z18:Int) (b19 b20 b21 b22:Bool) (b:Bool):Ev (fun n=>El n l11 l12 l13 l14 z16 z17 z18 b19 b20 b21 b22 (!b)) (b&&(cond b22 X1 X0&&(bB&&(bE&&bA)))):=by
 refine .succ ?_
 cases b
 ·simp only[El,bs];exact .ret
 simp only[El,bs]
 cases b22
 ·exact Ev.bO10 (G.hx0 _ _ _ _ _ _ _) (tl G _)
 ·exact Ev.bO10 (G.hx1 _ _ _ _ _ _ _) (tl G _)
theorem p2 (z17 z18:Int) (b19 b20 b21 b22:Bool) (b:Bool):Ev (fun n=>JW n l11 l12 l13 l14 z16 z17 z18 b19 b20 b21 b22 (!b)) (b&&((b20 || decide (l12.length=0))&&((b21 || decide (l13.length=0))&&(decide (l14.length=0)&&(cond b22 X1 X0&&(bB&&(bE&&bA))))))):=by
 have k1:=p3 G z17 z18 b19 b20 b21 b22 true
 have k0:=p3 G z17 z18 b19 b20 b21 b22 false
 simp only[Bool.not_true,Bool.not_false,Bool.true_and,Bool.false_and]at k1 k0
 refine .succ ?_
 cases b
 ·simp only[JW,bs];exact .ret
 by_cases c12:l12.length=0<;>by_cases c13:l13.length=0<;>by_cases c14:l14.length=0<;>cases b20<;>cases b21<;>simp only[JW,AB,q0,c12,c13,c14,not_true_eq_false,not_false_eq_true,decide_true,decide_false,bs]<;>first | exact k1 | exact k0
theorem p1 (z17 z18:Int) (b19 b20 b21 b22:Bool) (b:Bool):Ev (fun n=>Fy n z5 s6 l7 s9 l10 l11 l12 l13 l14 z16 z17 z18 b19 b20 b21 b22 (!b)) (b&&(!tB&&(Cw z5 s6 l7&&((b19==Co s9 l10)&&((b19 || DD s9 l10)&&((b20 || decide (l12.length=0))&&((b21 || decide (l13.length=0))&&(decide (l14.length=0)&&(cond b22 X1 X0&&(bB&&(bE&&bA))))))))))):=by
 have k1:=p2 G z17 z18 b19 b20 b21 b22 true
 have k0:=p2 G z17 z18 b19 b20 b21 b22 false
 simp only[Bool.not_true,Bool.not_false,Bool.true_and,Bool.false_and]at k1 k0
 have wd:IntKind.i64.wrap (z16 - 1)=z16 - 1:=iw (by have:=G.hd;omega) (by have:=G.hd;omega)
 refine .succ ?_
 cases b
 ·simp only[Fy,bs];exact .ret
 simp only[Fy,bs,AE,wd]
 refine Ev.bO1 G.hty ?_
 cases tB
 rotate_left
 ·simp only[bs,bq];exact k0
 simp only[bs,bq]
 refine Ev.bO1 gM ?_
 cases Cw z5 s6 l7
 ·simp only[bs,bq];exact k0
 simp only[bs,bq]
 refine Ev.bO1 G.hpl ?_
 cases b19<;>cases Co s9 l10
 ·simp only[bs,bq]
  refine Ev.bO1 YS ?_
  cases DD s9 l10
  ·simp only[bs,bq];exact k0
  ·simp only[bs,bq];exact k1
 ·simp only[bs,bq];exact k0
 ·simp only[bs,bq];exact k0
 ·simp only[bs,bq];exact k1
theorem p6 (z24:Int) (b25 b26 b27:Bool) (b:Bool):Ev (fun n=>HL n l11 l12 l13 l14 z16 z24 b25 b26 b27 (!b)) (b&&(cond b27 X1 X0&&(bB&&(bE&&bA)))):=by
 refine .succ ?_
 cases b
 ·simp only[HL,bs];exact .ret
 simp only[HL,bs]
 rw[lK]
 cases b27
 ·exact Ev.bO10 (G.hx0 _ _ _ _ _ _ _) (tl G _)
 ·exact Ev.bO10 (G.hx1 _ _ _ _ _ _ _) (tl G _)
theorem p5 (z24:Int) (b25 b26 b27:Bool) (b:Bool):Ev (fun n=>JX n l11 l12 l13 l14 z16 z24 b25 b26 b27 (!b)) (b&&((b26 || decide (l12.length=0))&&(decide (l13.length=0)&&(decide (l14.length=0)&&(cond b27 X1 X0&&(bB&&(bE&&bA))))))):=by
 have k1:=p6 G z24 b25 b26 b27 true
 have k0:=p6 G z24 b25 b26 b27 false
 simp only[Bool.not_true,Bool.not_false,Bool.true_and,Bool.false_and]at k1 k0
 refine .succ ?_
 cases b
 ·simp only[JX,bs];exact .ret
 by_cases c12:l12.length=0<;>by_cases c13:l13.length=0<;>by_cases c14:l14.length=0<;>cases b26<;>simp only[JX,AB,q0,c12,c13,c14,not_true_eq_false,not_false_eq_true,decide_true,decide_false,bs]<;>first | exact k1 | exact k0
theorem p4 (z24:Int) (b25 b26 b27:Bool) (b:Bool):Ev (fun n=>Gc n z5 s6 l7 s9 l10 l11 l12 l13 l14 z16 z24 b25 b26 b27 (!b)) (b&&(!tB&&(Cw z5 s6 l7&&((b25==Co s9 l10)&&((b25 || DD s9 l10)&&((b26 || decide (l12.length=0))&&(decide (l13.length=0)&&(decide (l14.length=0)&&(cond b27 X1 X0&&(bB&&(bE&&bA))))))))))):=by
 have k1:=p5 G z24 b25 b26 b27 true
 have k0:=p5 G z24 b25 b26 b27 false
 simp only[Bool.not_true,Bool.not_false,Bool.true_and,Bool.false_and]at k1 k0
 have wd:IntKind.i64.wrap (z16 - 1)=z16 - 1:=iw (by have:=G.hd;omega) (by have:=G.hd;omega)
 refine .succ ?_
 cases b
 ·simp only[Gc,bs];exact .ret
 simp only[Gc,bs,AE,wd]
 refine Ev.bO1 G.hty ?_
 cases tB
 rotate_left
 ·simp only[bs,bq];exact k0
 simp only[bs,bq]
 refine Ev.bO1 gM ?_
 cases Cw z5 s6 l7
 ·simp only[bs,bq];exact k0
 simp only[bs,bq]
 refine Ev.bO1 G.hpl ?_
 cases b25<;>cases Co s9 l10
 ·simp only[bs,bq]
  refine Ev.bO1 YS ?_
  cases DD s9 l10
  ·simp only[bs,bq];exact k0
  ·simp only[bs,bq];exact k1
 ·simp only[bs,bq];exact k0
 ·simp only[bs,bq];exact k0
 ·simp only[bs,bq];exact k1
theorem p9 (b:Bool):Ev (fun n=>LJ n l11 l12 l13 l14 z16 (!b)) (b&&(X0&&(bB&&(bE&&bA)))):=by
 refine .succ ?_
 cases b
 ·simp only[LJ,bs];exact .ret
 simp only[LJ,bs]
 rw[lM]
 exact Ev.bO10 (G.hx0 _ _ _ _ _ _ _) (tl G _)
theorem p8 (b:Bool):Ev (fun n=>LI n l11 l12 l13 l14 z16 (!b)) (b&&(decide (l12.length=0)&&(decide (l13.length=0)&&(decide (l14.length=0)&&(X0&&(bB&&(bE&&bA))))))):=by
 have k1:=p9 G true
 have k0:=p9 G false
 simp only[Bool.not_true,Bool.not_false,Bool.true_and,Bool.false_and]at k1 k0
 refine .succ ?_
 cases b
 ·simp only[LI,bs];exact .ret
 by_cases c12:l12.length=0<;>by_cases c13:l13.length=0<;>by_cases c14:l14.length=0<;>simp only[LI,AB,q0,c12,c13,c14,not_true_eq_false,not_false_eq_true,decide_true,decide_false,bs]<;>first | exact k1 | exact k0
theorem p7 (b:Bool):Ev (fun n=>Gd n z5 s6 l7 s9 l10 l11 l12 l13 l14 z16 (!b)) (b&&(!tB&&(Cw z5 s6 l7&&(!Co s9 l10&&(DD s9 l10&&(decide (l12.length=0)&&(decide (l13.length=0)&&(decide (l14.length=0)&&(X0&&(bB&&(bE&&bA))))))))))):=by
 have k1:=p8 G true
 have k0:=p8 G false
 simp only[Bool.not_true,Bool.not_false,Bool.true_and,Bool.false_and]at k1 k0
 have wd:IntKind.i64.wrap (z16 - 1)=z16 - 1:=iw (by have:=G.hd;omega) (by have:=G.hd;omega)
 refine .succ ?_
 cases b
 ·simp only[Gd,bs];exact .ret
 simp only[Gd,bs,AE,wd]
 refine Ev.bO1 G.hty ?_
 cases tB
 rotate_left
 ·simp only[bs,bq];exact k0
 simp only[bs,bq]
 refine Ev.bO1 gM ?_
 cases Cw z5 s6 l7
 ·simp only[bs,bq];exact k0
 simp only[bs,bq]
 refine Ev.bO1 G.hpl ?_
 cases Co s9 l10
 ·simp only[bs,bq]
  refine Ev.bO1 YS ?_
  cases DD s9 l10
  ·simp only[bs,bq];exact k0
  ·simp only[bs,bq];exact k1
 ·simp only[bs,bq];exact k0
theorem sZ (b:Bool):Ev (fun n=>Ii n l11 l12 l13 l14 z16 (!b)) (b&&(X0&&(bB&&(bE&&bA)))):=by
 refine .succ ?_
 cases b
 ·simp only[Ii,bs];exact .ret
 simp only[Ii,bs]
 rw[lO]
 exact Ev.bO10 (G.hx0 _ _ _ _ _ _ _) (tl G _)
theorem tA (b:Bool):Ev (fun n=>HM n l11 l12 l13 l14 z16 (!b)) (b&&(decide (l12.length=0)&&(decide (l13.length=0)&&(X0&&(bB&&(bE&&bA)))))):=by
 have k1:=sZ G true
 have k0:=sZ G false
 simp only[Bool.not_true,Bool.not_false,Bool.true_and,Bool.false_and]at k1 k0
 refine .succ ?_
 cases b
 ·simp only[HM,bs];exact .ret
 by_cases c12:l12.length=0<;>by_cases c13:l13.length=0<;>by_cases c14:l14.length=0<;>simp only[HM,AB,q0,c12,c13,c14,not_true_eq_false,not_false_eq_true,decide_true,decide_false,bs]<;>first | exact k1 | exact k0
theorem xP (b:Bool):Ev (fun n=>EI n z5 s6 l7 s9 l10 l11 l12 l13 l14 z16 (!b)) (b&&(!tB&&(Cw z5 s6 l7&&(!Co s9 l10&&(DD s9 l10&&(decide (l12.length=0)&&(decide (l13.length=0)&&(X0&&(bB&&(bE&&bA)))))))))):=by
 have k1:=tA G true
 have k0:=tA G false
 simp only[Bool.not_true,Bool.not_false,Bool.true_and,Bool.false_and]at k1 k0
 have wd:IntKind.i64.wrap (z16 - 1)=z16 - 1:=iw (by have:=G.hd;omega) (by have:=G.hd;omega)
 refine .succ ?_
 cases b
 ·simp only[EI,bs];exact .ret
 simp only[EI,bs,AE,wd]
 refine Ev.bO1 G.hty ?_
 cases tB
 rotate_left
 ·simp only[bs,bq];exact k0
 simp only[bs,bq]
 refine Ev.bO1 gM ?_
 cases Cw z5 s6 l7
 ·simp only[bs,bq];exact k0
 simp only[bs,bq]
 refine Ev.bO1 G.hpl ?_
 cases Co s9 l10
 ·simp only[bs,bq]
  refine Ev.bO1 YS ?_
  cases DD s9 l10
  ·simp only[bs,bq];exact k0
  ·simp only[bs,bq];exact k1
 ·simp only[bs,bq];exact k0
theorem tC (b:Bool):Ev (fun n=>HN n l11 l12 l13 l14 z16 (!b)) (b&&(X0&&(bB&&(bE&&bA)))):=by
 refine .succ ?_
 cases b
 ·simp only[HN,bs];exact .ret
 simp only[HN,bs]
 rw[lQ]
 exact Ev.bO10 (G.hx0 _ _ _ _ _ _ _) (tl G _)
theorem tD (b:Bool):Ev (fun n=>Ij n l11 l12 l13 l14 z16 (!b)) (b&&(decide (l12.length=0)&&(decide (l13.length=0)&&(decide (l14.length=0)&&(X0&&(bB&&(bE&&bA))))))):=by
 have k1:=tC G true
 have k0:=tC G false
 simp only[Bool.not_true,Bool.not_false,Bool.true_and,Bool.false_and]at k1 k0
 refine .succ ?_
 cases b
 ·simp only[Ij,bs];exact .ret
 by_cases c12:l12.length=0<;>by_cases c13:l13.length=0<;>by_cases c14:l14.length=0<;>simp only[Ij,AB,q0,c12,c13,c14,not_true_eq_false,not_false_eq_true,decide_true,decide_false,bs]<;>first | exact k1 | exact k0
theorem xQ (b:Bool):Ev (fun n=>EJ n z5 s6 l7 s9 l10 l11 l12 l13 l14 z16 (!b)) (b&&(tB&&(!Co s9 l10&&(DD s9 l10&&(decide (l12.length=0)&&(decide (l13.length=0)&&(decide (l14.length=0)&&(X0&&(bB&&(bE&&bA)))))))))):=by
 have k1:=tD G true
 have k0:=tD G false
 simp only[Bool.not_true,Bool.not_false,Bool.true_and,Bool.false_and]at k1 k0
 have wd:IntKind.i64.wrap (z16 - 1)=z16 - 1:=iw (by have:=G.hd;omega) (by have:=G.hd;omega)
 refine .succ ?_
 cases b
 ·simp only[EJ,bs];exact .ret
 simp only[EJ,bs,AE,wd]
 refine Ev.bO1 G.hty ?_
 cases tB
 ·simp only[bs,bq];exact k0
 simp only[bs,bq]
 refine Ev.bO1 G.hpl ?_
 cases Co s9 l10
 ·simp only[bs,bq]
  refine Ev.bO1 YS ?_
  cases DD s9 l10
  ·simp only[bs,bq];exact k0
  ·simp only[bs,bq];exact k1
 ·simp only[bs,bq];exact k0
omit G in
theorem Jm {α β γ:Type}{A:Nat→Option (α ⊕ β)}{a:α}{k1:Nat→α→Option γ}{k2:Nat→β→Option γ}{r:γ}(hr:Ev A (.inl a)) (h:Ev (fun n=>k1 n a) r):Ev (fun n=>bS (A n) (k1 n) (k2 n)) r:=by
 obtain⟨N,hr⟩:=hr
 obtain⟨M,h⟩:=h
 refine⟨N+M,fun n hn=>?_⟩
 show bS (A n) _ _=_
 rw[hr n (by omega)]
 exact h n (by omega)
omit G in
theorem DQ {α β γ:Type}{A:Nat→Option (α ⊕ β)}{b:β}{k1:Nat→α→Option γ}{k2:Nat→β→Option γ}{r:γ}(hr:Ev A (.inr b)) (h:Ev (fun n=>k2 n b) r):Ev (fun n=>bS (A n) (k1 n) (k2 n)) r:=by
 obtain⟨N,hr⟩:=hr
 obtain⟨M,h⟩:=h
 refine⟨N+M,fun n hn=>?_⟩
 show bS (A n) _ _=_
 rw[hr n (by omega)]
 exact h n (by omega)
theorem gI {k:Nat}{z18:Int}{b19 b20 b21 b22:Bool}{cB:Bool}(hf:Ev (fun n=>JP n z1 s2 s3 l4 z5 s6 l7 z8 s9 l10 l11 l12 l13 l14 z15) (.inl ((k:Int),z18,b19,b20,b21,b22,true))) (hc:Ev (fun n=>KW n z1 s2 s3 l4 z5 s6 l7 z8 s9 l10 l11 l12 l13 l14 z15) cB) (h2:s2.size≤maxLen) (h3:s3.size≤maxLen) (h4:AK Ap 9 l4):
  Ev (fun n=>Ss n z1 s2 s3 l4 z5 s6 l7 z8 s9 l10 l11 l12 l13 l14 z15 z16) (cB&&(emp s2&&(emp s3&&(decide ((l11.length:Int)=z18)&&((l4.all F5&&decide (l4.length≤k))&&(!tB&&(Cw z5 s6 l7&&((b19==Co s9 l10)&&((b19 || DD s9 l10)&&((b20 || decide (l12.length=0))&&((b21 || decide (l13.length=0))&&(decide (l14.length=0)&&(cond b22 X1 X0&&(bB&&(bE&&bA))))))))))))))):=by
 have d:=G.hd
 have kk:=p1 G (k:Int) z18 b19 b20 b21 b22
 have k0:=kk false
 simp only[Bool.not_false,Bool.false_and]at k0
 refine .succ ?_
 simp only[Ss]
 refine Jm hf ?_
 refine Ev.bO7 .ret ?_
 simp only[if_neg (show ¬z16<1 by omega),bs]
 refine Ev.bO1 hc ?_
 cases cB
 ·simp only[bs];exact k0
 simp only[bs]
 refine Ev.bO1 Zm ?_
 cases emp s2
 ·simp only[bs];exact k0
 simp only[bs]
 refine Ev.bO1 Zm ?_
 cases emp s3
 ·simp only[bs];exact k0
 simp only[bs,AB]
 by_cases c:(l11.length:Int)=z18
 ·simp only[if_pos c,decide_eq_true c,Bool.true_and]
  exact Ev.bO1 (PU h4 k) (kk _)
 ·simp only[if_neg c,decide_eq_false c,Bool.false_and];exact k0
theorem qS {z24:Int}{b25 b26 b27:Bool}{cB:Bool}(hf:Ev (fun n=>JP n z1 s2 s3 l4 z5 s6 l7 z8 s9 l10 l11 l12 l13 l14 z15) (.inr (.inl (z24,b25,b26,b27)))) (hc:Ev (fun n=>KW n z1 s2 s3 l4 z5 s6 l7 z8 s9 l10 l11 l12 l13 l14 z15) cB) (h2:s2.size≤maxLen) (h3:s3.size≤maxLen) (h4:AK Ap 9 l4):
  Ev (fun n=>Ss n z1 s2 s3 l4 z5 s6 l7 z8 s9 l10 l11 l12 l13 l14 z15 z16) (cB&&(nm 97 122 s2&&(emp s3&&(decide ((l11.length:Int)=z24)&&((l4.all F5&&decide (l4.length≤0))&&(!tB&&(Cw z5 s6 l7&&((b25==Co s9 l10)&&((b25 || DD s9 l10)&&((b26 || decide (l12.length=0))&&(decide (l13.length=0)&&(decide (l14.length=0)&&(cond b27 X1 X0&&(bB&&(bE&&bA))))))))))))))):=by
 have d:=G.hd
 have kk:=p4 G z24 b25 b26 b27
 have k0:=kk false
 simp only[Bool.not_false,Bool.false_and]at k0
 refine .succ ?_
 simp only[Ss]
 refine DQ hf (Jm .ret ?_)
 refine Ev.bO4 .ret ?_
 simp only[if_neg (show ¬z16<1 by omega),bs]
 refine Ev.bO1 hc ?_
 cases cB
 ·simp only[bs];exact k0
 simp only[bs]
 refine Ev.bO1 (Ld h2) ?_
 cases nm 97 122 s2
 ·simp only[bs];exact k0
 simp only[bs]
 refine Ev.bO1 Zm ?_
 cases emp s3
 ·simp only[bs];exact k0
 simp only[bs,AB]
 by_cases c:(l11.length:Int)=z24
 ·simp only[if_pos c,decide_eq_true c,Bool.true_and]
  exact Ev.bO1 (PU h4 0) (kk _)
 ·simp only[if_neg c,decide_eq_false c,Bool.false_and];exact k0
theorem qT {cB:Bool}(hf:Ev (fun n=>JP n z1 s2 s3 l4 z5 s6 l7 z8 s9 l10 l11 l12 l13 l14 z15) (.inr (.inr (.inl ())))) (hc:Ev (fun n=>KW n z1 s2 s3 l4 z5 s6 l7 z8 s9 l10 l11 l12 l13 l14 z15) cB) (h2:s2.size≤maxLen) (h3:s3.size≤maxLen) (h4:AK Ap 9 l4):
  Ev (fun n=>Ss n z1 s2 s3 l4 z5 s6 l7 z8 s9 l10 l11 l12 l13 l14 z15 z16) (cB&&(nm 65 90 s2&&(emp s3&&(decide ((l11.length:Int)=1)&&((l4.all F5&&decide (l4.length≤6))&&(!tB&&(Cw z5 s6 l7&&(!Co s9 l10&&(DD s9 l10&&(decide (l12.length=0)&&(decide (l13.length=0)&&(decide (l14.length=0)&&(X0&&(bB&&(bE&&bA))))))))))))))):=by
 have d:=G.hd
 have kk:=p7 G
 have k0:=kk false
 simp only[Bool.not_false,Bool.false_and]at k0
 refine .succ ?_
 simp only[Ss]
 refine DQ hf (DQ .ret (Jm .ret ?_))
 simp only[if_neg (show ¬z16<1 by omega),bs]
 refine Ev.bO1 hc ?_
 cases cB
 ·simp only[bs];exact k0
 simp only[bs]
 refine Ev.bO1 (RB h2) ?_
 cases nm 65 90 s2
 ·simp only[bs];exact k0
 simp only[bs]
 refine Ev.bO1 Zm ?_
 cases emp s3
 ·simp only[bs];exact k0
 simp only[bs,AB]
 by_cases c:(l11.length:Int)=1
 ·simp only[if_pos c,decide_eq_true c,Bool.true_and]
  exact Ev.bO1 (PU h4 6) (kk _)
 ·simp only[if_neg c,decide_eq_false c,Bool.false_and];exact k0
theorem xR {cB:Bool}(hf:Ev (fun n=>JP n z1 s2 s3 l4 z5 s6 l7 z8 s9 l10 l11 l12 l13 l14 z15) (.inr (.inr (.inr (.inl ()))))) (hc:Ev (fun n=>KW n z1 s2 s3 l4 z5 s6 l7 z8 s9 l10 l11 l12 l13 l14 z15) cB) (h2:s2.size≤maxLen) (h3:s3.size≤maxLen) (h4:AK Ap 9 l4):
  Ev (fun n=>Ss n z1 s2 s3 l4 z5 s6 l7 z8 s9 l10 l11 l12 l13 l14 z15 z16) (cB&&(nm 97 122 s2&&(nm 65 90 s3&&(decide ((l11.length:Int)=0)&&((l4.all F5&&decide (l4.length≤0))&&(!tB&&(Cw z5 s6 l7&&(!Co s9 l10&&(DD s9 l10&&(decide (l12.length=0)&&(decide (l13.length=0)&&(X0&&(bB&&(bE&&bA)))))))))))))):=by
 have d:=G.hd
 have kk:=xP G
 have k0:=kk false
 simp only[Bool.not_false,Bool.false_and]at k0
 refine .succ ?_
 simp only[Ss]
 refine DQ hf (DQ .ret (DQ .ret (Jm .ret ?_)))
 simp only[if_neg (show ¬z16<1 by omega),bs]
 refine Ev.bO1 hc ?_
 cases cB
 ·simp only[bs];exact k0
 simp only[bs]
 refine Ev.bO1 (Ld h2) ?_
 cases nm 97 122 s2
 ·simp only[bs];exact k0
 simp only[bs]
 refine Ev.bO1 (RB h3) ?_
 cases nm 65 90 s3
 ·simp only[bs];exact k0
 simp only[bs,AB]
 by_cases c:(l11.length:Int)=0
 ·simp only[if_pos c,decide_eq_true c,Bool.true_and]
  exact Ev.bO1 (PU h4 0) (kk _)
 ·simp only[if_neg c,decide_eq_false c,Bool.false_and];exact k0
theorem gV {cB:Bool}(hf:Ev (fun n=>JP n z1 s2 s3 l4 z5 s6 l7 z8 s9 l10 l11 l12 l13 l14 z15) (.inr (.inr (.inr (.inr ()))))) (hc:Ev (fun n=>KW n z1 s2 s3 l4 z5 s6 l7 z8 s9 l10 l11 l12 l13 l14 z15) cB) (h2:s2.size≤maxLen) (h3:s3.size≤maxLen) (h4:AK Ap 9 l4):
  Ev (fun n=>Ss n z1 s2 s3 l4 z5 s6 l7 z8 s9 l10 l11 l12 l13 l14 z15 z16) (cB&&(nm 97 122 s2&&(nm 97 122 s3&&(decide ((l11.length:Int)=0)&&((l4.all F5&&decide (l4.length≤0))&&(tB&&(!Co s9 l10&&(DD s9 l10&&(decide (l12.length=0)&&(decide (l13.length=0)&&(decide (l14.length=0)&&(X0&&(bB&&(bE&&bA)))))))))))))):=by
 have d:=G.hd
 have kk:=xQ G
 have k0:=kk false
 simp only[Bool.not_false,Bool.false_and]at k0
 refine .succ ?_
 simp only[Ss]
 refine DQ hf (DQ .ret (DQ .ret (DQ .ret ?_)))
 simp only[if_neg (show ¬z16<1 by omega),bs]
 refine Ev.bO1 hc ?_
 cases cB
 ·simp only[bs];exact k0
 simp only[bs]
 refine Ev.bO1 (Ld h2) ?_
 cases nm 97 122 s2
 ·simp only[bs];exact k0
 simp only[bs]
 refine Ev.bO1 (Ld h3) ?_
 cases nm 97 122 s3
 ·simp only[bs];exact k0
 simp only[bs,AB]
 by_cases c:(l11.length:Int)=0
 ·simp only[if_pos c,decide_eq_true c,Bool.true_and]
  exact Ev.bO1 (PU h4 0) (kk _)
 ·simp only[if_neg c,decide_eq_false c,Bool.false_and];exact k0
end
end Go.Proofs.YtjmofeakajdbiaaGreatDoor
end
