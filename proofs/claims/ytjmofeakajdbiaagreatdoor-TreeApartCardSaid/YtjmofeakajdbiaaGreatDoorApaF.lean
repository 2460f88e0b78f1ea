/- Part of a proof. No condition. (Part 6.) -/
import Derived.Carry
import Derived.ChangeSame
import Derived.ChangeOld
import Derived.ChangeCalls
import Derived.WideShapes
import Derived.Test.YtjmofeakajdbiaaGreatDoorApaE
set_option linter.unusedVariables false
set_option linter.unusedSimpArgs false
set_option maxRecDepth 100000
set_option maxHeartbeats 40000000
set_option linter.unusedVariables false
noncomputable section
namespace Go.Proofs.YtjmofeakajdbiaaGreatDoor
open Go Go.AM
mutual
def I2:Nat->Int->BA->BA->LD->Int->BA->LD->Int->BA->LD->LD->LD->LD->LD->Int->Int->Option (Int)
 | 0,_,_,_,_,_,_,_,_,_,_,_,_,_,_,_,_=>none
 | n+1,z1,s2,s3,l4,z5,s6,l7,z8,s9,l10,l11,l12,l13,l14,z15,z16=>
  bO1 (TH n z1 s2 s3 l4 z5 s6 l7 z8 s9 l10 l11 l12 l13 l14 z15) fun z17=>AJ (if z17>z16 then z17 else z16) fun z18=>some z18
def Dq:Nat->Int->BA->BA->LD->Int->BA->LD->Int->BA->LD->LD->LD->LD->LD->Int->Int->Int->Option (Int×Int×BA×BA×LD×Int×BA×LD×Int×BA×LD×LD×LD×LD×LD×Int)
 | 0,_,_,_,_,_,_,_,_,_,_,_,_,_,_,_,_,_=>none
 | n+1,z2,s3,s4,l5,z6,s7,l8,z9,s10,l11,l12,l13,l14,l15,z16,z17,z18=>
  (if z17<(2:Int)then D8 n z2 s3 s4 l5 z6 s7 l8 z9 s10 l11 l12 l13 l14 l15 z16 z17 z18 true else D8 n z2 s3 s4 l5 z6 s7 l8 z9 s10 l11 l12 l13 l14 l15 z16 z17 z18 false)
def D8:Nat->Int->BA->BA->LD->Int->BA->LD->Int->BA->LD->LD->LD->LD->LD->Int->Int->Int->Bool->Option (Int×Int×BA×BA×LD×Int×BA×LD×Int×BA×LD×LD×LD×LD×LD×Int)
 | 0,_,_,_,_,_,_,_,_,_,_,_,_,_,_,_,_,_,_=>none
 | n+1,z2,s3,s4,l5,z6,s7,l8,z9,s10,l11,l12,l13,l14,l15,z16,z17,z18,b19=>
  (if b19=true then Ap ([.list true 15 l13,.list true 15 l14]) z17 fun x20=>Bd x20 fun l21=>AE l21 fun z22=>D9 n z2 s3 s4 l5 z6 s7 l8 z9 s10 l11 l12 l13 l14 l15 z16 z17 l21 z22 (0:Int) z18 else AE l15 fun z45=>Dr n z2 s3 s4 l5 z6 s7 l8 z9 s10 l11 l12 l13 l14 l15 z16 z45 (0:Int) z18)
def D9:Nat->Int->BA->BA->LD->Int->BA->LD->Int->BA->LD->LD->LD->LD->LD->Int->Int->LD->Int->Int->Int->Option (Int×Int×BA×BA×LD×Int×BA×LD×Int×BA×LD×LD×LD×LD×LD×Int)
 | 0,_,_,_,_,_,_,_,_,_,_,_,_,_,_,_,_,_,_,_,_=>none
 | n+1,z2,s3,s4,l5,z6,s7,l8,z9,s10,l11,l12,l13,l14,l15,z16,z17,l21,z22,z23,z24=>
  (if z23<z22 then Eb n z2 s3 s4 l5 z6 s7 l8 z9 s10 l11 l12 l13 l14 l15 z16 z17 l21 z22 z23 z24 true else Eb n z2 s3 s4 l5 z6 s7 l8 z9 s10 l11 l12 l13 l14 l15 z16 z17 l21 z22 z23 z24 false)
def Eb:Nat->Int->BA->BA->LD->Int->BA->LD->Int->BA->LD->LD->LD->LD->LD->Int->Int->LD->Int->Int->Int->Bool->Option (Int×Int×BA×BA×LD×Int×BA×LD×Int×BA×LD×LD×LD×LD×LD×Int)
 | 0,_,_,_,_,_,_,_,_,_,_,_,_,_,_,_,_,_,_,_,_,_=>none
 | n+1,z2,s3,s4,l5,z6,s7,l8,z9,s10,l11,l12,l13,l14,l15,z16,z17,l21,z22,z23,z24,b25=>
  (if b25=true then Ap l21 z23 fun x26=>BJ x26 fun z27 s28 s29 l30 z31 s32 l33 z34 s35 l36 l37 l38 l39 l40 z41=>bO1 (I2 n z27 s28 s29 l30 z31 s32 l33 z34 s35 l36 l37 l38 l39 l40 z41 z24) fun z42=>AJ (IntKind.wrap .i64 (z23+1)) fun z43=>D9 n z2 s3 s4 l5 z6 s7 l8 z9 s10 l11 l12 l13 l14 l15 z16 z17 l21 z22 z43 z42 else AJ (IntKind.wrap .i64 (z17+1)) fun z44=>Dq n z2 s3 s4 l5 z6 s7 l8 z9 s10 l11 l12 l13 l14 l15 z16 z44 z24)
def Dr:Nat->Int->BA->BA->LD->Int->BA->LD->Int->BA->LD->LD->LD->LD->LD->Int->Int->Int->Int->Option (Int×Int×BA×BA×LD×Int×BA×LD×Int×BA×LD×LD×LD×LD×LD×Int)
 | 0,_,_,_,_,_,_,_,_,_,_,_,_,_,_,_,_,_,_=>none
 | n+1,z2,s3,s4,l5,z6,s7,l8,z9,s10,l11,l12,l13,l14,l15,z16,z45,z46,z47=>
  (if z46<z45 then Ec n z2 s3 s4 l5 z6 s7 l8 z9 s10 l11 l12 l13 l14 l15 z16 z45 z46 z47 true else Ec n z2 s3 s4 l5 z6 s7 l8 z9 s10 l11 l12 l13 l14 l15 z16 z45 z46 z47 false)
def Ec:Nat->Int->BA->BA->LD->Int->BA->LD->Int->BA->LD->LD->LD->LD->LD->Int->Int->Int->Int->Bool->Option (Int×Int×BA×BA×LD×Int×BA×LD×Int×BA×LD×LD×LD×LD×LD×Int)
 | 0,_,_,_,_,_,_,_,_,_,_,_,_,_,_,_,_,_,_,_=>none
 | n+1,z2,s3,s4,l5,z6,s7,l8,z9,s10,l11,l12,l13,l14,l15,z16,z45,z46,z47,b48=>
  (if b48=true then Ap l15 z46 fun x49=>Bf x49 fun s50 s51 l52=>AE l52 fun z53=>EA n z2 s3 s4 l5 z6 s7 l8 z9 s10 l11 l12 l13 l14 l15 z16 z45 z46 l52 z53 (0:Int) z47 else some (z47,z2,s3,s4,l5,z6,s7,l8,z9,s10,l11,l12,l13,l14,l15,z16))
def EA:Nat->Int->BA->BA->LD->Int->BA->LD->Int->BA->LD->LD->LD->LD->LD->Int->Int->Int->LD->Int->Int->Int->Option (Int×Int×BA×BA×LD×Int×BA×LD×Int×BA×LD×LD×LD×LD×LD×Int)
 | 0,_,_,_,_,_,_,_,_,_,_,_,_,_,_,_,_,_,_,_,_,_=>none
 | n+1,z2,s3,s4,l5,z6,s7,l8,z9,s10,l11,l12,l13,l14,l15,z16,z45,z46,l52,z53,z54,z55=>
  (if z54<z53 then Ed n z2 s3 s4 l5 z6 s7 l8 z9 s10 l11 l12 l13 l14 l15 z16 z45 z46 l52 z53 z54 z55 true else Ed n z2 s3 s4 l5 z6 s7 l8 z9 s10 l11 l12 l13 l14 l15 z16 z45 z46 l52 z53 z54 z55 false)
def Ed:Nat->Int->BA->BA->LD->Int->BA->LD->Int->BA->LD->LD->LD->LD->LD->Int->Int->Int->LD->Int->Int->Int->Bool->Option (Int×Int×BA×BA×LD×Int×BA×LD×Int×BA×LD×LD×LD×LD×LD×Int)
 | 0,_,_,_,_,_,_,_,_,_,_,_,_,_,_,_,_,_,_,_,_,_,_=>none
 | n+1,z2,s3,s4,l5,z6,s7,l8,z9,s10,l11,l12,l13,l14,l15,z16,z45,z46,l52,z53,z54,z55,b56=>
  (if b56=true then Ap l52 z54 fun x57=>BJ x57 fun z58 s59 s60 l61 z62 s63 l64 z65 s66 l67 l68 l69 l70 l71 z72=>bO1 (I2 n z58 s59 s60 l61 z62 s63 l64 z65 s66 l67 l68 l69 l70 l71 z72 z55) fun z73=>AJ (IntKind.wrap .i64 (z54+1)) fun z74=>EA n z2 s3 s4 l5 z6 s7 l8 z9 s10 l11 l12 l13 l14 l15 z16 z45 z46 l52 z53 z74 z73 else AJ (IntKind.wrap .i64 (z46+1)) fun z75=>Dr n z2 s3 s4 l5 z6 s7 l8 z9 s10 l11 l12 l13 l14 l15 z16 z45 z75 z55)
def TG:Nat->Int->Int->BA->BA->LD->Int->BA->LD->Int->BA->LD->LD->LD->LD->LD->Int->Option (Int×Int×BA×BA×LD×Int×BA×LD×Int×BA×LD×LD×LD×LD×LD×Int)
 | 0,_,_,_,_,_,_,_,_,_,_,_,_,_,_,_,_=>none
 | n+1,z1,z2,s3,s4,l5,z6,s7,l8,z9,s10,l11,l12,l13,l14,l15,z16=>
  Dq n z2 s3 s4 l5 z6 s7 l8 z9 s10 l11 l12 l13 l14 l15 z16 (0:Int) z1
def HT:Nat->Int->BA->BA->LD->Int->BA->LD->Int->BA->LD->LD->LD->LD->LD->Int->Bool->Option (Int)
 | 0,_,_,_,_,_,_,_,_,_,_,_,_,_,_,_,_=>none
 | n+1,z1,s2,s3,l4,z5,s6,l7,z8,s9,l10,l11,l12,l13,l14,z15,b16=>
  (if b16=true then bO1 (V8 n z5 s6 l7) fun z17=>HU n z1 s2 s3 l4 z5 s6 l7 z8 s9 l10 l11 l12 l13 l14 z15 z17 else HU n z1 s2 s3 l4 z5 s6 l7 z8 s9 l10 l11 l12 l13 l14 z15 (0:Int))
def HU:Nat->Int->BA->BA->LD->Int->BA->LD->Int->BA->LD->LD->LD->LD->LD->Int->Int->Option (Int)
 | 0,_,_,_,_,_,_,_,_,_,_,_,_,_,_,_,_=>none
 | n+1,z1,s2,s3,l4,z5,s6,l7,z8,s9,l10,l11,l12,l13,l14,z15,z18=>
  AE l11 fun z19=>GS n z1 s2 s3 l4 z5 s6 l7 z8 s9 l10 l11 l12 l13 l14 z15 z19 (0:Int) z18
def GS:Nat->Int->BA->BA->LD->Int->BA->LD->Int->BA->LD->LD->LD->LD->LD->Int->Int->Int->Int->Option (Int)
 | 0,_,_,_,_,_,_,_,_,_,_,_,_,_,_,_,_,_,_=>none
 | n+1,z1,s2,s3,l4,z5,s6,l7,z8,s9,l10,l11,l12,l13,l14,z15,z19,z20,z21=>
  (if z20<z19 then HV n z1 s2 s3 l4 z5 s6 l7 z8 s9 l10 l11 l12 l13 l14 z15 z19 z20 z21 true else HV n z1 s2 s3 l4 z5 s6 l7 z8 s9 l10 l11 l12 l13 l14 z15 z19 z20 z21 false)
def HV:Nat->Int->BA->BA->LD->Int->BA->LD->Int->BA->LD->LD->LD->LD->LD->Int->Int->Int->Int->Bool->Option (Int)
 | 0,_,_,_,_,_,_,_,_,_,_,_,_,_,_,_,_,_,_,_=>none
 | n+1,z1,s2,s3,l4,z5,s6,l7,z8,s9,l10,l11,l12,l13,l14,z15,z19,z20,z21,b22=>
  (if b22=true then Ap l11 z20 fun x23=>BD x23 fun z24 z25 s26 s27 s28 l29 l30 z31=>bO1 (T2 n z24 z25 s26 s27 s28 l29 l30 z31) fun z32=>AJ (if z32>z21 then z32 else z21) fun z33=>AJ (IntKind.wrap .i64 (z20+1)) fun z34=>GS n z1 s2 s3 l4 z5 s6 l7 z8 s9 l10 l11 l12 l13 l14 z15 z19 z34 z33 else bO15 (cX n z1 s2 s3 l4 z5 s6 l7 z8 s9 l10 l11 l12 l13 l14 z15) fun z35 s36 s37 l38 z39 s40 l41 z42 s43 l44 l45 l46 l47 l48 z49=>bO16 (TG n z21 z35 s36 s37 l38 z39 s40 l41 z42 s43 l44 l45 l46 l47 l48 z49) fun z50 z51 s52 s53 l54 z55 s56 l57 z58 s59 l60 l61 l62 l63 l64 z65=>AJ (IntKind.wrap .i64 (z50+1)) fun z66=>some z66)
def TH:Nat->Int->BA->BA->LD->Int->BA->LD->Int->BA->LD->LD->LD->LD->LD->Int->Option (Int)
 | 0,_,_,_,_,_,_,_,_,_,_,_,_,_,_,_=>none
 | n+1,z1,s2,s3,l4,z5,s6,l7,z8,s9,l10,l11,l12,l13,l14,z15=>
  (if z1=(12:Int)then HT n z1 s2 s3 l4 z5 s6 l7 z8 s9 l10 l11 l12 l13 l14 z15 true else HT n z1 s2 s3 l4 z5 s6 l7 z8 s9 l10 l11 l12 l13 l14 z15 false)
end
theorem pQ (n:Nat):(∀⦃z1 s2 s3 l4 z5 s6 l7 z8 s9 l10 l11 l12 l13 l14 z15 z16 r1⦄,I2 n z1 s2 s3 l4 z5 s6 l7 z8 s9 l10 l11 l12 l13 l14 z15 z16=some r1->
    DT Tryz.prog inv (JH ()) [(3,.v (.c (.ptr (.ext 0) 0)))] [.d (.agg [.int .u8 z1,.str s2,.str s3,.list false 1 l4,.int .u8 z5,.str s6,.list true 3 l7,.int .i64 z8,.str s9,.list false 1 l10,.list true 8 l11,.list true 15 l12,.list true 15 l13,.list true 3 l14,.int .i64 z15])] [.cells [.d (.int .i64 z16)]] fun j p n=>j=none/\p=[.cells [.d (.int .i64 r1)]]/\n=[])/\
    (∀⦃z1 z2 s3 s4 l5 z6 s7 l8 z9 s10 l11 l12 l13 l14 l15 z16 r1 r2 r3 r4 r5 r6 r7 r8 r9 r10 r11 r12 r13 r14 r15 r16⦄,TG n z1 z2 s3 s4 l5 z6 s7 l8 z9 s10 l11 l12 l13 l14 l15 z16=some (r1,r2,r3,r4,r5,r6,r7,r8,r9,r10,r11,r12,r13,r14,r15,r16)->
    Ah Tryz.prog inv 138 [.c (.yl (.ext 0)),.c (.ptr (.ext 2) 0)] [.rnd JH [(3,.v (.c (.ptr (.ext 1) 0)))],.cells [.d (.int .i64 z1)],.cells [.d (.int .u8 z2),.d (.str s3),.d (.str s4),.d (.list false 1 l5),.d (.int .u8 z6),.d (.str s7),.d (.list true 3 l8),.d (.int .i64 z9),.d (.str s10),.d (.list false 1 l11),.d (.list true 8 l12),.d (.list true 15 l13),.d (.list true 15 l14),.d (.list true 3 l15),.d (.int .i64 z16)]] (.t []) [.rnd JH [(3,.v (.c (.ptr (.ext 1) 0)))],.cells [.d (.int .i64 r1)],.cells [.d (.int .u8 r2),.d (.str r3),.d (.str r4),.d (.list false 1 r5),.d (.int .u8 r6),.d (.str r7),.d (.list true 3 r8),.d (.int .i64 r9),.d (.str r10),.d (.list false 1 r11),.d (.list true 8 r12),.d (.list true 15 r13),.d (.list true 15 r14),.d (.list true 3 r15),.d (.int .i64 r16)]] [])/\
    (∀⦃z1 s2 s3 l4 z5 s6 l7 z8 s9 l10 l11 l12 l13 l14 z15 r1⦄,TH n z1 s2 s3 l4 z5 s6 l7 z8 s9 l10 l11 l12 l13 l14 z15=some r1->
    Ah Tryz.prog inv 88 [.d (.agg [.int .u8 z1,.str s2,.str s3,.list false 1 l4,.int .u8 z5,.str s6,.list true 3 l7,.int .i64 z8,.str s9,.list false 1 l10,.list true 8 l11,.list true 15 l12,.list true 15 l13,.list true 3 l14,.int .i64 z15])] [] (.v (.d (.int .i64 r1))) [] []):=by
 induction n using Nat.strongRecOn with | _ n ih=>
 obtain _ | n:=n
 ·refine⟨?_,?_,?_⟩
  ·intro z1 s2 s3 l4 z5 s6 l7 z8 s9 l10 l11 l12 l13 l14 z15 z16 r1 h
   cases (show (none:Option _)=some _ from h)
  ·intro z1 z2 s3 s4 l5 z6 s7 l8 z9 s10 l11 l12 l13 l14 l15 z16 r1 r2 r3 r4 r5 r6 r7 r8 r9 r10 r11 r12 r13 r14 r15 r16 h
   cases (show (none:Option _)=some _ from h)
  intro z1 s2 s3 l4 z5 s6 l7 z8 s9 l10 l11 l12 l13 l14 z15 r1 h
  cases (show (none:Option _)=some _ from h)
 refine⟨?_,?_,?_⟩
 ·intro z1 s2 s3 l4 z5 s6 l7 z8 s9 l10 l11 l12 l13 l14 z15 z16 r1 h
  rw[I2]at h
  refine DT.zM BI Ao Fi rfl rfl rfl rfl rfl (by kernel_rfl) (fun M hM hI=>?_)
  try cbv
  replace h:=AU h
  obtain⟨z17,hr,h⟩:=h
  first | refine .inr (.inl ⟨[],?_⟩) | refine .inl ⟨[],?_⟩
  try cbv
  refine AQ hM hI ((ih _ (by omega)).2.2 hr) rfl ?_
  clear hr
  try cbv
  replace h:=Ac h
  obtain⟨z18,hz,h⟩:=h
  refine⟨z18,hz,?_⟩
  clear hz
  try cbv
  refine drawn ?_ ?_
  ·show _=true
   kernel_rfl
  try cbv
  obtain rfl:=Option.some.inj h
  refine⟨_,_,⟨rfl,rfl,rfl⟩,[],?_⟩
  try cbv
  exact⟨[],rfl,⟨rfl,trivial⟩,trivial,trivial⟩
 ·intro z1 z2 s3 s4 l5 z6 s7 l8 z9 s10 l11 l12 l13 l14 l15 z16 r1 r2 r3 r4 r5 r6 r7 r8 r9 r10 r11 r12 r13 r14 r15 r16 h
  rw[TG]at h
  refine Ah.of BI Ao Fi Tryz.func138 rfl (by kernel_rfl) rfl rfl rfl (fun M hM hI=>?_)
  try cbv
  refine AB ?_
  try cbv
  refine AB ?_
  try cbv
  refine⟨false,?_⟩
  try cbv
  refine⟨true,?_⟩
  try cbv
  refine⟨2,(M.lenI_eq _).trans rfl,?_⟩
  try cbv
  refine Cs (T:=Nat×Int×Int) [0,1,15,16,17] [.ext 0,.ext 1,.ext 2] 224 (fun t=>⟨[(0,.v (.c (.yl (.ext 0)))),sE 1 2,(15,.v (.c (.tl false 1 ([.list true 15 l13,.list true 15 l14])))),sI 16 2,sI 17 t.2.1],[(.ext 0,.rnd JH [sE 3 1]),(.ext 1,.cells [.d (.int .i64 t.2.2)]),(.ext 2,.cells [.d (.int .u8 z2),.d (.str s3),.d (.str s4),.d (.list false 1 l5),.d (.int .u8 z6),.d (.str s7),.d (.list true 3 l8),.d (.int .i64 z9),.d (.str s10),.d (.list false 1 l11),.d (.list true 8 l12),.d (.list true 15 l13),.d (.list true 15 l14),.d (.list true 3 l15),.d (.int .i64 z16)])],224⟩)
    (fun t=>t.1<=n/\Dq t.1 z2 s3 s4 l5 z6 s7 l8 z9 s10 l11 l12 l13 l14 l15 z16 t.2.1 t.2.2=some (r1,r2,r3,r4,r5,r6,r7,r8,r9,r10,r11,r12,r13,r14,r15,r16)) (fun t=>t.1) (n,((0:Int),z1)) ⟨Nat.le_refl _,h⟩ (by cbv) ?_
  clear h
  rintro⟨m1,z17,z18⟩ ⟨hm1,h⟩
  replace hm1:m1<=n:=hm1
  obtain _ | m1:=m1
  ·replace h:Dq 0 z2 s3 s4 l5 z6 s7 l8 z9 s10 l11 l12 l13 l14 l15 z16 z17 z18=some (r1,r2,r3,r4,r5,r6,r7,r8,r9,r10,r11,r12,r13,r14,r15,r16):=h
   rw[Dq]at h
   cases h
  replace h:Dq (m1+1) z2 s3 s4 l5 z6 s7 l8 z9 s10 l11 l12 l13 l14 l15 z16 z17 z18=some (r1,r2,r3,r4,r5,r6,r7,r8,r9,r10,r11,r12,r13,r14,r15,r16):=h
  rw[Dq]at h
  try cbv
  refine AK 18 [0,1,15,16,17,18] [.ext 0,.ext 1,.ext 2] 256 (fun m b=>m<=m1/\D8 m z2 s3 s4 l5 z6 s7 l8 z9 s10 l11 l12 l13 l14 l15 z16 z17 z18 b=some (r1,r2,r3,r4,r5,r6,r7,r8,r9,r10,r11,r12,r13,r14,r15,r16)) ?_ ?_
  ·try cbv
   refine Bu (fun e=>?_) (fun e=>?_)
   ·replace h:=Aj e h
    clear e
    try cbv
    exact AA (m1,true) [0,1,15,16,17,18] [.ext 0,.ext 1,.ext 2] 256 ⟨by omega,h⟩ (by cbv)
   replace h:=Ak (Int.not_lt.2 e) h
   clear e
   try cbv
   exact AA (m1,false) [0,1,15,16,17,18] [.ext 0,.ext 1,.ext 2] 256 ⟨by omega,h⟩ (by cbv)
  clear h
  rintro⟨m2,b19⟩ ⟨hm2,h⟩
  try cbv
  replace hm2:m2<=m1:=hm2
  obtain _ | m2:=m2
  ·replace h:D8 0 z2 s3 s4 l5 z6 s7 l8 z9 s10 l11 l12 l13 l14 l15 z16 z17 z18 b19=some (r1,r2,r3,r4,r5,r6,r7,r8,r9,r10,r11,r12,r13,r14,r15,r16):=h
   rw[D8]at h
   cases h
  replace h:D8 (m2+1) z2 s3 s4 l5 z6 s7 l8 z9 s10 l11 l12 l13 l14 l15 z16 z17 z18 b19=some (r1,r2,r3,r4,r5,r6,r7,r8,r9,r10,r11,r12,r13,r14,r15,r16):=h
  rw[D8]at h
  try cbv
  refine AB ?_
  try cbv
  cases b19
  rotate_left
  ·replace h:=Bo h
   try cbv
   refine AB ?_
   try cbv
   refine AB ?_
   try cbv
   replace h:=BT h
   obtain⟨x20,⟨hx0,hx⟩,h⟩:=h
   refine⟨x20,hx0,hx,?_⟩
   clear hx0 hx
   replace h:=Dj h
   obtain⟨l21,rfl,h⟩:=h
   try cbv
   refine AB ?_
   try cbv
   replace h:=BL M h
   obtain⟨z22,hz,h⟩:=h
   refine⟨z22,hz,?_⟩
   clear hz
   try cbv
   refine Cs (T:=Nat×Int×Int) [0,1,15,16,17,21,22,23] [.ext 0,.ext 1,.ext 2] 448 (fun t=>⟨[(0,.v (.c (.yl (.ext 0)))),sE 1 2,(15,.v (.c (.tl false 1 ([.list true 15 l13,.list true 15 l14])))),sI 16 2,sI 17 z17,sT 21 15 l21,sI 22 z22,sI 23 t.2.1],[(.ext 0,.rnd JH [sE 3 1]),(.ext 1,.cells [.d (.int .i64 t.2.2)]),(.ext 2,.cells [.d (.int .u8 z2),.d (.str s3),.d (.str s4),.d (.list false 1 l5),.d (.int .u8 z6),.d (.str s7),.d (.list true 3 l8),.d (.int .i64 z9),.d (.str s10),.d (.list false 1 l11),.d (.list true 8 l12),.d (.list true 15 l13),.d (.list true 15 l14),.d (.list true 3 l15),.d (.int .i64 z16)])],448⟩)
     (fun t=>t.1<=m2/\D9 t.1 z2 s3 s4 l5 z6 s7 l8 z9 s10 l11 l12 l13 l14 l15 z16 z17 l21 z22 t.2.1 t.2.2=some (r1,r2,r3,r4,r5,r6,r7,r8,r9,r10,r11,r12,r13,r14,r15,r16)) (fun t=>t.1) (m2,((0:Int),z18)) ⟨Nat.le_refl _,h⟩ (by cbv) ?_
   clear h
   rintro⟨m3,z23,z24⟩ ⟨hm3,h⟩
   replace hm3:m3<=m2:=hm3
   obtain _ | m3:=m3
   ·replace h:D9 0 z2 s3 s4 l5 z6 s7 l8 z9 s10 l11 l12 l13 l14 l15 z16 z17 l21 z22 z23 z24=some (r1,r2,r3,r4,r5,r6,r7,r8,r9,r10,r11,r12,r13,r14,r15,r16):=h
    rw[D9]at h
    cases h
   replace h:D9 (m3+1) z2 s3 s4 l5 z6 s7 l8 z9 s10 l11 l12 l13 l14 l15 z16 z17 l21 z22 z23 z24=some (r1,r2,r3,r4,r5,r6,r7,r8,r9,r10,r11,r12,r13,r14,r15,r16):=h
   rw[D9]at h
   try cbv
   refine AK 24 [0,1,15,16,17,21,22,23,24] [.ext 0,.ext 1,.ext 2] 480 (fun m b=>m<=m3/\Eb m z2 s3 s4 l5 z6 s7 l8 z9 s10 l11 l12 l13 l14 l15 z16 z17 l21 z22 z23 z24 b=some (r1,r2,r3,r4,r5,r6,r7,r8,r9,r10,r11,r12,r13,r14,r15,r16)) ?_ ?_
   ·try cbv
    refine Bu (fun e=>?_) (fun e=>?_)
    ·replace h:=Aj e h
     clear e
     try cbv
     exact AA (m3,true) [0,1,15,16,17,21,22,23,24] [.ext 0,.ext 1,.ext 2] 480 ⟨by omega,h⟩ (by cbv)
    replace h:=Ak (Int.not_lt.2 e) h
    clear e
    try cbv
    exact AA (m3,false) [0,1,15,16,17,21,22,23,24] [.ext 0,.ext 1,.ext 2] 480 ⟨by omega,h⟩ (by cbv)
   clear h
   rintro⟨m4,b25⟩ ⟨hm4,h⟩
   try cbv
   replace hm4:m4<=m3:=hm4
   obtain _ | m4:=m4
   ·replace h:Eb 0 z2 s3 s4 l5 z6 s7 l8 z9 s10 l11 l12 l13 l14 l15 z16 z17 l21 z22 z23 z24 b25=some (r1,r2,r3,r4,r5,r6,r7,r8,r9,r10,r11,r12,r13,r14,r15,r16):=h
    rw[Eb]at h
    cases h
   replace h:Eb (m4+1) z2 s3 s4 l5 z6 s7 l8 z9 s10 l11 l12 l13 l14 l15 z16 z17 l21 z22 z23 z24 b25=some (r1,r2,r3,r4,r5,r6,r7,r8,r9,r10,r11,r12,r13,r14,r15,r16):=h
   rw[Eb]at h
   try cbv
   refine AB ?_
   try cbv
   cases b25
   ·replace h:=Bp h
    try cbv
    replace h:=Ac h
    obtain⟨z44,hz,h⟩:=h
    refine⟨z44,hz,?_⟩
    clear hz
    try cbv
    exact BP (m4,(z44,z24)) [0,1,15,16,17] [.ext 0,.ext 1,.ext 2] 224 ⟨by omega,h⟩ (Nat.lt_succ_of_le (by omega)) (by cbv)
   replace h:=Bo h
   try cbv
   refine AB ?_
   try cbv
   refine AB ?_
   try cbv
   replace h:=BT h
   obtain⟨x26,⟨hx0,hx⟩,h⟩:=h
   refine⟨x26,hx0,hx,?_⟩
   clear hx0 hx
   replace h:=DU h
   obtain⟨z27,s28,s29,l30,z31,s32,l33,z34,s35,l36,l37,l38,l39,l40,z41,rfl,h⟩:=h
   try cbv
   refine AB ?_
   try cbv
   replace h:=AU h
   obtain⟨z42,hr,h⟩:=h
   refine L7 hM hI [.ext 1] (sl0:=[(3,.v (.c (.ptr (.ext 0) 0)))]) rfl rfl rfl rfl ((ih _ (by omega)).1 hr) rfl rfl rfl (by simp) ⟨rfl,trivial⟩ ⟨trivial,trivial⟩ (by simp) ?_
   clear hr
   try cbv
   refine⟨false,rfl,?_⟩
   try cbv
   replace h:=Ac h
   obtain⟨z43,hz,h⟩:=h
   refine⟨z43,hz,?_⟩
   clear hz
   try cbv
   exact BP (m4,(z43,z42)) [0,1,15,16,17,21,22,23] [.ext 0,.ext 1,.ext 2] 448 ⟨by omega,h⟩ (Nat.lt_succ_of_le (by omega)) (by cbv)
  replace h:=Bp h
  try cbv
  refine AB ?_
  try cbv
  replace h:=BL M h
  obtain⟨z45,hz,h⟩:=h
  refine⟨z45,hz,?_⟩
  clear hz
  try cbv
  refine Cs (T:=Nat×Int×Int) [0,34,35,36] [.ext 0,.ext 1,.ext 2] 384 (fun t=>⟨[(0,.v (.c (.yl (.ext 0)))),sT 34 3 l15,sI 35 z45,sI 36 t.2.1],[(.ext 0,.rnd JH [sE 3 1]),(.ext 1,.cells [.d (.int .i64 t.2.2)]),(.ext 2,.cells [.d (.int .u8 z2),.d (.str s3),.d (.str s4),.d (.list false 1 l5),.d (.int .u8 z6),.d (.str s7),.d (.list true 3 l8),.d (.int .i64 z9),.d (.str s10),.d (.list false 1 l11),.d (.list true 8 l12),.d (.list true 15 l13),.d (.list true 15 l14),.d (.list true 3 l15),.d (.int .i64 z16)])],384⟩)
    (fun t=>t.1<=m2/\Dr t.1 z2 s3 s4 l5 z6 s7 l8 z9 s10 l11 l12 l13 l14 l15 z16 z45 t.2.1 t.2.2=some (r1,r2,r3,r4,r5,r6,r7,r8,r9,r10,r11,r12,r13,r14,r15,r16)) (fun t=>t.1) (m2,((0:Int),z18)) ⟨Nat.le_refl _,h⟩ (by cbv) ?_
  clear h
  rintro⟨m5,z46,z47⟩ ⟨hm5,h⟩
  replace hm5:m5<=m2:=hm5
  obtain _ | m5:=m5
  ·replace h:Dr 0 z2 s3 s4 l5 z6 s7 l8 z9 s10 l11 l12 l13 l14 l15 z16 z45 z46 z47=some (r1,r2,r3,r4,r5,r6,r7,r8,r9,r10,r11,r12,r13,r14,r15,r16):=h
   rw[Dr]at h
   cases h
  replace h:Dr (m5+1) z2 s3 s4 l5 z6 s7 l8 z9 s10 l11 l12 l13 l14 l15 z16 z45 z46 z47=some (r1,r2,r3,r4,r5,r6,r7,r8,r9,r10,r11,r12,r13,r14,r15,r16):=h
  rw[Dr]at h
  try cbv
  refine AK 37 [0,34,35,36,37] [.ext 0,.ext 1,.ext 2] 416 (fun m b=>m<=m5/\Ec m z2 s3 s4 l5 z6 s7 l8 z9 s10 l11 l12 l13 l14 l15 z16 z45 z46 z47 b=some (r1,r2,r3,r4,r5,r6,r7,r8,r9,r10,r11,r12,r13,r14,r15,r16)) ?_ ?_
  ·try cbv
   refine Bu (fun e=>?_) (fun e=>?_)
   ·replace h:=Aj e h
    clear e
    try cbv
    exact AA (m5,true) [0,34,35,36,37] [.ext 0,.ext 1,.ext 2] 416 ⟨by omega,h⟩ (by cbv)
   replace h:=Ak (Int.not_lt.2 e) h
   clear e
   try cbv
   exact AA (m5,false) [0,34,35,36,37] [.ext 0,.ext 1,.ext 2] 416 ⟨by omega,h⟩ (by cbv)
  clear h
  rintro⟨m6,b48⟩ ⟨hm6,h⟩
  try cbv
  replace hm6:m6<=m5:=hm6
  obtain _ | m6:=m6
  ·replace h:Ec 0 z2 s3 s4 l5 z6 s7 l8 z9 s10 l11 l12 l13 l14 l15 z16 z45 z46 z47 b48=some (r1,r2,r3,r4,r5,r6,r7,r8,r9,r10,r11,r12,r13,r14,r15,r16):=h
   rw[Ec]at h
   cases h
  replace h:Ec (m6+1) z2 s3 s4 l5 z6 s7 l8 z9 s10 l11 l12 l13 l14 l15 z16 z45 z46 z47 b48=some (r1,r2,r3,r4,r5,r6,r7,r8,r9,r10,r11,r12,r13,r14,r15,r16):=h
  rw[Ec]at h
  try cbv
  refine AB ?_
  try cbv
  cases b48
  ·replace h:=Bp h
   try cbv
   obtain⟨rfl,rfl,rfl,rfl,rfl,rfl,rfl,rfl,rfl,rfl,rfl,rfl,rfl,rfl,rfl,rfl⟩:=eO h
   refine AR ?_
   try cbv
   exact⟨[],rfl,rfl,⟨rfl,⟨rfl,⟨rfl,trivial⟩⟩⟩,trivial,trivial⟩
  replace h:=Bo h
  try cbv
  refine AB ?_
  try cbv
  refine AB ?_
  try cbv
  replace h:=BT h
  obtain⟨x49,⟨hx0,hx⟩,h⟩:=h
  refine⟨x49,hx0,hx,?_⟩
  clear hx0 hx
  replace h:=FF h
  obtain⟨s50,s51,l52,rfl,h⟩:=h
  try cbv
  refine AB ?_
  try cbv
  replace h:=BL M h
  obtain⟨z53,hz,h⟩:=h
  refine⟨z53,hz,?_⟩
  clear hz
  try cbv
  refine Cs (T:=Nat×Int×Int) [0,34,35,36,41,42,43] [.ext 0,.ext 1,.ext 2] 672 (fun t=>⟨[(0,.v (.c (.yl (.ext 0)))),sT 34 3 l15,sI 35 z45,sI 36 z46,sT 41 15 l52,sI 42 z53,sI 43 t.2.1],[(.ext 0,.rnd JH [sE 3 1]),(.ext 1,.cells [.d (.int .i64 t.2.2)]),(.ext 2,.cells [.d (.int .u8 z2),.d (.str s3),.d (.str s4),.d (.list false 1 l5),.d (.int .u8 z6),.d (.str s7),.d (.list true 3 l8),.d (.int .i64 z9),.d (.str s10),.d (.list false 1 l11),.d (.list true 8 l12),.d (.list true 15 l13),.d (.list true 15 l14),.d (.list true 3 l15),.d (.int .i64 z16)])],672⟩)
    (fun t=>t.1<=m6/\EA t.1 z2 s3 s4 l5 z6 s7 l8 z9 s10 l11 l12 l13 l14 l15 z16 z45 z46 l52 z53 t.2.1 t.2.2=some (r1,r2,r3,r4,r5,r6,r7,r8,r9,r10,r11,r12,r13,r14,r15,r16)) (fun t=>t.1) (m6,((0:Int),z47)) ⟨Nat.le_refl _,h⟩ (by cbv) ?_
  clear h
  rintro⟨m7,z54,z55⟩ ⟨hm7,h⟩
  replace hm7:m7<=m6:=hm7
  obtain _ | m7:=m7
  ·replace h:EA 0 z2 s3 s4 l5 z6 s7 l8 z9 s10 l11 l12 l13 l14 l15 z16 z45 z46 l52 z53 z54 z55=some (r1,r2,r3,r4,r5,r6,r7,r8,r9,r10,r11,r12,r13,r14,r15,r16):=h
   rw[EA]at h
   cases h
  replace h:EA (m7+1) z2 s3 s4 l5 z6 s7 l8 z9 s10 l11 l12 l13 l14 l15 z16 z45 z46 l52 z53 z54 z55=some (r1,r2,r3,r4,r5,r6,r7,r8,r9,r10,r11,r12,r13,r14,r15,r16):=h
  rw[EA]at h
  try cbv
  refine AK 44 [0,34,35,36,41,42,43,44] [.ext 0,.ext 1,.ext 2] 704 (fun m b=>m<=m7/\Ed m z2 s3 s4 l5 z6 s7 l8 z9 s10 l11 l12 l13 l14 l15 z16 z45 z46 l52 z53 z54 z55 b=some (r1,r2,r3,r4,r5,r6,r7,r8,r9,r10,r11,r12,r13,r14,r15,r16)) ?_ ?_
  ·try cbv
   refine Bu (fun e=>?_) (fun e=>?_)
   ·replace h:=Aj e h
    clear e
    try cbv
    exact AA (m7,true) [0,34,35,36,41,42,43,44] [.ext 0,.ext 1,.ext 2] 704 ⟨by omega,h⟩ (by cbv)
   replace h:=Ak (Int.not_lt.2 e) h
   clear e
   try cbv
   exact AA (m7,false) [0,34,35,36,41,42,43,44] [.ext 0,.ext 1,.ext 2] 704 ⟨by omega,h⟩ (by cbv)
  clear h
  rintro⟨m8,b56⟩ ⟨hm8,h⟩
  try cbv
  replace hm8:m8<=m7:=hm8
  obtain _ | m8:=m8
  ·replace h:Ed 0 z2 s3 s4 l5 z6 s7 l8 z9 s10 l11 l12 l13 l14 l15 z16 z45 z46 l52 z53 z54 z55 b56=some (r1,r2,r3,r4,r5,r6,r7,r8,r9,r10,r11,r12,r13,r14,r15,r16):=h
   rw[Ed]at h
   cases h
  replace h:Ed (m8+1) z2 s3 s4 l5 z6 s7 l8 z9 s10 l11 l12 l13 l14 l15 z16 z45 z46 l52 z53 z54 z55 b56=some (r1,r2,r3,r4,r5,r6,r7,r8,r9,r10,r11,r12,r13,r14,r15,r16):=h
  rw[Ed]at h
  try cbv
  refine AB ?_
  try cbv
  cases b56
  ·replace h:=Bp h
   try cbv
   replace h:=Ac h
   obtain⟨z75,hz,h⟩:=h
   refine⟨z75,hz,?_⟩
   clear hz
   try cbv
   exact BP (m8,(z75,z55)) [0,34,35,36] [.ext 0,.ext 1,.ext 2] 384 ⟨by omega,h⟩ (Nat.lt_succ_of_le (by omega)) (by cbv)
  replace h:=Bo h
  try cbv
  refine AB ?_
  try cbv
  refine AB ?_
  try cbv
  replace h:=BT h
  obtain⟨x57,⟨hx0,hx⟩,h⟩:=h
  refine⟨x57,hx0,hx,?_⟩
  clear hx0 hx
  replace h:=DU h
  obtain⟨z58,s59,s60,l61,z62,s63,l64,z65,s66,l67,l68,l69,l70,l71,z72,rfl,h⟩:=h
  try cbv
  refine AB ?_
  try cbv
  replace h:=AU h
  obtain⟨z73,hr,h⟩:=h
  refine L7 hM hI [.ext 1] (sl0:=[(3,.v (.c (.ptr (.ext 0) 0)))]) rfl rfl rfl rfl ((ih _ (by omega)).1 hr) rfl rfl rfl (by simp) ⟨rfl,trivial⟩ ⟨trivial,trivial⟩ (by simp) ?_
  clear hr
  try cbv
  refine⟨false,rfl,?_⟩
  try cbv
  replace h:=Ac h
  obtain⟨z74,hz,h⟩:=h
  refine⟨z74,hz,?_⟩
  clear hz
  try cbv
  exact BP (m8,(z74,z73)) [0,34,35,36,41,42,43] [.ext 0,.ext 1,.ext 2] 672 ⟨by omega,h⟩ (Nat.lt_succ_of_le (by omega)) (by cbv)
 intro z1 s2 s3 l4 z5 s6 l7 z8 s9 l10 l11 l12 l13 l14 z15 r1 h
 rw[TH]at h
 refine Ah.of BI Ao Fi Tryz.func88 rfl (by kernel_rfl) rfl rfl rfl (fun M hM hI=>?_)
 try cbv
 refine AB ?_
 try cbv
 refine AB ?_
 try cbv
 refine Cu (T:=Nat×Int) (fun t=>⟨[sL 1 0,sI 2 0,sL 3 64],[(.loc 0,.cells [.d (.int .u8 z1),.d (.str s2),.d (.str s3),.d (.list false 1 l4),.d (.int .u8 z5),.d (.str s6),.d (.list true 3 l7),.d (.int .i64 z8),.d (.str s9),.d (.list false 1 l10),.d (.list true 8 l11),.d (.list true 15 l12),.d (.list true 15 l13),.d (.list true 3 l14),.d (.int .i64 z15)]),(.loc 64,.cells [.d (.int .i64 t.2)])],352⟩) (fun t=>t.1<=n/\HU t.1 z1 s2 s3 l4 z5 s6 l7 z8 s9 l10 l11 l12 l13 l14 z15 t.2=some r1) ?_ ?_
 ·try cbv
  refine AK 9 [1,2,3,9] [.loc 0,.loc 64] 224 (fun m b=>m<=n/\HT m z1 s2 s3 l4 z5 s6 l7 z8 s9 l10 l11 l12 l13 l14 z15 b=some r1) ?_ ?_
  ·try cbv
   refine Av (fun e=>?_) (fun e=>?_)
   ·replace h:=Aj e h
    clear e
    try cbv
    exact AA (n,true) [1,2,3,9] [.loc 0,.loc 64] 224 ⟨by omega,h⟩ (by cbv)
   replace h:=Ak e h
   clear e
   try cbv
   exact AA (n,false) [1,2,3,9] [.loc 0,.loc 64] 224 ⟨by omega,h⟩ (by cbv)
  clear h
  rintro⟨m1,b16⟩ ⟨hm1,h⟩
  try cbv
  replace hm1:m1<=n:=hm1
  obtain _ | m1:=m1
  ·replace h:HT 0 z1 s2 s3 l4 z5 s6 l7 z8 s9 l10 l11 l12 l13 l14 z15 b16=some r1:=h
   rw[HT]at h
   cases h
  replace h:HT (m1+1) z1 s2 s3 l4 z5 s6 l7 z8 s9 l10 l11 l12 l13 l14 z15 b16=some r1:=h
  rw[HT]at h
  try cbv
  cases b16
  ·replace h:=Bp h
   try cbv
   exact AA (m1,(0:Int)) [1,2,3] [.loc 0,.loc 64] 352 ⟨by omega,h⟩ (by cbv)
  replace h:=Bo h
  try cbv
  replace h:=AU h
  obtain⟨z17,hr,h⟩:=h
  refine AZ rfl rfl ?_
  try cbv
  refine AQ hM hI (T86 _ hr) rfl ?_
  clear hr
  try cbv
  exact AA (m1,z17) [1,2,3] [.loc 0,.loc 64] 352 ⟨by omega,h⟩ (by cbv)
 clear h
 rintro⟨m2,z18⟩ ⟨hm2,h⟩
 replace hm2:m2<=n:=hm2
 obtain _ | m2:=m2
 ·replace h:HU 0 z1 s2 s3 l4 z5 s6 l7 z8 s9 l10 l11 l12 l13 l14 z15 z18=some r1:=h
  rw[HU]at h
  cases h
 replace h:HU (m2+1) z1 s2 s3 l4 z5 s6 l7 z8 s9 l10 l11 l12 l13 l14 z15 z18=some r1:=h
 rw[HU]at h
 try cbv
 refine AB ?_
 try cbv
 refine AB ?_
 try cbv
 replace h:=BL M h
 obtain⟨z19,hz,h⟩:=h
 refine⟨z19,hz,?_⟩
 clear hz
 try cbv
 refine Cs (T:=Nat×Int×Int) [1,2,3,14,15,16] [.loc 0,.loc 64] 480 (fun t=>⟨[sL 1 0,sI 2 0,sL 3 64,sT 14 8 l11,sI 15 z19,sI 16 t.2.1],[(.loc 0,.cells [.d (.int .u8 z1),.d (.str s2),.d (.str s3),.d (.list false 1 l4),.d (.int .u8 z5),.d (.str s6),.d (.list true 3 l7),.d (.int .i64 z8),.d (.str s9),.d (.list false 1 l10),.d (.list true 8 l11),.d (.list true 15 l12),.d (.list true 15 l13),.d (.list true 3 l14),.d (.int .i64 z15)]),(.loc 64,.cells [.d (.int .i64 t.2.2)])],480⟩)
   (fun t=>t.1<=m2/\GS t.1 z1 s2 s3 l4 z5 s6 l7 z8 s9 l10 l11 l12 l13 l14 z15 z19 t.2.1 t.2.2=some r1) (fun t=>t.1) (m2,((0:Int),z18)) ⟨Nat.le_refl _,h⟩ (by cbv) ?_
 clear h
 rintro⟨m3,z20,z21⟩ ⟨hm3,h⟩
 replace hm3:m3<=m2:=hm3
 obtain _ | m3:=m3
 ·replace h:GS 0 z1 s2 s3 l4 z5 s6 l7 z8 s9 l10 l11 l12 l13 l14 z15 z19 z20 z21=some r1:=h
  rw[GS]at h
  cases h
 replace h:GS (m3+1) z1 s2 s3 l4 z5 s6 l7 z8 s9 l10 l11 l12 l13 l14 z15 z19 z20 z21=some r1:=h
 rw[GS]at h
 try cbv
 refine AK 17 [1,2,3,14,15,16,17] [.loc 0,.loc 64] 512 (fun m b=>m<=m3/\HV m z1 s2 s3 l4 z5 s6 l7 z8 s9 l10 l11 l12 l13 l14 z15 z19 z20 z21 b=some r1) ?_ ?_
 ·try cbv
  refine Bu (fun e=>?_) (fun e=>?_)
  ·replace h:=Aj e h
   clear e
   try cbv
   exact AA (m3,true) [1,2,3,14,15,16,17] [.loc 0,.loc 64] 512 ⟨by omega,h⟩ (by cbv)
  replace h:=Ak (Int.not_lt.2 e) h
  clear e
  try cbv
  exact AA (m3,false) [1,2,3,14,15,16,17] [.loc 0,.loc 64] 512 ⟨by omega,h⟩ (by cbv)
 clear h
 rintro⟨m4,b22⟩ ⟨hm4,h⟩
 try cbv
 replace hm4:m4<=m3:=hm4
 obtain _ | m4:=m4
 ·replace h:HV 0 z1 s2 s3 l4 z5 s6 l7 z8 s9 l10 l11 l12 l13 l14 z15 z19 z20 z21 b22=some r1:=h
  rw[HV]at h
  cases h
 replace h:HV (m4+1) z1 s2 s3 l4 z5 s6 l7 z8 s9 l10 l11 l12 l13 l14 z15 z19 z20 z21 b22=some r1:=h
 rw[HV]at h
 try cbv
 refine AB ?_
 try cbv
 cases b22
 ·replace h:=Bp h
  try cbv
  refine AB ?_
  try cbv
  refine AB ?_
  try cbv
  replace h:=Mw h
  obtain⟨z35,s36,s37,l38,z39,s40,l41,z42,s43,l44,l45,l46,l47,l48,z49,hr,h⟩:=h
  refine AZ rfl rfl ?_
  try cbv
  refine Al hM hI [] (zC _ hr) rfl (by simp) trivial trivial (by simp) ?_
  clear hr
  try cbv
  replace h:=Mx h
  obtain⟨z50,z51,s52,s53,l54,z55,s56,l57,z58,s59,l60,l61,l62,l63,l64,z65,hr,h⟩:=h
  refine M1 hM hI [.loc 576,.loc 64,.loc 544] [(3,.v (.c (.ptr (.loc 64) 0)))] rfl ⟨rfl,trivial⟩ ((ih _ (by omega)).2.1 hr) rfl (by simp) ⟨rfl,⟨rfl,⟨rfl,trivial⟩⟩⟩ ⟨trivial,⟨trivial,⟨trivial,trivial⟩⟩⟩ (by simp) ?_
  clear hr
  try cbv
  refine AB ?_
  try cbv
  replace h:=Ac h
  obtain⟨z66,hz,h⟩:=h
  refine⟨z66,hz,?_⟩
  clear hz
  try cbv
  obtain rfl:=Option.some.inj h
  refine AR ?_
  try cbv
  exact⟨[],by trivial⟩
 replace h:=Bo h
 try cbv
 refine AB ?_
 try cbv
 refine AB ?_
 try cbv
 replace h:=BT h
 obtain⟨x23,⟨hx0,hx⟩,h⟩:=h
 refine⟨x23,hx0,hx,?_⟩
 clear hx0 hx
 replace h:=FE h
 obtain⟨z24,z25,s26,s27,s28,l29,l30,z31,rfl,h⟩:=h
 try cbv
 replace h:=AU h
 obtain⟨z32,hr,h⟩:=h
 first | refine .inr (.inl ⟨[],?_⟩) | refine .inl ⟨[],?_⟩
 try cbv
 refine AQ hM hI (T87 _ hr) rfl ?_
 clear hr
 try cbv
 replace h:=Ac h
 obtain⟨z33,hz,h⟩:=h
 refine⟨z33,hz,?_⟩
 clear hz
 try cbv
 refine drawn ?_ ?_
 ·show _=true
  kernel_rfl
 try cbv
 replace h:=Ac h
 obtain⟨z34,hz,h⟩:=h
 refine⟨z34,hz,?_⟩
 clear hz
 try cbv
 exact BP (m4,(z34,z33)) [1,2,3,14,15,16] [.loc 0,.loc 64] 480 ⟨by omega,h⟩ (Nat.lt_succ_of_le (by omega)) (by cbv)
theorem T88 (n:Nat):∀⦃z1 s2 s3 l4 z5 s6 l7 z8 s9 l10 l11 l12 l13 l14 z15 r1⦄,TH n z1 s2 s3 l4 z5 s6 l7 z8 s9 l10 l11 l12 l13 l14 z15=some r1->
  Ah Tryz.prog inv 88 [.d (.agg [.int .u8 z1,.str s2,.str s3,.list false 1 l4,.int .u8 z5,.str s6,.list true 3 l7,.int .i64 z8,.str s9,.list false 1 l10,.list true 8 l11,.list true 15 l12,.list true 15 l13,.list true 3 l14,.int .i64 z15])] [] (.v (.d (.int .i64 r1))) [] []:=(pQ n).2.2
noncomputable def c88:BQ:=⟨88,[.agg [.y,.str,.str,.f 1,.y,.str,.q 3,.z,.str,.f 1,.q 8,.q 15,.q 15,.q 3,.z]],[],[⟨.one (.z),[],[]⟩],Int,inferInstance,TH⟩
noncomputable def k88:Kz:=⟨c88,fun n=>Cm fun z1 s2 s3 l4 z5 s6 l7 z8 s9 l10 l11 l12 l13 l14 z15 p h w1 w2 w4 w3 l1 l2 e1 e2 e5 e3 xs e4=>by cases e1;cases e2;cases e4;cases e5;cases e3;exact T88 n h⟩
mutual
def IJ:Nat->LD->Int->Int->Int->Option (Int)
 | 0,_,_,_,_=>none
 | n+1,l7,z32,z33,z34=>
  (if z34<z32 then Lk n l7 z32 z33 z34 true else Lk n l7 z32 z33 z34 false)
def Lk:Nat->LD->Int->Int->Int->Bool->Option (Int)
 | 0,_,_,_,_,_=>none
 | n+1,l7,z32,z33,z34,b35=>
  (if b35=true then Ap l7 z34 fun x36=>BJ x36 fun z37 s38 s39 l40 z41 s42 l43 z44 s45 l46 l47 l48 l49 l50 z51=>bO1 (TH n z37 s38 s39 l40 z41 s42 l43 z44 s45 l46 l47 l48 l49 l50 z51) fun z52=>AJ (if z52>z33 then z52 else z33) fun z53=>AJ (IntKind.wrap .i64 (z34+1)) fun z54=>IJ n l7 z32 z53 z54 else AJ (IntKind.wrap .i64 (z33+1)) fun z55=>some z55)
end
mutual
def IK:Nat->LD->LD->Int->Int->Int->Option (Int)
 | 0,_,_,_,_,_=>none
 | n+1,l3,l7,z20,z21,z22=>
  (if z22<z20 then Ll n l3 l7 z20 z21 z22 true else Ll n l3 l7 z20 z21 z22 false)
def Ll:Nat->LD->LD->Int->Int->Int->Bool->Option (Int)
 | 0,_,_,_,_,_,_=>none
 | n+1,l3,l7,z20,z21,z22,b23=>
  (if b23=true then Ap l3 z22 fun x24=>Bv x24 fun s25 z26 s27 l28=>bO1 (V8 n z26 s27 l28) fun z29=>AJ (if z29>z21 then z29 else z21) fun z30=>AJ (IntKind.wrap .i64 (z22+1)) fun z31=>IK n l3 l7 z20 z30 z31 else AE l7 fun z32=>IJ n l7 z32 z21 (0:Int))
end
def V9 (n:Nat) (z1:Int) (s2:BA) (l3:LD) (z4:Int) (s5:BA) (l6:LD) (l7:LD) (z8:Int) (z9:Int) (s10:BA) (s11:BA) (s12:BA) (l13:LD) (l14:LD) (z15:Int) (z16:Int):Option (Int):=
 bO1 (V8 n z4 s5 l6) fun z17=>bO1 (T2 n z8 z9 s10 s11 s12 l13 l14 z15) fun z18=>AJ (if z18>z17 then z18 else z17) fun z19=>AE l3 fun z20=>IK n l3 l7 z20 z19 (0:Int)
noncomputable def X39:BX:=⟨39,Tryz.f39,[.agg [.y,.str,.q 4,.y,.str,.q 3,.q 15,.y,.z,.str,.str,.str,.f 1,.q 8,.z,.z]],[],⟨.one (.z),[],[]⟩,Int,inferInstance,V9,[⟨58,[1,2,3,16,17,18],[.loc 0],448,[.p (.loc 0) 0,.k 0,.z,.q 4,.z,.z],[[.y,.str,.q 4,.y,.str,.q 3,.q 15,.y,.z,.str,.str,.str,.f 1,.q 8,.z,.z]],fun n z21 l3 z20 z22 _ _ _ _ _ _ l7 _ _ _ _ _ _ _ _ _=>IK n l3 l7 z20 z21 z22⟩,
 ⟨233,[1,2,3,16,17,18,19],[.loc 0],480,[.p (.loc 0) 0,.k 0,.z,.q 4,.z,.z,.b],[[.y,.str,.q 4,.y,.str,.q 3,.q 15,.y,.z,.str,.str,.str,.f 1,.q 8,.z,.z]],fun n z21 l3 z20 z22 b23 _ _ _ _ _ _ l7 _ _ _ _ _ _ _ _ _=>Ll n l3 l7 z20 z21 z22 b23⟩,
 ⟨122,[2,3,29,30,31],[],608,[.k 0,.z,.q 15,.z,.z],[],fun n z33 l7 z32 z34=>IJ n l7 z32 z33 z34⟩,
 ⟨489,[2,3,29,30,31,32],[],640,[.k 0,.z,.q 15,.z,.z,.b],[],fun n z33 l7 z32 z34 b35=>Lk n l7 z32 z33 z34 b35⟩]⟩
noncomputable def k39:Kz:=sg X39 [yZ,zB,k88] Tryz.func39 (by kernel_rfl) (by kernel_rfl) (by kernel_rfl)
mutual
def Pd:Nat->LD->Int->Int->Int->Option (Int)
 | 0,_,_,_,_=>none
 | n+1,l1,z2,z3,z4=>
  (if z4<z2 then TJ n l1 z2 z3 z4 true else TJ n l1 z2 z3 z4 false)
def TJ:Nat->LD->Int->Int->Int->Bool->Option (Int)
 | 0,_,_,_,_,_=>none
 | n+1,l1,z2,z3,z4,b5=>
  (if b5=true then Ap l1 z4 fun x6=>BU x6 fun z7 s8 l9 z10 s11 l12 l13 z14 z15 s16 s17 s18 l19 l20 z21 z22=>bO1 (V9 n z7 s8 l9 z10 s11 l12 l13 z14 z15 s16 s17 s18 l19 l20 z21 z22) fun z23=>AJ (if z23>z3 then z23 else z3) fun z24=>AJ (IntKind.wrap .i64 (z4+1)) fun z25=>Pd n l1 z2 z24 z25 else AJ (IntKind.wrap .i64 (z3+1)) fun z26=>some z26)
end
def Z9 (n:Nat) (l1:LD):Option (Int):=
 AE l1 fun z2=>Pd n l1 z2 (0:Int) (0:Int)
noncomputable def sC:BX:=⟨12,Tryz.f12,[.agg [.q 16]],[],⟨.one (.z),[],[]⟩,Int,inferInstance,Z9,[⟨58,[2,3,7,8,9],[],224,[.k 0,.z,.q 16,.z,.z],[],fun n z3 l1 z2 z4=>Pd n l1 z2 z3 z4⟩,
 ⟨233,[2,3,7,8,9,10],[],256,[.k 0,.z,.q 16,.z,.z,.b],[],fun n z3 l1 z2 z4 b5=>TJ n l1 z2 z3 z4 b5⟩]⟩
noncomputable def zD:Kz:=sg sC [k39] Tryz.func12 (by kernel_rfl) (by kernel_rfl) (by kernel_rfl)
theorem zE (n:Nat):∀⦃l1 r1⦄,Z9 n l1=some r1->
  Ah Tryz.prog inv 12 [.d (.agg [.list true 16 l1])] [] (.v (.d (.int .i64 r1))) [] []:=fun l1 r1 h=>zD.ok n [.L l1] _ h _ _ _ _ _ _ rfl rfl rfl rfl _ rfl
mutual
def KE:Nat->LD->Int->Int->Int->Option (Int)
 | 0,_,_,_,_=>none
 | n+1,l7,z9,z10,z11=>
  (if z11<z9 then Lm n l7 z9 z10 z11 true else Lm n l7 z9 z10 z11 false)
def Lm:Nat->LD->Int->Int->Int->Bool->Option (Int)
 | 0,_,_,_,_,_=>none
 | n+1,l7,z9,z10,z11,b12=>
  (if b12=true then Ap l7 z11 fun x13=>BD x13 fun z14 z15 s16 s17 s18 l19 l20 z21=>bO1 (T3 n z14 z15 s16 s17 s18 l19 l20 z21) fun z22=>AJ (IntKind.wrap .i64 (z10+z22)) fun z23=>AJ (IntKind.wrap .i64 (z11+1)) fun z24=>KE n l7 z9 z23 z24 else some z10)
def T3:Nat->Int->Int->BA->BA->BA->LD->LD->Int->Option (Int)
 | 0,_,_,_,_,_,_,_,_=>none
 | n+1,z1,z2,s3,s4,s5,l6,l7,z8=>
  AE l7 fun z9=>KE n l7 z9 (1:Int) (0:Int)
end
noncomputable def zF:BX:=⟨44,Tryz.f44,[.agg [.y,.z,.str,.str,.str,.f 1,.q 8,.z]],[],⟨.one (.z),[],[]⟩,Int,inferInstance,T3,[⟨58,[2,3,7,8,9],[],224,[.k 0,.z,.q 8,.z,.z],[],fun n z10 l7 z9 z11=>KE n l7 z9 z10 z11⟩,
 ⟨233,[2,3,7,8,9,10],[],256,[.k 0,.z,.q 8,.z,.z,.b],[],fun n z10 l7 z9 z11 b12=>Lm n l7 z9 z10 z11 b12⟩]⟩
theorem K44:Cv Tryz.prog inv (OG [zF]):=gr [] ⟨⟨Tryz.func44,by kernel_rfl,by kernel_rfl,by kernel_rfl⟩,trivial⟩
noncomputable def zG:Kz:=⟨zF.c,K44.1⟩
theorem T44 (n:Nat):∀⦃z1 z2 s3 s4 s5 l6 l7 z8 r1⦄,T3 n z1 z2 s3 s4 s5 l6 l7 z8=some r1->
  Ah Tryz.prog inv 44 [.d (.agg [.int .u8 z1,.int .i64 z2,.str s3,.str s4,.str s5,.list false 1 l6,.list true 8 l7,.int .i64 z8])] [] (.v (.d (.int .i64 r1))) [] []:=fun z1 z2 s3 s4 s5 l6 l7 z8 r1 h=>zG.ok n [.I z1,.I z2,.S s3,.S s4,.S s5,.L l6,.L l7,.I z8] _ h _ _ _ _ _ _ rfl rfl rfl rfl _ rfl
mutual
def I3:Nat->Int->BA->BA->LD->Int->BA->LD->Int->BA->LD->LD->LD->LD->LD->Int->Int->Option (Int)
 | 0,_,_,_,_,_,_,_,_,_,_,_,_,_,_,_,_=>none
 | n+1,z1,s2,s3,l4,z5,s6,l7,z8,s9,l10,l11,l12,l13,l14,z15,z16=>
  bO1 (TK n z1 s2 s3 l4 z5 s6 l7 z8 s9 l10 l11 l12 l13 l14 z15) fun z17=>AJ (IntKind.wrap .i64 (z16+z17)) fun z18=>some z18
def B1:Nat->Int->BA->BA->LD->Int->BA->LD->Int->BA->LD->LD->LD->LD->LD->Int->Int->Int->Option (Int×Int×BA×BA×LD×Int×BA×LD×Int×BA×LD×LD×LD×LD×LD×Int)
 | 0,_,_,_,_,_,_,_,_,_,_,_,_,_,_,_,_,_=>none
 | n+1,z2,s3,s4,l5,z6,s7,l8,z9,s10,l11,l12,l13,l14,l15,z16,z17,z18=>
  (if z17<(2:Int)then CK n z2 s3 s4 l5 z6 s7 l8 z9 s10 l11 l12 l13 l14 l15 z16 z17 z18 true else CK n z2 s3 s4 l5 z6 s7 l8 z9 s10 l11 l12 l13 l14 l15 z16 z17 z18 false)
def CK:Nat->Int->BA->BA->LD->Int->BA->LD->Int->BA->LD->LD->LD->LD->LD->Int->Int->Int->Bool->Option (Int×Int×BA×BA×LD×Int×BA×LD×Int×BA×LD×LD×LD×LD×LD×Int)
 | 0,_,_,_,_,_,_,_,_,_,_,_,_,_,_,_,_,_,_=>none
 | n+1,z2,s3,s4,l5,z6,s7,l8,z9,s10,l11,l12,l13,l14,l15,z16,z17,z18,b19=>
  (if b19=true then Ap ([.list true 15 l13,.list true 15 l14]) z17 fun x20=>Bd x20 fun l21=>AE l21 fun z22=>CL n z2 s3 s4 l5 z6 s7 l8 z9 s10 l11 l12 l13 l14 l15 z16 z17 l21 z22 (0:Int) z18 else AE l15 fun z45=>CE n z2 s3 s4 l5 z6 s7 l8 z9 s10 l11 l12 l13 l14 l15 z16 z45 (0:Int) z18)
def CL:Nat->Int->BA->BA->LD->Int->BA->LD->Int->BA->LD->LD->LD->LD->LD->Int->Int->LD->Int->Int->Int->Option (Int×Int×BA×BA×LD×Int×BA×LD×Int×BA×LD×LD×LD×LD×LD×Int)
 | 0,_,_,_,_,_,_,_,_,_,_,_,_,_,_,_,_,_,_,_,_=>none
 | n+1,z2,s3,s4,l5,z6,s7,l8,z9,s10,l11,l12,l13,l14,l15,z16,z17,l21,z22,z23,z24=>
  (if z23<z22 then CU n z2 s3 s4 l5 z6 s7 l8 z9 s10 l11 l12 l13 l14 l15 z16 z17 l21 z22 z23 z24 true else CU n z2 s3 s4 l5 z6 s7 l8 z9 s10 l11 l12 l13 l14 l15 z16 z17 l21 z22 z23 z24 false)
def CU:Nat->Int->BA->BA->LD->Int->BA->LD->Int->BA->LD->LD->LD->LD->LD->Int->Int->LD->Int->Int->Int->Bool->Option (Int×Int×BA×BA×LD×Int×BA×LD×Int×BA×LD×LD×LD×LD×LD×Int)
 | 0,_,_,_,_,_,_,_,_,_,_,_,_,_,_,_,_,_,_,_,_,_=>none
 | n+1,z2,s3,s4,l5,z6,s7,l8,z9,s10,l11,l12,l13,l14,l15,z16,z17,l21,z22,z23,z24,b25=>
  (if b25=true then Ap l21 z23 fun x26=>BJ x26 fun z27 s28 s29 l30 z31 s32 l33 z34 s35 l36 l37 l38 l39 l40 z41=>bO1 (I3 n z27 s28 s29 l30 z31 s32 l33 z34 s35 l36 l37 l38 l39 l40 z41 z24) fun z42=>AJ (IntKind.wrap .i64 (z23+1)) fun z43=>CL n z2 s3 s4 l5 z6 s7 l8 z9 s10 l11 l12 l13 l14 l15 z16 z17 l21 z22 z43 z42 else AJ (IntKind.wrap .i64 (z17+1)) fun z44=>B1 n z2 s3 s4 l5 z6 s7 l8 z9 s10 l11 l12 l13 l14 l15 z16 z44 z24)
def CE:Nat->Int->BA->BA->LD->Int->BA->LD->Int->BA->LD->LD->LD->LD->LD->Int->Int->Int->Int->Option (Int×Int×BA×BA×LD×Int×BA×LD×Int×BA×LD×LD×LD×LD×LD×Int)
 | 0,_,_,_,_,_,_,_,_,_,_,_,_,_,_,_,_,_,_=>none
 | n+1,z2,s3,s4,l5,z6,s7,l8,z9,s10,l11,l12,l13,l14,l15,z16,z45,z46,z47=>
  (if z46<z45 then CW n z2 s3 s4 l5 z6 s7 l8 z9 s10 l11 l12 l13 l14 l15 z16 z45 z46 z47 true else CW n z2 s3 s4 l5 z6 s7 l8 z9 s10 l11 l12 l13 l14 l15 z16 z45 z46 z47 false)
def CW:Nat->Int->BA->BA->LD->Int->BA->LD->Int->BA->LD->LD->LD->LD->LD->Int->Int->Int->Int->Bool->Option (Int×Int×BA×BA×LD×Int×BA×LD×Int×BA×LD×LD×LD×LD×LD×Int)
 | 0,_,_,_,_,_,_,_,_,_,_,_,_,_,_,_,_,_,_,_=>none
 | n+1,z2,s3,s4,l5,z6,s7,l8,z9,s10,l11,l12,l13,l14,l15,z16,z45,z46,z47,b48=>
  (if b48=true then Ap l15 z46 fun x49=>Bf x49 fun s50 s51 l52=>AE l52 fun z53=>CM n z2 s3 s4 l5 z6 s7 l8 z9 s10 l11 l12 l13 l14 l15 z16 z45 z46 l52 z53 (0:Int) z47 else some (z47,z2,s3,s4,l5,z6,s7,l8,z9,s10,l11,l12,l13,l14,l15,z16))
def CM:Nat->Int->BA->BA->LD->Int->BA->LD->Int->BA->LD->LD->LD->LD->LD->Int->Int->Int->LD->Int->Int->Int->Option (Int×Int×BA×BA×LD×Int×BA×LD×Int×BA×LD×LD×LD×LD×LD×Int)
 | 0,_,_,_,_,_,_,_,_,_,_,_,_,_,_,_,_,_,_,_,_,_=>none
 | n+1,z2,s3,s4,l5,z6,s7,l8,z9,s10,l11,l12,l13,l14,l15,z16,z45,z46,l52,z53,z54,z55=>
  (if z54<z53 then CX n z2 s3 s4 l5 z6 s7 l8 z9 s10 l11 l12 l13 l14 l15 z16 z45 z46 l52 z53 z54 z55 true else CX n z2 s3 s4 l5 z6 s7 l8 z9 s10 l11 l12 l13 l14 l15 z16 z45 z46 l52 z53 z54 z55 false)
def CX:Nat->Int->BA->BA->LD->Int->BA->LD->Int->BA->LD->LD->LD->LD->LD->Int->Int->Int->LD->Int->Int->Int->Bool->Option (Int×Int×BA×BA×LD×Int×BA×LD×Int×BA×LD×LD×LD×LD×LD×Int)
 | 0,_,_,_,_,_,_,_,_,_,_,_,_,_,_,_,_,_,_,_,_,_,_=>none
 | n+1,z2,s3,s4,l5,z6,s7,l8,z9,s10,l11,l12,l13,l14,l15,z16,z45,z46,l52,z53,z54,z55,b56=>
  (if b56=true then Ap l52 z54 fun x57=>BJ x57 fun z58 s59 s60 l61 z62 s63 l64 z65 s66 l67 l68 l69 l70 l71 z72=>bO1 (I3 n z58 s59 s60 l61 z62 s63 l64 z65 s66 l67 l68 l69 l70 l71 z72 z55) fun z73=>AJ (IntKind.wrap .i64 (z54+1)) fun z74=>CM n z2 s3 s4 l5 z6 s7 l8 z9 s10 l11 l12 l13 l14 l15 z16 z45 z46 l52 z53 z74 z73 else AJ (IntKind.wrap .i64 (z46+1)) fun z75=>CE n z2 s3 s4 l5 z6 s7 l8 z9 s10 l11 l12 l13 l14 l15 z16 z45 z75 z55)
def IL:Nat->Int->Int->BA->BA->LD->Int->BA->LD->Int->BA->LD->LD->LD->LD->LD->Int->Option (Int×Int×BA×BA×LD×Int×BA×LD×Int×BA×LD×LD×LD×LD×LD×Int)
 | 0,_,_,_,_,_,_,_,_,_,_,_,_,_,_,_,_=>none
 | n+1,z1,z2,s3,s4,l5,z6,s7,l8,z9,s10,l11,l12,l13,l14,l15,z16=>
  B1 n z2 s3 s4 l5 z6 s7 l8 z9 s10 l11 l12 l13 l14 l15 z16 (0:Int) z1
def GU:Nat->Int->BA->BA->LD->Int->BA->LD->Int->BA->LD->LD->LD->LD->LD->Int->Int->Int->Int->Option (Int)
 | 0,_,_,_,_,_,_,_,_,_,_,_,_,_,_,_,_,_,_=>none
 | n+1,z1,s2,s3,l4,z5,s6,l7,z8,s9,l10,l11,l12,l13,l14,z15,z16,z17,z18=>
  (if z17<z16 then HW n z1 s2 s3 l4 z5 s6 l7 z8 s9 l10 l11 l12 l13 l14 z15 z16 z17 z18 true else HW n z1 s2 s3 l4 z5 s6 l7 z8 s9 l10 l11 l12 l13 l14 z15 z16 z17 z18 false)
def HW:Nat->Int->BA->BA->LD->Int->BA->LD->Int->BA->LD->LD->LD->LD->LD->Int->Int->Int->Int->Bool->Option (Int)
 | 0,_,_,_,_,_,_,_,_,_,_,_,_,_,_,_,_,_,_,_=>none
 | n+1,z1,s2,s3,l4,z5,s6,l7,z8,s9,l10,l11,l12,l13,l14,z15,z16,z17,z18,b19=>
  (if b19=true then Ap l11 z17 fun x20=>BD x20 fun z21 z22 s23 s24 s25 l26 l27 z28=>bO1 (T3 n z21 z22 s23 s24 s25 l26 l27 z28) fun z29=>AJ (IntKind.wrap .i64 (z18+z29)) fun z30=>AJ (IntKind.wrap .i64 (z17+1)) fun z31=>GU n z1 s2 s3 l4 z5 s6 l7 z8 s9 l10 l11 l12 l13 l14 z15 z16 z31 z30 else bO15 (cX n z1 s2 s3 l4 z5 s6 l7 z8 s9 l10 l11 l12 l13 l14 z15) fun z32 s33 s34 l35 z36 s37 l38 z39 s40 l41 l42 l43 l44 l45 z46=>bO16 (IL n z18 z32 s33 s34 l35 z36 s37 l38 z39 s40 l41 l42 l43 l44 l45 z46) fun z47 z48 s49 s50 l51 z52 s53 l54 z55 s56 l57 l58 l59 l60 l61 z62=>some z47)
def TK:Nat->Int->BA->BA->LD->Int->BA->LD->Int->BA->LD->LD->LD->LD->LD->Int->Option (Int)
 | 0,_,_,_,_,_,_,_,_,_,_,_,_,_,_,_=>none
 | n+1,z1,s2,s3,l4,z5,s6,l7,z8,s9,l10,l11,l12,l13,l14,z15=>
  AE l11 fun z16=>GU n z1 s2 s3 l4 z5 s6 l7 z8 s9 l10 l11 l12 l13 l14 z15 z16 (0:Int) (1:Int)
end
theorem pR (n:Nat):(∀⦃z1 s2 s3 l4 z5 s6 l7 z8 s9 l10 l11 l12 l13 l14 z15 z16 r1⦄,I3 n z1 s2 s3 l4 z5 s6 l7 z8 s9 l10 l11 l12 l13 l14 z15 z16=some r1->
    DT Tryz.prog inv (JI ()) [(3,.v (.c (.ptr (.ext 0) 0)))] [.d (.agg [.int .u8 z1,.str s2,.str s3,.list false 1 l4,.int .u8 z5,.str s6,.list true 3 l7,.int .i64 z8,.str s9,.list false 1 l10,.list true 8 l11,.list true 15 l12,.list true 15 l13,.list true 3 l14,.int .i64 z15])] [.cells [.d (.int .i64 z16)]] fun j p n=>j=none/\p=[.cells [.d (.int .i64 r1)]]/\n=[])/\
    (∀⦃z1 z2 s3 s4 l5 z6 s7 l8 z9 s10 l11 l12 l13 l14 l15 z16 r1 r2 r3 r4 r5 r6 r7 r8 r9 r10 r11 r12 r13 r14 r15 r16⦄,IL n z1 z2 s3 s4 l5 z6 s7 l8 z9 s10 l11 l12 l13 l14 l15 z16=some (r1,r2,r3,r4,r5,r6,r7,r8,r9,r10,r11,r12,r13,r14,r15,r16)->
    Ah Tryz.prog inv 138 [.c (.yl (.ext 0)),.c (.ptr (.ext 2) 0)] [.rnd JI [(3,.v (.c (.ptr (.ext 1) 0)))],.cells [.d (.int .i64 z1)],.cells [.d (.int .u8 z2),.d (.str s3),.d (.str s4),.d (.list false 1 l5),.d (.int .u8 z6),.d (.str s7),.d (.list true 3 l8),.d (.int .i64 z9),.d (.str s10),.d (.list false 1 l11),.d (.list true 8 l12),.d (.list true 15 l13),.d (.list true 15 l14),.d (.list true 3 l15),.d (.int .i64 z16)]] (.t []) [.rnd JI [(3,.v (.c (.ptr (.ext 1) 0)))],.cells [.d (.int .i64 r1)],.cells [.d (.int .u8 r2),.d (.str r3),.d (.str r4),.d (.list false 1 r5),.d (.int .u8 r6),.d (.str r7),.d (.list true 3 r8),.d (.int .i64 r9),.d (.str r10),.d (.list false 1 r11),.d (.list true 8 r12),.d (.list true 15 r13),.d (.list true 15 r14),.d (.list true 3 r15),.d (.int .i64 r16)]] [])/\
    (∀⦃z1 s2 s3 l4 z5 s6 l7 z8 s9 l10 l11 l12 l13 l14 z15 r1⦄,TK n z1 s2 s3 l4 z5 s6 l7 z8 s9 l10 l11 l12 l13 l14 z15=some r1->
    Ah Tryz.prog inv 45 [.d (.agg [.int .u8 z1,.str s2,.str s3,.list false 1 l4,.int .u8 z5,.str s6,.list true 3 l7,.int .i64 z8,.str s9,.list false 1 l10,.list true 8 l11,.list true 15 l12,.list true 15 l13,.list true 3 l14,.int .i64 z15])] [] (.v (.d (.int .i64 r1))) [] []):=by
 induction n using Nat.strongRecOn with | _ n ih=>
 obtain _ | n:=n
 ·refine⟨?_,?_,?_⟩
  ·intro z1 s2 s3 l4 z5 s6 l7 z8 s9 l10 l11 l12 l13 l14 z15 z16 r1 h
   cases (show (none:Option _)=some _ from h)
  ·intro z1 z2 s3 s4 l5 z6 s7 l8 z9 s10 l11 l12 l13 l14 l15 z16 r1 r2 r3 r4 r5 r6 r7 r8 r9 r10 r11 r12 r13 r14 r15 r16 h
   cases (show (none:Option _)=some _ from h)
  intro z1 s2 s3 l4 z5 s6 l7 z8 s9 l10 l11 l12 l13 l14 z15 r1 h
  cases (show (none:Option _)=some _ from h)
 refine⟨?_,?_,?_⟩
 ·intro z1 s2 s3 l4 z5 s6 l7 z8 s9 l10 l11 l12 l13 l14 z15 z16 r1 h
  rw[I3]at h
  refine DT.zM BI Ao Fi rfl rfl rfl rfl rfl (by kernel_rfl) (fun M hM hI=>?_)
  try cbv
  replace h:=AU h
  obtain⟨z17,hr,h⟩:=h
  first | refine .inr (.inl ⟨[],?_⟩) | refine .inl ⟨[],?_⟩
  try cbv
  refine AQ hM hI ((ih _ (by omega)).2.2 hr) rfl ?_
  clear hr
  try cbv
  replace h:=Ac h
  obtain⟨z18,hz,h⟩:=h
  refine⟨z18,hz,?_⟩
  clear hz
  try cbv
  refine drawn ?_ ?_
  ·show _=true
   kernel_rfl
  try cbv
  obtain rfl:=Option.some.inj h
  refine⟨_,_,⟨rfl,rfl,rfl⟩,[],?_⟩
  try cbv
  exact⟨[],rfl,⟨rfl,trivial⟩,trivial,trivial⟩
 ·intro z1 z2 s3 s4 l5 z6 s7 l8 z9 s10 l11 l12 l13 l14 l15 z16 r1 r2 r3 r4 r5 r6 r7 r8 r9 r10 r11 r12 r13 r14 r15 r16 h
  rw[IL]at h
  refine Ah.of BI Ao Fi Tryz.func138 rfl (by kernel_rfl) rfl rfl rfl (fun M hM hI=>?_)
  try cbv
  refine AB ?_
  try cbv
  refine AB ?_
  try cbv
  refine⟨false,?_⟩
  try cbv
  refine⟨true,?_⟩
  try cbv
  refine⟨2,(M.lenI_eq _).trans rfl,?_⟩
  try cbv
  refine Cs (T:=Nat×Int×Int) [0,1,15,16,17] [.ext 0,.ext 1,.ext 2] 224 (fun t=>⟨[(0,.v (.c (.yl (.ext 0)))),sE 1 2,(15,.v (.c (.tl false 1 ([.list true 15 l13,.list true 15 l14])))),sI 16 2,sI 17 t.2.1],[(.ext 0,.rnd JI [sE 3 1]),(.ext 1,.cells [.d (.int .i64 t.2.2)]),(.ext 2,.cells [.d (.int .u8 z2),.d (.str s3),.d (.str s4),.d (.list false 1 l5),.d (.int .u8 z6),.d (.str s7),.d (.list true 3 l8),.d (.int .i64 z9),.d (.str s10),.d (.list false 1 l11),.d (.list true 8 l12),.d (.list true 15 l13),.d (.list true 15 l14),.d (.list true 3 l15),.d (.int .i64 z16)])],224⟩)
    (fun t=>t.1<=n/\B1 t.1 z2 s3 s4 l5 z6 s7 l8 z9 s10 l11 l12 l13 l14 l15 z16 t.2.1 t.2.2=some (r1,r2,r3,r4,r5,r6,r7,r8,r9,r10,r11,r12,r13,r14,r15,r16)) (fun t=>t.1) (n,((0:Int),z1)) ⟨Nat.le_refl _,h⟩ (by cbv) ?_
  clear h
  rintro⟨m1,z17,z18⟩ ⟨hm1,h⟩
  replace hm1:m1<=n:=hm1
  obtain _ | m1:=m1
  ·replace h:B1 0 z2 s3 s4 l5 z6 s7 l8 z9 s10 l11 l12 l13 l14 l15 z16 z17 z18=some (r1,r2,r3,r4,r5,r6,r7,r8,r9,r10,r11,r12,r13,r14,r15,r16):=h
   rw[B1]at h
   cases h
  replace h:B1 (m1+1) z2 s3 s4 l5 z6 s7 l8 z9 s10 l11 l12 l13 l14 l15 z16 z17 z18=some (r1,r2,r3,r4,r5,r6,r7,r8,r9,r10,r11,r12,r13,r14,r15,r16):=h
  rw[B1]at h
  try cbv
  refine AK 18 [0,1,15,16,17,18] [.ext 0,.ext 1,.ext 2] 256 (fun m b=>m<=m1/\CK m z2 s3 s4 l5 z6 s7 l8 z9 s10 l11 l12 l13 l14 l15 z16 z17 z18 b=some (r1,r2,r3,r4,r5,r6,r7,r8,r9,r10,r11,r12,r13,r14,r15,r16)) ?_ ?_
  ·try cbv
   refine Bu (fun e=>?_) (fun e=>?_)
   ·replace h:=Aj e h
    clear e
    try cbv
    exact AA (m1,true) [0,1,15,16,17,18] [.ext 0,.ext 1,.ext 2] 256 ⟨by omega,h⟩ (by cbv)
   replace h:=Ak (Int.not_lt.2 e) h
   clear e
   try cbv
   exact AA (m1,false) [0,1,15,16,17,18] [.ext 0,.ext 1,.ext 2] 256 ⟨by omega,h⟩ (by cbv)
  clear h
  rintro⟨m2,b19⟩ ⟨hm2,h⟩
  try cbv
  replace hm2:m2<=m1:=hm2
  obtain _ | m2:=m2
  ·replace h:CK 0 z2 s3 s4 l5 z6 s7 l8 z9 s10 l11 l12 l13 l14 l15 z16 z17 z18 b19=some (r1,r2,r3,r4,r5,r6,r7,r8,r9,r10,r11,r12,r13,r14,r15,r16):=h
   rw[CK]at h
   cases h
  replace h:CK (m2+1) z2 s3 s4 l5 z6 s7 l8 z9 s10 l11 l12 l13 l14 l15 z16 z17 z18 b19=some (r1,r2,r3,r4,r5,r6,r7,r8,r9,r10,r11,r12,r13,r14,r15,r16):=h
  rw[CK]at h
  try cbv
  refine AB ?_
  try cbv
  cases b19
  rotate_left
  ·replace h:=Bo h
   try cbv
   refine AB ?_
   try cbv
   refine AB ?_
   try cbv
   replace h:=BT h
   obtain⟨x20,⟨hx0,hx⟩,h⟩:=h
   refine⟨x20,hx0,hx,?_⟩
   clear hx0 hx
   replace h:=Dj h
   obtain⟨l21,rfl,h⟩:=h
   try cbv
   refine AB ?_
   try cbv
   replace h:=BL M h
   obtain⟨z22,hz,h⟩:=h
   refine⟨z22,hz,?_⟩
   clear hz
   try cbv
   refine Cs (T:=Nat×Int×Int) [0,1,15,16,17,21,22,23] [.ext 0,.ext 1,.ext 2] 448 (fun t=>⟨[(0,.v (.c (.yl (.ext 0)))),sE 1 2,(15,.v (.c (.tl false 1 ([.list true 15 l13,.list true 15 l14])))),sI 16 2,sI 17 z17,sT 21 15 l21,sI 22 z22,sI 23 t.2.1],[(.ext 0,.rnd JI [sE 3 1]),(.ext 1,.cells [.d (.int .i64 t.2.2)]),(.ext 2,.cells [.d (.int .u8 z2),.d (.str s3),.d (.str s4),.d (.list false 1 l5),.d (.int .u8 z6),.d (.str s7),.d (.list true 3 l8),.d (.int .i64 z9),.d (.str s10),.d (.list false 1 l11),.d (.list true 8 l12),.d (.list true 15 l13),.d (.list true 15 l14),.d (.list true 3 l15),.d (.int .i64 z16)])],448⟩)
     (fun t=>t.1<=m2/\CL t.1 z2 s3 s4 l5 z6 s7 l8 z9 s10 l11 l12 l13 l14 l15 z16 z17 l21 z22 t.2.1 t.2.2=some (r1,r2,r3,r4,r5,r6,r7,r8,r9,r10,r11,r12,r13,r14,r15,r16)) (fun t=>t.1) (m2,((0:Int),z18)) ⟨Nat.le_refl _,h⟩ (by cbv) ?_
   clear h
   rintro⟨m3,z23,z24⟩ ⟨hm3,h⟩
   replace hm3:m3<=m2:=hm3
   obtain _ | m3:=m3
   ·replace h:CL 0 z2 s3 s4 l5 z6 s7 l8 z9 s10 l11 l12 l13 l14 l15 z16 z17 l21 z22 z23 z24=some (r1,r2,r3,r4,r5,r6,r7,r8,r9,r10,r11,r12,r13,r14,r15,r16):=h
    rw[CL]at h
    cases h
   replace h:CL (m3+1) z2 s3 s4 l5 z6 s7 l8 z9 s10 l11 l12 l13 l14 l15 z16 z17 l21 z22 z23 z24=some (r1,r2,r3,r4,r5,r6,r7,r8,r9,r10,r11,r12,r13,r14,r15,r16):=h
   rw[CL]at h
   try cbv
   refine AK 24 [0,1,15,16,17,21,22,23,24] [.ext 0,.ext 1,.ext 2] 480 (fun m b=>m<=m3/\CU m z2 s3 s4 l5 z6 s7 l8 z9 s10 l11 l12 l13 l14 l15 z16 z17 l21 z22 z23 z24 b=some (r1,r2,r3,r4,r5,r6,r7,r8,r9,r10,r11,r12,r13,r14,r15,r16)) ?_ ?_
   ·try cbv
    refine Bu (fun e=>?_) (fun e=>?_)
    ·replace h:=Aj e h
     clear e
     try cbv
     exact AA (m3,true) [0,1,15,16,17,21,22,23,24] [.ext 0,.ext 1,.ext 2] 480 ⟨by omega,h⟩ (by cbv)
    replace h:=Ak (Int.not_lt.2 e) h
    clear e
    try cbv
    exact AA (m3,false) [0,1,15,16,17,21,22,23,24] [.ext 0,.ext 1,.ext 2] 480 ⟨by omega,h⟩ (by cbv)
   clear h
   rintro⟨m4,b25⟩ ⟨hm4,h⟩
   try cbv
   replace hm4:m4<=m3:=hm4
   obtain _ | m4:=m4
   ·replace h:CU 0 z2 s3 s4 l5 z6 s7 l8 z9 s10 l11 l12 l13 l14 l15 z16 z17 l21 z22 z23 z24 b25=some (r1,r2,r3,r4,r5,r6,r7,r8,r9,r10,r11,r12,r13,r14,r15,r16):=h
    rw[CU]at h
    cases h
   replace h:CU (m4+1) z2 s3 s4 l5 z6 s7 l8 z9 s10 l11 l12 l13 l14 l15 z16 z17 l21 z22 z23 z24 b25=some (r1,r2,r3,r4,r5,r6,r7,r8,r9,r10,r11,r12,r13,r14,r15,r16):=h
   rw[CU]at h
   try cbv
   refine AB ?_
   try cbv
   cases b25
   ·replace h:=Bp h
    try cbv
    replace h:=Ac h
    obtain⟨z44,hz,h⟩:=h
    refine⟨z44,hz,?_⟩
    clear hz
    try cbv
    exact BP (m4,(z44,z24)) [0,1,15,16,17] [.ext 0,.ext 1,.ext 2] 224 ⟨by omega,h⟩ (Nat.lt_succ_of_le (by omega)) (by cbv)
   replace h:=Bo h
   try cbv
   refine AB ?_
   try cbv
   refine AB ?_
   try cbv
   replace h:=BT h
   obtain⟨x26,⟨hx0,hx⟩,h⟩:=h
   refine⟨x26,hx0,hx,?_⟩
   clear hx0 hx
   replace h:=DU h
   obtain⟨z27,s28,s29,l30,z31,s32,l33,z34,s35,l36,l37,l38,l39,l40,z41,rfl,h⟩:=h
   try cbv
   refine AB ?_
   try cbv
   replace h:=AU h
   obtain⟨z42,hr,h⟩:=h
   refine L7 hM hI [.ext 1] (sl0:=[(3,.v (.c (.ptr (.ext 0) 0)))]) rfl rfl rfl rfl ((ih _ (by omega)).1 hr) rfl rfl rfl (by simp) ⟨rfl,trivial⟩ ⟨trivial,trivial⟩ (by simp) ?_
   clear hr
   try cbv
   refine⟨false,rfl,?_⟩
   try cbv
   replace h:=Ac h
   obtain⟨z43,hz,h⟩:=h
   refine⟨z43,hz,?_⟩
   clear hz
   try cbv
   exact BP (m4,(z43,z42)) [0,1,15,16,17,21,22,23] [.ext 0,.ext 1,.ext 2] 448 ⟨by omega,h⟩ (Nat.lt_succ_of_le (by omega)) (by cbv)
  replace h:=Bp h
  try cbv
  refine AB ?_
  try cbv
  replace h:=BL M h
  obtain⟨z45,hz,h⟩:=h
  refine⟨z45,hz,?_⟩
  clear hz
  try cbv
  refine Cs (T:=Nat×Int×Int) [0,34,35,36] [.ext 0,.ext 1,.ext 2] 384 (fun t=>⟨[(0,.v (.c (.yl (.ext 0)))),sT 34 3 l15,sI 35 z45,sI 36 t.2.1],[(.ext 0,.rnd JI [sE 3 1]),(.ext 1,.cells [.d (.int .i64 t.2.2)]),(.ext 2,.cells [.d (.int .u8 z2),.d (.str s3),.d (.str s4),.d (.list false 1 l5),.d (.int .u8 z6),.d (.str s7),.d (.list true 3 l8),.d (.int .i64 z9),.d (.str s10),.d (.list false 1 l11),.d (.list true 8 l12),.d (.list true 15 l13),.d (.list true 15 l14),.d (.list true 3 l15),.d (.int .i64 z16)])],384⟩)
    (fun t=>t.1<=m2/\CE t.1 z2 s3 s4 l5 z6 s7 l8 z9 s10 l11 l12 l13 l14 l15 z16 z45 t.2.1 t.2.2=some (r1,r2,r3,r4,r5,r6,r7,r8,r9,r10,r11,r12,r13,r14,r15,r16)) (fun t=>t.1) (m2,((0:Int),z18)) ⟨Nat.le_refl _,h⟩ (by cbv) ?_
  clear h
  rintro⟨m5,z46,z47⟩ ⟨hm5,h⟩
  replace hm5:m5<=m2:=hm5
  obtain _ | m5:=m5
  ·replace h:CE 0 z2 s3 s4 l5 z6 s7 l8 z9 s10 l11 l12 l13 l14 l15 z16 z45 z46 z47=some (r1,r2,r3,r4,r5,r6,r7,r8,r9,r10,r11,r12,r13,r14,r15,r16):=h
   rw[CE]at h
   cases h
  replace h:CE (m5+1) z2 s3 s4 l5 z6 s7 l8 z9 s10 l11 l12 l13 l14 l15 z16 z45 z46 z47=some (r1,r2,r3,r4,r5,r6,r7,r8,r9,r10,r11,r12,r13,r14,r15,r16):=h
  rw[CE]at h
  try cbv
  refine AK 37 [0,34,35,36,37] [.ext 0,.ext 1,.ext 2] 416 (fun m b=>m<=m5/\CW m z2 s3 s4 l5 z6 s7 l8 z9 s10 l11 l12 l13 l14 l15 z16 z45 z46 z47 b=some (r1,r2,r3,r4,r5,r6,r7,r8,r9,r10,r11,r12,r13,r14,r15,r16)) ?_ ?_
  ·try cbv
   refine Bu (fun e=>?_) (fun e=>?_)
   ·replace h:=Aj e h
    clear e
    try cbv
    exact AA (m5,true) [0,34,35,36,37] [.ext 0,.ext 1,.ext 2] 416 ⟨by omega,h⟩ (by cbv)
   replace h:=Ak (Int.not_lt.2 e) h
   clear e
   try cbv
   exact AA (m5,false) [0,34,35,36,37] [.ext 0,.ext 1,.ext 2] 416 ⟨by omega,h⟩ (by cbv)
  clear h
  rintro⟨m6,b48⟩ ⟨hm6,h⟩
  try cbv
  replace hm6:m6<=m5:=hm6
  obtain _ | m6:=m6
  ·replace h:CW 0 z2 s3 s4 l5 z6 s7 l8 z9 s10 l11 l12 l13 l14 l15 z16 z45 z46 z47 b48=some (r1,r2,r3,r4,r5,r6,r7,r8,r9,r10,r11,r12,r13,r14,r15,r16):=h
   rw[CW]at h
   cases h
  replace h:CW (m6+1) z2 s3 s4 l5 z6 s7 l8 z9 s10 l11 l12 l13 l14 l15 z16 z45 z46 z47 b48=some (r1,r2,r3,r4,r5,r6,r7,r8,r9,r10,r11,r12,r13,r14,r15,r16):=h
  rw[CW]at h
  try cbv
  refine AB ?_
  try cbv
  cases b48
  ·replace h:=Bp h
   try cbv
   obtain⟨rfl,rfl,rfl,rfl,rfl,rfl,rfl,rfl,rfl,rfl,rfl,rfl,rfl,rfl,rfl,rfl⟩:=eO h
   refine AR ?_
   try cbv
   exact⟨[],rfl,rfl,⟨rfl,⟨rfl,⟨rfl,trivial⟩⟩⟩,trivial,trivial⟩
  replace h:=Bo h
  try cbv
  refine AB ?_
  try cbv
  refine AB ?_
  try cbv
  replace h:=BT h
  obtain⟨x49,⟨hx0,hx⟩,h⟩:=h
  refine⟨x49,hx0,hx,?_⟩
  clear hx0 hx
  replace h:=FF h
  obtain⟨s50,s51,l52,rfl,h⟩:=h
  try cbv
  refine AB ?_
  try cbv
  replace h:=BL M h
  obtain⟨z53,hz,h⟩:=h
  refine⟨z53,hz,?_⟩
  clear hz
  try cbv
  refine Cs (T:=Nat×Int×Int) [0,34,35,36,41,42,43] [.ext 0,.ext 1,.ext 2] 672 (fun t=>⟨[(0,.v (.c (.yl (.ext 0)))),sT 34 3 l15,sI 35 z45,sI 36 z46,sT 41 15 l52,sI 42 z53,sI 43 t.2.1],[(.ext 0,.rnd JI [sE 3 1]),(.ext 1,.cells [.d (.int .i64 t.2.2)]),(.ext 2,.cells [.d (.int .u8 z2),.d (.str s3),.d (.str s4),.d (.list false 1 l5),.d (.int .u8 z6),.d (.str s7),.d (.list true 3 l8),.d (.int .i64 z9),.d (.str s10),.d (.list false 1 l11),.d (.list true 8 l12),.d (.list true 15 l13),.d (.list true 15 l14),.d (.list true 3 l15),.d (.int .i64 z16)])],672⟩)
    (fun t=>t.1<=m6/\CM t.1 z2 s3 s4 l5 z6 s7 l8 z9 s10 l11 l12 l13 l14 l15 z16 z45 z46 l52 z53 t.2.1 t.2.2=some (r1,r2,r3,r4,r5,r6,r7,r8,r9,r10,r11,r12,r13,r14,r15,r16)) (fun t=>t.1) (m6,((0:Int),z47)) ⟨Nat.le_refl _,h⟩ (by cbv) ?_
  clear h
  rintro⟨m7,z54,z55⟩ ⟨hm7,h⟩
  replace hm7:m7<=m6:=hm7
  obtain _ | m7:=m7
  ·replace h:CM 0 z2 s3 s4 l5 z6 s7 l8 z9 s10 l11 l12 l13 l14 l15 z16 z45 z46 l52 z53 z54 z55=some (r1,r2,r3,r4,r5,r6,r7,r8,r9,r10,r11,r12,r13,r14,r15,r16):=h
   rw[CM]at h
   cases h
  replace h:CM (m7+1) z2 s3 s4 l5 z6 s7 l8 z9 s10 l11 l12 l13 l14 l15 z16 z45 z46 l52 z53 z54 z55=some (r1,r2,r3,r4,r5,r6,r7,r8,r9,r10,r11,r12,r13,r14,r15,r16):=h
  rw[CM]at h
  try cbv
  refine AK 44 [0,34,35,36,41,42,43,44] [.ext 0,.ext 1,.ext 2] 704 (fun m b=>m<=m7/\CX m z2 s3 s4 l5 z6 s7 l8 z9 s10 l11 l12 l13 l14 l15 z16 z45 z46 l52 z53 z54 z55 b=some (r1,r2,r3,r4,r5,r6,r7,r8,r9,r10,r11,r12,r13,r14,r15,r16)) ?_ ?_
  ·try cbv
   refine Bu (fun e=>?_) (fun e=>?_)
   ·replace h:=Aj e h
    clear e
    try cbv
    exact AA (m7,true) [0,34,35,36,41,42,43,44] [.ext 0,.ext 1,.ext 2] 704 ⟨by omega,h⟩ (by cbv)
   replace h:=Ak (Int.not_lt.2 e) h
   clear e
   try cbv
   exact AA (m7,false) [0,34,35,36,41,42,43,44] [.ext 0,.ext 1,.ext 2] 704 ⟨by omega,h⟩ (by cbv)
  clear h
  rintro⟨m8,b56⟩ ⟨hm8,h⟩
  try cbv
  replace hm8:m8<=m7:=hm8
  obtain _ | m8:=m8
  ·replace h:CX 0 z2 s3 s4 l5 z6 s7 l8 z9 s10 l11 l12 l13 l14 l15 z16 z45 z46 l52 z53 z54 z55 b56=some (r1,r2,r3,r4,r5,r6,r7,r8,r9,r10,r11,r12,r13,r14,r15,r16):=h
   rw[CX]at h
   cases h
  replace h:CX (m8+1) z2 s3 s4 l5 z6 s7 l8 z9 s10 l11 l12 l13 l14 l15 z16 z45 z46 l52 z53 z54 z55 b56=some (r1,r2,r3,r4,r5,r6,r7,r8,r9,r10,r11,r12,r13,r14,r15,r16):=h
  rw[CX]at h
  try cbv
  refine AB ?_
  try cbv
  cases b56
  ·replace h:=Bp h
   try cbv
   replace h:=Ac h
   obtain⟨z75,hz,h⟩:=h
   refine⟨z75,hz,?_⟩
   clear hz
   try cbv
   exact BP (m8,(z75,z55)) [0,34,35,36] [.ext 0,.ext 1,.ext 2] 384 ⟨by omega,h⟩ (Nat.lt_succ_of_le (by omega)) (by cbv)
  replace h:=Bo h
  try cbv
  refine AB ?_
  try cbv
  refine AB ?_
  try cbv
  replace h:=BT h
  obtain⟨x57,⟨hx0,hx⟩,h⟩:=h
  refine⟨x57,hx0,hx,?_⟩
  clear hx0 hx
  replace h:=DU h
  obtain⟨z58,s59,s60,l61,z62,s63,l64,z65,s66,l67,l68,l69,l70,l71,z72,rfl,h⟩:=h
  try cbv
  refine AB ?_
  try cbv
  replace h:=AU h
  obtain⟨z73,hr,h⟩:=h
  refine L7 hM hI [.ext 1] (sl0:=[(3,.v (.c (.ptr (.ext 0) 0)))]) rfl rfl rfl rfl ((ih _ (by omega)).1 hr) rfl rfl rfl (by simp) ⟨rfl,trivial⟩ ⟨trivial,trivial⟩ (by simp) ?_
  clear hr
  try cbv
  refine⟨false,rfl,?_⟩
  try cbv
  replace h:=Ac h
  obtain⟨z74,hz,h⟩:=h
  refine⟨z74,hz,?_⟩
  clear hz
  try cbv
  exact BP (m8,(z74,z73)) [0,34,35,36,41,42,43] [.ext 0,.ext 1,.ext 2] 672 ⟨by omega,h⟩ (Nat.lt_succ_of_le (by omega)) (by cbv)
 intro z1 s2 s3 l4 z5 s6 l7 z8 s9 l10 l11 l12 l13 l14 z15 r1 h
 rw[TK]at h
 refine Ah.of BI Ao Fi Tryz.func45 rfl (by kernel_rfl) rfl rfl rfl (fun M hM hI=>?_)
 try cbv
 refine AB ?_
 try cbv
 refine AB ?_
 try cbv
 refine AB ?_
 try cbv
 refine AB ?_
 try cbv
 replace h:=BL M h
 obtain⟨z16,hz,h⟩:=h
 refine⟨z16,hz,?_⟩
 clear hz
 try cbv
 refine Cs (T:=Nat×Int×Int) [1,2,3,8,9,10] [.loc 0,.loc 64] 256 (fun t=>⟨[sL 1 0,sI 2 0,sL 3 64,sT 8 8 l11,sI 9 z16,sI 10 t.2.1],[(.loc 0,.cells [.d (.int .u8 z1),.d (.str s2),.d (.str s3),.d (.list false 1 l4),.d (.int .u8 z5),.d (.str s6),.d (.list true 3 l7),.d (.int .i64 z8),.d (.str s9),.d (.list false 1 l10),.d (.list true 8 l11),.d (.list true 15 l12),.d (.list true 15 l13),.d (.list true 3 l14),.d (.int .i64 z15)]),(.loc 64,.cells [.d (.int .i64 t.2.2)])],256⟩)
   (fun t=>t.1<=n/\GU t.1 z1 s2 s3 l4 z5 s6 l7 z8 s9 l10 l11 l12 l13 l14 z15 z16 t.2.1 t.2.2=some r1) (fun t=>t.1) (n,((0:Int),(1:Int))) ⟨Nat.le_refl _,h⟩ (by cbv) ?_
 clear h
 rintro⟨m1,z17,z18⟩ ⟨hm1,h⟩
 replace hm1:m1<=n:=hm1
 obtain _ | m1:=m1
 ·replace h:GU 0 z1 s2 s3 l4 z5 s6 l7 z8 s9 l10 l11 l12 l13 l14 z15 z16 z17 z18=some r1:=h
  rw[GU]at h
  cases h
 replace h:GU (m1+1) z1 s2 s3 l4 z5 s6 l7 z8 s9 l10 l11 l12 l13 l14 z15 z16 z17 z18=some r1:=h
 rw[GU]at h
 try cbv
 refine AK 11 [1,2,3,8,9,10,11] [.loc 0,.loc 64] 288 (fun m b=>m<=m1/\HW m z1 s2 s3 l4 z5 s6 l7 z8 s9 l10 l11 l12 l13 l14 z15 z16 z17 z18 b=some r1) ?_ ?_
 ·try cbv
  refine Bu (fun e=>?_) (fun e=>?_)
  ·replace h:=Aj e h
   clear e
   try cbv
   exact AA (m1,true) [1,2,3,8,9,10,11] [.loc 0,.loc 64] 288 ⟨by omega,h⟩ (by cbv)
  replace h:=Ak (Int.not_lt.2 e) h
  clear e
  try cbv
  exact AA (m1,false) [1,2,3,8,9,10,11] [.loc 0,.loc 64] 288 ⟨by omega,h⟩ (by cbv)
 clear h
 rintro⟨m2,b19⟩ ⟨hm2,h⟩
 try cbv
 replace hm2:m2<=m1:=hm2
 obtain _ | m2:=m2
 ·replace h:HW 0 z1 s2 s3 l4 z5 s6 l7 z8 s9 l10 l11 l12 l13 l14 z15 z16 z17 z18 b19=some r1:=h
  rw[HW]at h
  cases h
 replace h:HW (m2+1) z1 s2 s3 l4 z5 s6 l7 z8 s9 l10 l11 l12 l13 l14 z15 z16 z17 z18 b19=some r1:=h
 rw[HW]at h
 try cbv
 refine AB ?_
 try cbv
 cases b19
 ·replace h:=Bp h
  try cbv
  refine AB ?_
  try cbv
  refine AB ?_
  try cbv
  replace h:=Mw h
  obtain⟨z32,s33,s34,l35,z36,s37,l38,z39,s40,l41,l42,l43,l44,l45,z46,hr,h⟩:=h
  refine AZ rfl rfl ?_
  try cbv
  refine Al hM hI [] (zC _ hr) rfl (by simp) trivial trivial (by simp) ?_
  clear hr
  try cbv
  replace h:=Mx h
  obtain⟨z47,z48,s49,s50,l51,z52,s53,l54,z55,s56,l57,l58,l59,l60,l61,z62,hr,h⟩:=h
  refine M1 hM hI [.loc 352,.loc 64,.loc 320] [(3,.v (.c (.ptr (.loc 64) 0)))] rfl ⟨rfl,trivial⟩ ((ih _ (by omega)).2.1 hr) rfl (by simp) ⟨rfl,⟨rfl,⟨rfl,trivial⟩⟩⟩ ⟨trivial,⟨trivial,⟨trivial,trivial⟩⟩⟩ (by simp) ?_
  clear hr
  try cbv
  refine AB ?_
  try cbv
  obtain rfl:=Option.some.inj h
  refine AR ?_
  try cbv
  exact⟨[],by trivial⟩
 replace h:=Bo h
 try cbv
 refine AB ?_
 try cbv
 refine AB ?_
 try cbv
 replace h:=BT h
 obtain⟨x20,⟨hx0,hx⟩,h⟩:=h
 refine⟨x20,hx0,hx,?_⟩
 clear hx0 hx
 replace h:=FE h
 obtain⟨z21,z22,s23,s24,s25,l26,l27,z28,rfl,h⟩:=h
 try cbv
 replace h:=AU h
 obtain⟨z29,hr,h⟩:=h
 first | refine .inr (.inl ⟨[],?_⟩) | refine .inl ⟨[],?_⟩
 try cbv
 refine AQ hM hI (T44 _ hr) rfl ?_
 clear hr
 try cbv
 replace h:=Ac h
 obtain⟨z30,hz,h⟩:=h
 refine⟨z30,hz,?_⟩
 clear hz
 try cbv
 refine drawn ?_ ?_
 ·show _=true
  kernel_rfl
 try cbv
 replace h:=Ac h
 obtain⟨z31,hz,h⟩:=h
 refine⟨z31,hz,?_⟩
 clear hz
 try cbv
 exact BP (m2,(z31,z30)) [1,2,3,8,9,10] [.loc 0,.loc 64] 256 ⟨by omega,h⟩ (Nat.lt_succ_of_le (by omega)) (by cbv)
theorem T45 (n:Nat):∀⦃z1 s2 s3 l4 z5 s6 l7 z8 s9 l10 l11 l12 l13 l14 z15 r1⦄,TK n z1 s2 s3 l4 z5 s6 l7 z8 s9 l10 l11 l12 l13 l14 z15=some r1->
  Ah Tryz.prog inv 45 [.d (.agg [.int .u8 z1,.str s2,.str s3,.list false 1 l4,.int .u8 z5,.str s6,.list true 3 l7,.int .i64 z8,.str s9,.list false 1 l10,.list true 8 l11,.list true 15 l12,.list true 15 l13,.list true 3 l14,.int .i64 z15])] [] (.v (.d (.int .i64 r1))) [] []:=(pR n).2.2
noncomputable def c45:BQ:=⟨45,[.agg [.y,.str,.str,.f 1,.y,.str,.q 3,.z,.str,.f 1,.q 8,.q 15,.q 15,.q 3,.z]],[],[⟨.one (.z),[],[]⟩],Int,inferInstance,TK⟩
noncomputable def k45:Kz:=⟨c45,fun n=>Cm fun z1 s2 s3 l4 z5 s6 l7 z8 s9 l10 l11 l12 l13 l14 z15 p h w1 w2 w4 w3 l1 l2 e1 e2 e5 e3 xs e4=>by cases e1;cases e2;cases e4;cases e5;cases e3;exact T45 n h⟩
mutual
def Np:Nat->LD->Int->Int->Int->Option (Int)
 | 0,_,_,_,_=>none
 | n+1,l1,z2,z3,z4=>
  (if z4<z2 then TL n l1 z2 z3 z4 true else TL n l1 z2 z3 z4 false)
def TL:Nat->LD->Int->Int->Int->Bool->Option (Int)
 | 0,_,_,_,_,_=>none
 | n+1,l1,z2,z3,z4,b5=>
  (if b5=true then Ap l1 z4 fun x6=>BU x6 fun z7 s8 l9 z10 s11 l12 l13 z14 z15 s16 s17 s18 l19 l20 z21 z22=>AJ (IntKind.wrap .i64 (z3+1)) fun z23=>(if z7=(3:Int)then TM n l1 z2 z4 l13 z14 z15 s16 s17 s18 l19 l20 z21 z23 true else TM n l1 z2 z4 l13 z14 z15 s16 s17 s18 l19 l20 z21 z23 false)else some z3)
def TM:Nat->LD->Int->Int->LD->Int->Int->BA->BA->BA->LD->LD->Int->Int->Bool->Option (Int)
 | 0,_,_,_,_,_,_,_,_,_,_,_,_,_,_=>none
 | n+1,l1,z2,z4,l13,z14,z15,s16,s17,s18,l19,l20,z21,z23,b24=>
  (if b24=true then bO1 (T3 n z14 z15 s16 s17 s18 l19 l20 z21) fun z25=>AJ (IntKind.wrap .i64 (z23+z25)) fun z26=>TN n l1 z2 z4 l13 z26 else TN n l1 z2 z4 l13 z23)
def TN:Nat->LD->Int->Int->LD->Int->Option (Int)
 | 0,_,_,_,_,_=>none
 | n+1,l1,z2,z4,l13,z27=>
  AE l13 fun z28=>Pe n l1 z2 z4 l13 z28 z27 (0:Int)
def Pe:Nat->LD->Int->Int->LD->Int->Int->Int->Option (Int)
 | 0,_,_,_,_,_,_,_=>none
 | n+1,l1,z2,z4,l13,z28,z29,z30=>
  (if z30<z28 then TO n l1 z2 z4 l13 z28 z29 z30 true else TO n l1 z2 z4 l13 z28 z29 z30 false)
def TO:Nat->LD->Int->Int->LD->Int->Int->Int->Bool->Option (Int)
 | 0,_,_,_,_,_,_,_,_=>none
 | n+1,l1,z2,z4,l13,z28,z29,z30,b31=>
  (if b31=true then Ap l13 z30 fun x32=>BJ x32 fun z33 s34 s35 l36 z37 s38 l39 z40 s41 l42 l43 l44 l45 l46 z47=>bO1 (TK n z33 s34 s35 l36 z37 s38 l39 z40 s41 l42 l43 l44 l45 l46 z47) fun z48=>AJ (IntKind.wrap .i64 (z29+z48)) fun z49=>AJ (IntKind.wrap .i64 (z30+1)) fun z50=>Pe n l1 z2 z4 l13 z28 z49 z50 else AJ (IntKind.wrap .i64 (z4+1)) fun z51=>Np n l1 z2 z29 z51)
end
def fS (n:Nat) (l1:LD):Option (Int):=
 AE l1 fun z2=>Np n l1 z2 (0:Int) (0:Int)
noncomputable def sD:BX:=⟨14,Tryz.f14,[.agg [.q 16]],[],⟨.one (.z),[],[]⟩,Int,inferInstance,fS,[⟨58,[2,3,9,10,11],[],224,[.k 0,.z,.q 16,.z,.z],[],fun n z3 l1 z2 z4=>Np n l1 z2 z3 z4⟩,
 ⟨233,[2,3,9,10,11,12],[],256,[.k 0,.z,.q 16,.z,.z,.b],[],fun n z3 l1 z2 z4 b5=>TL n l1 z2 z3 z4 b5⟩,
 ⟨29901,[2,3,5,9,10,11,19],[.loc 320],576,[.k 0,.z,.p (.loc 320) 0,.q 16,.z,.z,.b],[[.y,.str,.q 4,.y,.str,.q 3,.q 15,.y,.z,.str,.str,.str,.f 1,.q 8,.z,.z]],fun n z23 l1 z2 z4 b24 _ _ _ _ _ _ l13 z14 z15 s16 s17 s18 l19 l20 z21 _=>TM n l1 z2 z4 l13 z14 z15 s16 s17 s18 l19 l20 z21 z23 b24⟩,
 ⟨14951,[2,3,5,9,10,11],[.loc 320],768,[.k 0,.z,.p (.loc 320) 0,.q 16,.z,.z],[[.y,.str,.q 4,.y,.str,.q 3,.q 15,.y,.z,.str,.str,.str,.f 1,.q 8,.z,.z]],fun n z27 l1 z2 z4 _ _ _ _ _ _ l13 _ _ _ _ _ _ _ _ _=>TN n l1 z2 z4 l13 z27⟩,
 ⟨59806,[2,3,9,10,11,26,27,28],[],896,[.k 0,.z,.q 16,.z,.z,.q 15,.z,.z],[],fun n z29 l1 z2 z4 l13 z28 z30=>Pe n l1 z2 z4 l13 z28 z29 z30⟩,
 ⟨239225,[2,3,9,10,11,26,27,28,29],[],928,[.k 0,.z,.q 16,.z,.z,.q 15,.z,.z,.b],[],fun n z29 l1 z2 z4 l13 z28 z30 b31=>TO n l1 z2 z4 l13 z28 z29 z30 b31⟩]⟩
noncomputable def zH:Kz:=sg sD [zG,k45] Tryz.func14 (by kernel_rfl) (by kernel_rfl) (by kernel_rfl)
theorem T14 (n:Nat):∀⦃l1 r1⦄,fS n l1=some r1->
  Ah Tryz.prog inv 14 [.d (.agg [.list true 16 l1])] [] (.v (.d (.int .i64 r1))) [] []:=fun l1 r1 h=>zH.ok n [.L l1] _ h _ _ _ _ _ _ rfl rfl rfl rfl _ rfl
end Go.Proofs.YtjmofeakajdbiaaGreatDoor
end
set_option linter.unusedVariables false
noncomputable section
namespace Go.Proofs.YtjmofeakajdbiaaGreatDoor
open Go Go.AM
def Es (l r:List D):Prop:=l=r∨Gc l r
def Ss (l r:List D):Prop:=l=r∨Fo l r
def As (l r:List D):Prop:=l=r∨OL l r
def RO {α:Type}(R:α→α→Prop):Option α→Option α→Prop
 | none,none=>True
 | some a,some b=>R a b
 | _,_=>False
section
variable {α:Type}{R:α→α→Prop}
theorem rr {x:Option α}:RO Eq x x:=by cases x<;>first | trivial | rfl
theorem RO.eq {x y:Option α}(h:RO Eq x y):x=y:=by
 cases x<;>cases y<;>first | rfl | exact h.elim | exact congrArg some h
theorem ci {c:Prop} [Decidable c] {A A' B B':Option α}(h1:RO R A A') (h2:RO R B B'):RO R (if c then A else B) (if c then A' else B'):=by
 by_cases h:c
 ·rw[if_pos h,if_pos h];exact h1
 ·rw[if_neg h,if_neg h];exact h2
theorem Ay {z:Int}{k k':Int→Option α}(h:∀z,RO R (k z) (k' z)):RO R (AJ z k) (AJ z k'):=h _
theorem Ai {z:Bool}{k k':Bool→Option α}(h:∀z,RO R (k z) (k' z)):RO R (AL z k) (AL z k'):=h _
theorem VC {z:List D}{k k':Int→Option α}(h:∀z,RO R (k z) (k' z)):RO R (AE z k) (AE z k'):=h _
theorem pS {l r:List D}:Es l r→r.length=l.length
 | .inl h=>by rw[h]
 | .inr h=>h.len
theorem pT {l r:List D}:Ss l r→r.length=l.length
 | .inl h=>by rw[h]
 | .inr h=>h.len
theorem pU {l r:List D}:As l r→r.length=l.length
 | .inl h=>by rw[h]
 | .inr h=>h.len
class Le (P:List D→List D→Prop):Prop where
 len:∀{l r},P l r→r.length=l.length
instance:Le Es:=⟨pS⟩
instance:Le Ss:=⟨pT⟩
instance:Le As:=⟨pU⟩
theorem cl {P:List D→List D→Prop} [Le P] {l r:List D}(h:P l r) {k k':Int→Option α}(hk:∀z,RO R (k z) (k' z)):RO R (AE l k) (AE r k'):=by
 unfold AE;rw[Le.len h];exact hk _
theorem Ie {l r:List D}{i:Int}{k k':D→Option α}(hlen:r.length=l.length) (hk:∀(j:Nat) (x y:D),l[j]?=some x→r[j]?=some y→RO R (k x) (k' y)):RO R (Ap l i k) (Ap r i k'):=by
 unfold Ap
 by_cases h:0≤i
 ·rw[if_pos h,if_pos h]
  by_cases c:i.toNat<l.length
  ·rw[List.getElem?_eq_getElem c,List.getElem?_eq_getElem (by omega:i.toNat<r.length)]
   exact hk _ _ _ (List.getElem?_eq_getElem c) (List.getElem?_eq_getElem (by omega))
  ·rw[List.getElem?_eq_none (by omega),List.getElem?_eq_none (by omega)]
   trivial
 ·rw[if_neg h,if_neg h];trivial
theorem Nq {l r:List D}{i:Int}{k k':Int→Int→ByteArray→ByteArray→ByteArray→List D→List D→Int→Option α}(h:Es l r) (hk:∀{x0:Int}{x1:Int}{x2:ByteArray}{x3:ByteArray}{x4:ByteArray}{x5:List D}{x6 y6:List D}{x7 y7:Int},Es x6 y6→RO R (k x0 x1 x2 x3 x4 x5 x6 x7) (k' x0 x1 x2 x3 x4 x5 y6 y7)):RO R (Ap l i fun x=>BD x k) (Ap r i fun x=>BD x k'):=by
 refine Ie (pS h) fun j x y hx hy=>?_
 rcases h with rfl | h
 ·rw[hx]at hy
  cases hy
  unfold BD
  split
  ·exact hk (.inl rfl)
  ·trivial
 ·obtain⟨_,_,_,_,_,_,_,_,_,rfl,h1,g0⟩:=h.get hx
  rw[h1]at hy
  cases hy
  exact hk (.inr g0)
theorem Nr {l r:List D}{i:Int}{k k':Int→ByteArray→ByteArray→List D→Int→ByteArray→List D→Int→ByteArray→List D→List D→List D→List D→List D→Int→Option α}(h:Ss l r) (hk:∀{x0:Int}{x1:ByteArray}{x2:ByteArray}{x3:List D}{x4:Int}{x5:ByteArray}{x6:List D}{x7:Int}{x8:ByteArray}{x9:List D}{x10 y10:List D}{x11 y11:List D}{x12 y12:List D}{x13 y13:List D}{x14 y14:Int},Es x10 y10→Ss x11 y11→Ss x12 y12→As x13 y13→RO R (k x0 x1 x2 x3 x4 x5 x6 x7 x8 x9 x10 x11 x12 x13 x14) (k' x0 x1 x2 x3 x4 x5 x6 x7 x8 x9 y10 y11 y12 y13 y14)):RO R (Ap l i fun x=>BJ x k) (Ap r i fun x=>BJ x k'):=by
 refine Ie (pT h) fun j x y hx hy=>?_
 rcases h with rfl | h
 ·rw[hx]at hy
  cases hy
  unfold BJ
  split
  ·exact hk (.inl rfl) (.inl rfl) (.inl rfl) (.inl rfl)
  ·trivial
 ·obtain⟨_,_,_,_,_,_,_,_,_,_,_,_,_,_,_,_,_,_,_,rfl,h1,g0,g1,g2,g3⟩:=h.get hx
  rw[h1]at hy
  cases hy
  exact hk (.inr g0) (.inr g1) (.inr g2) (.inr g3)
theorem kP {l r:List D}{i:Int}{k k':ByteArray→ByteArray→List D→Option α}(h:As l r) (hk:∀{x0:ByteArray}{x1:ByteArray}{x2 y2:List D},Ss x2 y2→RO R (k x0 x1 x2) (k' x0 x1 y2)):RO R (Ap l i fun x=>Bf x k) (Ap r i fun x=>Bf x k'):=by
 refine Ie (pU h) fun j x y hx hy=>?_
 rcases h with rfl | h
 ·rw[hx]at hy
  cases hy
  unfold Bf
  split
  ·exact hk (.inl rfl)
  ·trivial
 ·obtain⟨_,_,_,_,rfl,h1,g0⟩:=h.get hx
  rw[h1]at hy
  cases hy
  exact hk (.inr g0)
theorem XL {l:List D}{i:Int}{k k':Int→Int→ByteArray→ByteArray→ByteArray→List D→List D→Int→Option α}(hk:∀x0 x1 x2 x3 x4 x5 x6 x7,RO R (k x0 x1 x2 x3 x4 x5 x6 x7) (k' x0 x1 x2 x3 x4 x5 x6 x7)):RO R (Ap l i fun x=>BD x k) (Ap l i fun x=>BD x k'):=by
 refine Ie rfl fun j x y hx hy=>?_
 rw[hx]at hy
 cases hy
 unfold BD
 split
 ·exact hk _ _ _ _ _ _ _ _
 ·trivial
theorem XM {l:List D}{i:Int}{k k':ByteArray→Int→ByteArray→List D→Option α}(hk:∀x0 x1 x2 x3,RO R (k x0 x1 x2 x3) (k' x0 x1 x2 x3)):RO R (Ap l i fun x=>Bv x k) (Ap l i fun x=>Bv x k'):=by
 refine Ie rfl fun j x y hx hy=>?_
 rw[hx]at hy
 cases hy
 unfold Bv
 split
 ·exact hk _ _ _ _
 ·trivial
theorem pV {a b a' b':List D}{i:Int}{k k':List D→Option α}(h1:Ss a a') (h2:Ss b b') (hk:∀{l l'},Ss l l'→RO R (k l) (k' l')):RO R (Ap [.list true 15 a,.list true 15 b] i fun x=>Bd x k) (Ap [.list true 15 a',.list true 15 b'] i fun x=>Bd x k'):=by
 refine Ie rfl fun j x y hx hy=>?_
 match j with
 | 0=>simp at hx hy;subst hx;subst hy;exact hk h1
 | 1=>simp at hx hy;subst hx;subst hy;exact hk h2
 | j+2=>simp at hx
theorem CF {X0:Type}{x x':Option (X0)}{k k':X0→Option α}(h:RO Eq x x') (hk:∀x0,RO R (k x0) (k' x0)):RO R (bO1 x k) (bO1 x' k'):=by
 have e:=h.eq
 subst e
 cases x with
 | none=>trivial
 | some _=>exact hk _
theorem OO {X0 X1:Type}{x x':Option (X0×X1)}{k k':X0→X1→Option α}(h:RO Eq x x') (hk:∀x0 x1,RO R (k x0 x1) (k' x0 x1)):RO R (bO2 x k) (bO2 x' k'):=by
 have e:=h.eq
 subst e
 cases x with
 | none=>trivial
 | some _=>exact hk _ _
theorem zI {X0 X1 X2:Type}{x x':Option (X0×X1×X2)}{k k':X0→X1→X2→Option α}(h:RO Eq x x') (hk:∀x0 x1 x2,RO R (k x0 x1 x2) (k' x0 x1 x2)):RO R (bO3 x k) (bO3 x' k'):=by
 have e:=h.eq
 subst e
 cases x with
 | none=>trivial
 | some _=>exact hk _ _ _
theorem zJ {X0 X1 X2 X3:Type}{x x':Option (X0×X1×X2×X3)}{k k':X0→X1→X2→X3→Option α}(h:RO Eq x x') (hk:∀x0 x1 x2 x3,RO R (k x0 x1 x2 x3) (k' x0 x1 x2 x3)):RO R (bO4 x k) (bO4 x' k'):=by
 have e:=h.eq
 subst e
 cases x with
 | none=>trivial
 | some _=>exact hk _ _ _ _
theorem cb7 {X0 X1 X2 X3 X4 X5 X6:Type}{x x':Option (X0×X1×X2×X3×X4×X5×X6)}{k k':X0→X1→X2→X3→X4→X5→X6→Option α}(h:RO Eq x x') (hk:∀x0 x1 x2 x3 x4 x5 x6,RO R (k x0 x1 x2 x3 x4 x5 x6) (k' x0 x1 x2 x3 x4 x5 x6)):RO R (bO7 x k) (bO7 x' k'):=by
 have e:=h.eq
 subst e
 cases x with
 | none=>trivial
 | some _=>exact hk _ _ _ _ _ _ _
theorem OP {X0 X1 X2 X3 X4 X5 X6 X7 X8 X9:Type}{x x':Option (X0×X1×X2×X3×X4×X5×X6×X7×X8×X9)}{k k':X0→X1→X2→X3→X4→X5→X6→X7→X8→X9→Option α}(h:RO Eq x x') (hk:∀x0 x1 x2 x3 x4 x5 x6 x7 x8 x9,RO R (k x0 x1 x2 x3 x4 x5 x6 x7 x8 x9) (k' x0 x1 x2 x3 x4 x5 x6 x7 x8 x9)):RO R (bO10 x k) (bO10 x' k'):=by
 have e:=h.eq
 subst e
 cases x with
 | none=>trivial
 | some _=>exact hk _ _ _ _ _ _ _ _ _ _
theorem cs {X Y:Type}{x x':Option (X ⊕ Y)}{k1 k1':X→Option α}{k2 k2':Y→Option α}(h:RO Eq x x') (h1:∀a,RO R (k1 a) (k1' a)) (h2:∀a,RO R (k2 a) (k2' a)):RO R (bS x k1 k2) (bS x' k1' k2'):=by
 have e:=h.eq
 subst e
 rcases x with _ | (_ | _)
 ·trivial
 ·exact h1 _
 ·exact h2 _
end
inductive R1:Bool×Int×ByteArray×List D×Int×ByteArray×List D×List D×Int×Int×ByteArray×ByteArray×ByteArray×List D×List D×Int×Int×Int→Bool×Int×ByteArray×List D×Int×ByteArray×List D×List D×Int×Int×ByteArray×ByteArray×ByteArray×List D×List D×Int×Int×Int→Prop where
 | mk {x0:Bool} {x1:Int} {x2:ByteArray} {x3:List D} {x4:Int} {x5:ByteArray} {x6:List D} {x7 y7:List D} {x8:Int} {x9:Int} {x10:ByteArray} {x11:ByteArray} {x12:ByteArray} {x13:List D} {x14 y14:List D} {x15 y15:Int} {x16 y16:Int} {x17:Int}:Ss x7 y7→Es x14 y14→R1 (x0,x1,x2,x3,x4,x5,x6,x7,x8,x9,x10,x11,x12,x13,x14,x15,x16,x17) (x0,x1,x2,x3,x4,x5,x6,y7,x8,x9,x10,x11,x12,x13,y14,y15,y16,x17)
theorem ZV {α:Type}{R:α→α→Prop}{x x':Option (Bool×Int×ByteArray×List D×Int×ByteArray×List D×List D×Int×Int×ByteArray×ByteArray×ByteArray×List D×List D×Int×Int×Int)}{k k':Bool→Int→ByteArray→(List D)→Int→ByteArray→(List D)→(List D)→Int→Int→ByteArray→ByteArray→ByteArray→(List D)→(List D)→Int→Int→Int→Option α}(h:RO R1 x x') (hk:∀{x0:Bool}{x1:Int}{x2:ByteArray}{x3:List D}{x4:Int}{x5:ByteArray}{x6:List D}{x7 y7:List D}{x8:Int}{x9:Int}{x10:ByteArray}{x11:ByteArray}{x12:ByteArray}{x13:List D}{x14 y14:List D}{x15 y15:Int}{x16 y16:Int}{x17:Int},Ss x7 y7→Es x14 y14→RO R (k x0 x1 x2 x3 x4 x5 x6 x7 x8 x9 x10 x11 x12 x13 x14 x15 x16 x17) (k' x0 x1 x2 x3 x4 x5 x6 y7 x8 x9 x10 x11 x12 x13 y14 y15 y16 x17)):RO R (bO18 x k) (bO18 x' k'):=by
 cases x<;>cases x'<;>first | exact trivial | exact h.elim | (cases (show R1 _ _ from h)with | mk h0 h1=>exact hk h0 h1)
inductive R2:Bool×Int×Int×ByteArray×ByteArray×ByteArray×List D×List D×Int×Int→Bool×Int×Int×ByteArray×ByteArray×ByteArray×List D×List D×Int×Int→Prop where
 | mk {x0:Bool} {x1:Int} {x2:Int} {x3:ByteArray} {x4:ByteArray} {x5:ByteArray} {x6:List D} {x7 y7:List D} {x8 y8:Int} {x9:Int}:Es x7 y7→R2 (x0,x1,x2,x3,x4,x5,x6,x7,x8,x9) (x0,x1,x2,x3,x4,x5,x6,y7,y8,x9)
theorem fT {α:Type}{R:α→α→Prop}{x x':Option (Bool×Int×Int×ByteArray×ByteArray×ByteArray×List D×List D×Int×Int)}{k k':Bool→Int→Int→ByteArray→ByteArray→ByteArray→(List D)→(List D)→Int→Int→Option α}(h:RO R2 x x') (hk:∀{x0:Bool}{x1:Int}{x2:Int}{x3:ByteArray}{x4:ByteArray}{x5:ByteArray}{x6:List D}{x7 y7:List D}{x8 y8:Int}{x9:Int},Es x7 y7→RO R (k x0 x1 x2 x3 x4 x5 x6 x7 x8 x9) (k' x0 x1 x2 x3 x4 x5 x6 y7 y8 x9)):RO R (bO10 x k) (bO10 x' k'):=by
 cases x<;>cases x'<;>first | exact trivial | exact h.elim | (cases (show R2 _ _ from h)with | mk h0=>exact hk h0)
inductive R3:Int×ByteArray×ByteArray×List D×Int×ByteArray×List D×Int×ByteArray×List D×List D×List D×List D×List D×Int→Int×ByteArray×ByteArray×List D×Int×ByteArray×List D×Int×ByteArray×List D×List D×List D×List D×List D×Int→Prop where
 | mk {x0:Int} {x1:ByteArray} {x2:ByteArray} {x3:List D} {x4:Int} {x5:ByteArray} {x6:List D} {x7:Int} {x8:ByteArray} {x9:List D} {x10 y10:List D} {x11 y11:List D} {x12 y12:List D} {x13 y13:List D} {x14 y14:Int}:Es x10 y10→Ss x11 y11→Ss x12 y12→As x13 y13→R3 (x0,x1,x2,x3,x4,x5,x6,x7,x8,x9,x10,x11,x12,x13,x14) (x0,x1,x2,x3,x4,x5,x6,x7,x8,x9,y10,y11,y12,y13,y14)
theorem fU {α:Type}{R:α→α→Prop}{x x':Option (Int×ByteArray×ByteArray×List D×Int×ByteArray×List D×Int×ByteArray×List D×List D×List D×List D×List D×Int)}{k k':Int→ByteArray→ByteArray→(List D)→Int→ByteArray→(List D)→Int→ByteArray→(List D)→(List D)→(List D)→(List D)→(List D)→Int→Option α}(h:RO R3 x x') (hk:∀{x0:Int}{x1:ByteArray}{x2:ByteArray}{x3:List D}{x4:Int}{x5:ByteArray}{x6:List D}{x7:Int}{x8:ByteArray}{x9:List D}{x10 y10:List D}{x11 y11:List D}{x12 y12:List D}{x13 y13:List D}{x14 y14:Int},Es x10 y10→Ss x11 y11→Ss x12 y12→As x13 y13→RO R (k x0 x1 x2 x3 x4 x5 x6 x7 x8 x9 x10 x11 x12 x13 x14) (k' x0 x1 x2 x3 x4 x5 x6 x7 x8 x9 y10 y11 y12 y13 y14)):RO R (bO15 x k) (bO15 x' k'):=by
 cases x<;>cases x'<;>first | exact trivial | exact h.elim | (cases (show R3 _ _ from h)with | mk h0 h1 h2 h3=>exact hk h0 h1 h2 h3)
inductive R4:Int×Int×ByteArray×ByteArray×List D×Int×ByteArray×List D×Int×ByteArray×List D×List D×List D×List D×List D×Int→Int×Int×ByteArray×ByteArray×List D×Int×ByteArray×List D×Int×ByteArray×List D×List D×List D×List D×List D×Int→Prop where
 | mk {x0:Int} {x1:Int} {x2:ByteArray} {x3:ByteArray} {x4:List D} {x5:Int} {x6:ByteArray} {x7:List D} {x8:Int} {x9:ByteArray} {x10:List D} {x11 y11:List D} {x12 y12:List D} {x13 y13:List D} {x14 y14:List D} {x15 y15:Int}:Es x11 y11→Ss x12 y12→Ss x13 y13→As x14 y14→R4 (x0,x1,x2,x3,x4,x5,x6,x7,x8,x9,x10,x11,x12,x13,x14,x15) (x0,x1,x2,x3,x4,x5,x6,x7,x8,x9,x10,y11,y12,y13,y14,y15)
theorem fV {α:Type}{R:α→α→Prop}{x x':Option (Int×Int×ByteArray×ByteArray×List D×Int×ByteArray×List D×Int×ByteArray×List D×List D×List D×List D×List D×Int)}{k k':Int→Int→ByteArray→ByteArray→(List D)→Int→ByteArray→(List D)→Int→ByteArray→(List D)→(List D)→(List D)→(List D)→(List D)→Int→Option α}(h:RO R4 x x') (hk:∀{x0:Int}{x1:Int}{x2:ByteArray}{x3:ByteArray}{x4:List D}{x5:Int}{x6:ByteArray}{x7:List D}{x8:Int}{x9:ByteArray}{x10:List D}{x11 y11:List D}{x12 y12:List D}{x13 y13:List D}{x14 y14:List D}{x15 y15:Int},Es x11 y11→Ss x12 y12→Ss x13 y13→As x14 y14→RO R (k x0 x1 x2 x3 x4 x5 x6 x7 x8 x9 x10 x11 x12 x13 x14 x15) (k' x0 x1 x2 x3 x4 x5 x6 x7 x8 x9 x10 y11 y12 y13 y14 y15)):RO R (bO16 x k) (bO16 x' k'):=by
 cases x<;>cases x'<;>first | exact trivial | exact h.elim | (cases (show R4 _ _ from h)with | mk h0 h1 h2 h3=>exact hk h0 h1 h2 h3)
theorem ZW (n:Nat):(∀{a a' b c d e},Es a a'→RO Eq (Gk n a b c d e) (Gk n a' b c d e))∧
 (∀{a a' b c d},Es a a'→RO Eq (Fw n a b c d) (Fw n a' b c d))∧
 (∀{a a' b c},Es a a'→RO Eq (Fv n a b c) (Fv n a' b c))∧
 (∀{a a' b},Es a a'→RO Eq (Lv n a b) (Lv n a' b))∧
 (∀{a b c d e f g g' i i' j k l m o p q r},Es g g'→RO Eq (T1 n a b c d e f g i j k l m o p q r) (T1 n a b c d e f g' i' j k l m o p q r)):=by
 induction n with
 | zero=>exact⟨by intros;exact trivial,by intros;exact trivial,by intros;exact trivial,by intros;exact trivial,by intros;exact trivial⟩
 | succ n ih=>
  obtain⟨i_L118_3,i_L118_2,i_L118_1,i_F118,i_F62⟩:=ih
  refine⟨?_,?_,?_,?_,?_⟩
  ·intros;rename_i hl1;simp only[Gk];exact ci (Nq hl1 fun hl16=>XL fun _ _ _ _ _ _ _ _=>CF (i_F62 hl16) fun _=>Ai fun _=>ci rr (Ay fun _=>i_L118_2 hl1)) rr
  ·intros;rename_i hl1;simp only[Fw];exact ci (i_L118_3 hl1) (i_L118_3 hl1)
  ·intros;rename_i hl1;simp only[Fv];exact ci rr (cl hl1 fun _=>i_L118_2 hl1)
  ·intros;rename_i hl1;simp only[Lv];exact cl hl1 fun _=>VC fun _=>ci (i_L118_1 hl1) (i_L118_1 hl1)
  ·intros;rename_i hl7;simp only[T1];exact ci (ci (ci (ci (CF rr fun _=>ci (CF (i_F118 hl7) fun _=>rr) rr) rr) rr) rr) rr
theorem pW {n:Nat}:∀{a b c d e f g g' i i' j k l m o p q r},Es g g'→RO Eq (T1 n a b c d e f g i j k l m o p q r) (T1 n a b c d e f g' i' j k l m o p q r):=(ZW n).2.2.2.2
theorem cY {n:Nat}:∀{a b c d e f g i i' j k l m o p q q' r r' s s' t},Ss i i'→Es q q'→RO R1 (Ni n a b c d e f g i j k l m o p q r s t) (Ni n a b c d e f g i' j k l m o p q' r' s' t):=by
 intros;rename_i hl8 hl15
 unfold Ni
 exact zI rr fun _ _ _=>.mk hl8 hl15
theorem Ns {n:Nat}:∀{a b c d e f g g' i i'},Es g g'→RO Eq (U7 n a b c d e f g i) (U7 n a b c d e f g' i'):=by
 intros;rename_i hl7
 unfold U7
 exact rr
theorem WA {n:Nat}:∀{a b c c' d},Es c c'→RO Eq (Lc n a b c d) (Lc n a b c' d):=by
 intros;rename_i hl7
 cases n with
 | zero=>exact trivial
 | succ n=>simp only[Lc];exact ci (ci (VC fun _=>cl hl7 fun _=>rr) rr) rr
theorem pX {n:Nat}:∀{a b c d e f g g' i i' j},Es g g'→RO Eq (jZ n a b c d e f g i j) (jZ n a b c d e f g' i' j):=by
 intros;rename_i hl7
 unfold jZ
 exact ci rr (ci (WA hl7) (WA hl7))
theorem pY {n:Nat}:∀{a b c d e f g g' i i'},Es g g'→RO Eq (jY n a b c d e f g i) (jY n a b c d e f g' i'):=by
 intros;rename_i hl7
 unfold jY
 exact rr
theorem pZ (n:Nat):(∀{a b c d e f g g' i i' j k l m o p q q' r r' s},Es g g'→Es q q'→RO R2 (kA n a b c d e f g i j k l m o p q r s) (kA n a b c d e f g' i' j k l m o p q' r' s))∧
 (∀{a a' b c d e f g i j k k' l l' m o},Es a a'→Es k k'→RO R2 (Iy n a b c d e f g i j k l m o) (Iy n a' b c d e f g i j k' l' m o))∧
 (∀{a a' b c d e f g i j k k' l l' m},Es a a'→Es k k'→RO R2 (KC n a b c d e f g i j k l m) (KC n a' b c d e f g i j k' l' m))∧
 (∀{a a' b c d e f g i j j' k k' l},Es a a'→Es j j'→RO R2 (kB n a b c d e f g i j k l) (kB n a' b c d e f g i j' k' l))∧
 (∀{a b c d e f g g' i i' j k l},Es g g'→RO Eq (H9 n a b c d e f g i j k l) (H9 n a b c d e f g' i' j k l))∧
 (∀{a b c d e f g g' i i' j},Es g g'→RO Eq (Lw n a b c d e f g i j) (Lw n a b c d e f g' i' j)):=by
 induction n with
 | zero=>exact⟨by intros;exact trivial,by intros;exact trivial,by intros;exact trivial,by intros;exact trivial,by intros;exact trivial,by intros;exact trivial⟩
 | succ n ih=>
  obtain⟨i_F99,i_L98_2,i_L98_1,i_F98,i_L54_1,i_F54⟩:=ih
  refine⟨?_,?_,?_,?_,?_,?_⟩
  ·intros;rename_i hl7 hl15;simp only[kA];exact ci (Ay fun _=>CF (i_F54 hl7) fun _=>.mk hl15) (CF (Ns hl7) fun _=>Ai fun _=>ci (Ay fun _=>CF (i_F54 hl7) fun _=>.mk hl15) (.mk hl15))
  ·intros;rename_i hl1 hl19;simp only[Iy];exact ci (Nq hl1 fun hl31=>fT (i_F99 hl31 hl19) fun hl40=>Ai fun _=>ci (.mk hl40) (Ay fun _=>i_L98_1 hl1 hl40)) (cl hl1 fun _=>ci (.mk hl19) (.mk hl19))
  ·intros;rename_i hl1 hl19;simp only[KC];exact cl hl1 fun _=>ci (ci (i_L98_2 hl1 hl19) (i_L98_2 hl1 hl19)) (i_L98_2 hl1 hl19)
  ·intros;rename_i hl1 hl9;simp only[kB];exact i_L98_1 hl1 hl9
  ·intros;rename_i hl7;simp only[H9];exact ci rr (fT (i_F98 hl7 hl7) fun hl28=>rr)
  ·intros;rename_i hl7;simp only[Lw];exact zJ rr fun _ _ _ _=>ci (i_L54_1 hl7) (Ai fun _=>ci (i_L54_1 hl7) (CF (pY hl7) fun _=>Ai fun _=>ci (i_L54_1 hl7) (cl hl7 fun _=>ci (i_L54_1 hl7) (CF (pX hl7) fun _=>Ai fun _=>i_L54_1 hl7))))
theorem IM {n:Nat}:∀{a b c d e f g g' i i' j},Es g g'→RO Eq (Lw n a b c d e f g i j) (Lw n a b c d e f g' i' j):=(pZ n).2.2.2.2.2
theorem kQ {n:Nat}:∀{a b c d e f g g' i i' j k l m o p q r s},Es g g'→RO Eq (K9 n a b c d e f g i j k l m o p q r s) (K9 n a b c d e f g' i' j k l m o p q r s):=by
 intros;rename_i hl7
 unfold K9
 exact ci (Ay fun _=>CF (IM hl7) fun _=>rr) (CF (Ns hl7) fun _=>Ai fun _=>ci (Ay fun _=>CF (IM hl7) fun _=>rr) rr)
theorem XN (n:Nat):(∀{a a' b c d e f g i j k l m o},Es a a'→RO Eq (CA n a b c d e f g i j k l m o) (CA n a' b c d e f g i j k l m o))∧
 (∀{a a' b c d e f g i j k l m},Es a a'→RO Eq (B2 n a b c d e f g i j k l m) (B2 n a' b c d e f g i j k l m)):=by
 induction n with
 | zero=>exact⟨by intros;exact trivial,by intros;exact trivial⟩
 | succ n ih=>
  obtain⟨i_L98x1_2,i_L98x1_1⟩:=ih
  refine⟨?_,?_⟩
  ·intros;rename_i hl1;simp only[CA];exact ci (Nq hl1 fun hl31=>OP (kQ hl31) fun _ _ _ _ _ _ _ _ _ _=>Ai fun _=>ci rr (Ay fun _=>i_L98x1_1 hl1)) (cl hl1 fun _=>rr)
  ·intros;rename_i hl1;simp only[B2];exact cl hl1 fun _=>ci (ci (i_L98x1_2 hl1) (i_L98x1_2 hl1)) (i_L98x1_2 hl1)
theorem XO {n:Nat}:∀{a a' b c d e f g i j k l m},Es a a'→RO Eq (B2 n a b c d e f g i j k l m) (B2 n a' b c d e f g i j k l m):=(XN n).2
theorem cZ {n:Nat}:∀{a a' b c d e f g i j k l},Es a a'→RO Eq (Ej n a b c d e f g i j k l) (Ej n a' b c d e f g i j k l):=by
 intros;rename_i hl1
 unfold Ej
 exact XO hl1
theorem Nt {n:Nat}:∀{a b c d e f g i j k l l' m m' o o' p p' q q'},Es l l'→Ss m m'→Ss o o'→As p p'→RO Eq (Nk n a b c d e f g i j k l m o p q) (Nk n a b c d e f g i j k l' m' o' p' q'):=by
 intros;rename_i hl11 hl12 hl13 hl14
 unfold Nk
 exact rr
theorem ZX {n:Nat}:∀{a b c d e f g g' i i' j k l m o p q r s},Es g g'→RO Eq (IE n a b c d e f g i j k l m o p q r s) (IE n a b c d e f g' i' j k l m o p q r s):=by
 intros;rename_i hl7
 unfold IE
 exact ci (Ay fun _=>CF (IM hl7) fun _=>rr) (CF (Ns hl7) fun _=>Ai fun _=>ci (Ay fun _=>CF (IM hl7) fun _=>rr) rr)
theorem XP (n:Nat):(∀{a a' b c d e f g i j k l m o},Es a a'→RO Eq (Ey n a b c d e f g i j k l m o) (Ey n a' b c d e f g i j k l m o))∧
 (∀{a a' b c d e f g i j k l m},Es a a'→RO Eq (EL n a b c d e f g i j k l m) (EL n a' b c d e f g i j k l m)):=by
 induction n with
 | zero=>exact⟨by intros;exact trivial,by intros;exact trivial⟩
 | succ n ih=>
  obtain⟨i_L98x5_2,i_L98x5_1⟩:=ih
  refine⟨?_,?_⟩
  ·intros;rename_i hl1;simp only[Ey];exact ci (Nq hl1 fun hl31=>OP (ZX hl31) fun _ _ _ _ _ _ _ _ _ _=>Ai fun _=>ci rr (Ay fun _=>i_L98x5_1 hl1)) (cl hl1 fun _=>rr)
  ·intros;rename_i hl1;simp only[EL];exact cl hl1 fun _=>ci (ci (i_L98x5_2 hl1) (i_L98x5_2 hl1)) (i_L98x5_2 hl1)
theorem XQ {n:Nat}:∀{a a' b c d e f g i j k l m},Es a a'→RO Eq (EL n a b c d e f g i j k l m) (EL n a' b c d e f g i j k l m):=(XP n).2
theorem dA {n:Nat}:∀{a a' b c d e f g i j k l},Es a a'→RO Eq (Li n a b c d e f g i j k l) (Li n a' b c d e f g i j k l):=by
 intros;rename_i hl1
 unfold Li
 exact XQ hl1
theorem ZY {n:Nat}:∀{a b c d e f g g' i i' j k l m o p q r s},Es g g'→RO Eq (IB n a b c d e f g i j k l m o p q r s) (IB n a b c d e f g' i' j k l m o p q r s):=by
 intros;rename_i hl7
 unfold IB
 exact ci (Ay fun _=>CF (IM hl7) fun _=>rr) (CF (Ns hl7) fun _=>Ai fun _=>ci (Ay fun _=>CF (IM hl7) fun _=>rr) rr)
theorem XR (n:Nat):(∀{a a' b c d e f g i j k l m o},Es a a'→RO Eq (Ew n a b c d e f g i j k l m o) (Ew n a' b c d e f g i j k l m o))∧
 (∀{a a' b c d e f g i j k l m},Es a a'→RO Eq (EJ n a b c d e f g i j k l m) (EJ n a' b c d e f g i j k l m)):=by
 induction n with
 | zero=>exact⟨by intros;exact trivial,by intros;exact trivial⟩
 | succ n ih=>
  obtain⟨i_L98x3_2,i_L98x3_1⟩:=ih
  refine⟨?_,?_⟩
  ·intros;rename_i hl1;simp only[Ew];exact ci (Nq hl1 fun hl31=>OP (ZY hl31) fun _ _ _ _ _ _ _ _ _ _=>Ai fun _=>ci rr (Ay fun _=>i_L98x3_1 hl1)) (cl hl1 fun _=>rr)
  ·intros;rename_i hl1;simp only[EJ];exact cl hl1 fun _=>ci (ci (i_L98x3_2 hl1) (i_L98x3_2 hl1)) (i_L98x3_2 hl1)
theorem XS {n:Nat}:∀{a a' b c d e f g i j k l m},Es a a'→RO Eq (EJ n a b c d e f g i j k l m) (EJ n a' b c d e f g i j k l m):=(XR n).2
theorem dB {n:Nat}:∀{a a' b c d e f g i j k l},Es a a'→RO Eq (Lg n a b c d e f g i j k l) (Lg n a' b c d e f g i j k l):=by
 intros;rename_i hl1
 unfold Lg
 exact XS hl1
theorem ZZ {n:Nat}:∀{a b c d e f g g' i i' j k l m o p q r s},Es g g'→RO Eq (IC n a b c d e f g i j k l m o p q r s) (IC n a b c d e f g' i' j k l m o p q r s):=by
 intros;rename_i hl7
 unfold IC
 exact ci (Ay fun _=>CF (IM hl7) fun _=>rr) (CF (Ns hl7) fun _=>Ai fun _=>ci (Ay fun _=>CF (IM hl7) fun _=>rr) rr)
theorem XT (n:Nat):(∀{a a' b c d e f g i j k l m o},Es a a'→RO Eq (Ex n a b c d e f g i j k l m o) (Ex n a' b c d e f g i j k l m o))∧
 (∀{a a' b c d e f g i j k l m},Es a a'→RO Eq (EK n a b c d e f g i j k l m) (EK n a' b c d e f g i j k l m)):=by
 induction n with
 | zero=>exact⟨by intros;exact trivial,by intros;exact trivial⟩
 | succ n ih=>
  obtain⟨i_L98x4_2,i_L98x4_1⟩:=ih
  refine⟨?_,?_⟩
  ·intros;rename_i hl1;simp only[Ex];exact ci (Nq hl1 fun hl31=>OP (ZZ hl31) fun _ _ _ _ _ _ _ _ _ _=>Ai fun _=>ci rr (Ay fun _=>i_L98x4_1 hl1)) (cl hl1 fun _=>rr)
  ·intros;rename_i hl1;simp only[EK];exact cl hl1 fun _=>ci (ci (i_L98x4_2 hl1) (i_L98x4_2 hl1)) (i_L98x4_2 hl1)
theorem XU {n:Nat}:∀{a a' b c d e f g i j k l m},Es a a'→RO Eq (EK n a b c d e f g i j k l m) (EK n a' b c d e f g i j k l m):=(XT n).2
theorem dC {n:Nat}:∀{a a' b c d e f g i j k l},Es a a'→RO Eq (Lh n a b c d e f g i j k l) (Lh n a' b c d e f g i j k l):=by
 intros;rename_i hl1
 unfold Lh
 exact XU hl1
theorem Za {n:Nat}:∀{a b c d e f g g' i i' j k l m o p q r s},Es g g'→RO Eq (IA n a b c d e f g i j k l m o p q r s) (IA n a b c d e f g' i' j k l m o p q r s):=by
 intros;rename_i hl7
 unfold IA
 exact ci (Ay fun _=>CF (IM hl7) fun _=>rr) (CF (Ns hl7) fun _=>Ai fun _=>ci (Ay fun _=>CF (IM hl7) fun _=>rr) rr)
theorem XV (n:Nat):(∀{a a' b c d e f g i j k l m o},Es a a'→RO Eq (Eu n a b c d e f g i j k l m o) (Eu n a' b c d e f g i j k l m o))∧
 (∀{a a' b c d e f g i j k l m},Es a a'→RO Eq (EI n a b c d e f g i j k l m) (EI n a' b c d e f g i j k l m)):=by
 induction n with
 | zero=>exact⟨by intros;exact trivial,by intros;exact trivial⟩
 | succ n ih=>
  obtain⟨i_L98x2_2,i_L98x2_1⟩:=ih
  refine⟨?_,?_⟩
  ·intros;rename_i hl1;simp only[Eu];exact ci (Nq hl1 fun hl31=>OP (Za hl31) fun _ _ _ _ _ _ _ _ _ _=>Ai fun _=>ci rr (Ay fun _=>i_L98x2_1 hl1)) (cl hl1 fun _=>rr)
  ·intros;rename_i hl1;simp only[EI];exact cl hl1 fun _=>ci (ci (i_L98x2_2 hl1) (i_L98x2_2 hl1)) (i_L98x2_2 hl1)
theorem XW {n:Nat}:∀{a a' b c d e f g i j k l m},Es a a'→RO Eq (EI n a b c d e f g i j k l m) (EI n a' b c d e f g i j k l m):=(XV n).2
theorem dD {n:Nat}:∀{a a' b c d e f g i j k l},Es a a'→RO Eq (Ld n a b c d e f g i j k l) (Ld n a' b c d e f g i j k l):=by
 intros;rename_i hl1
 unfold Ld
 exact XW hl1
theorem kR {n:Nat}:∀{a b c d e f g i j k l l' m m' o o' p p' q q'},Es l l'→Ss m m'→Ss o o'→As p p'→RO Eq (RC n a b c d e f g i j k l m o p q) (RC n a b c d e f g i j k l' m' o' p' q'):=by
 intros;rename_i hl11 hl12 hl13 hl14
 unfold RC
 exact rr
theorem dE (n:Nat):(∀{a a' b b' c c' d d' e f g i j k},Es a a'→Ss b b'→Ss c c'→As d d'→RO Eq (GR n a b c d e f g i j k) (GR n a' b' c' d' e f g i j k))∧
 (∀{a a' b b' c c' d d' e f g i j k},Es a a'→Ss b b'→Ss c c'→As d d'→RO Eq (IH n a b c d e f g i j k) (IH n a' b' c' d' e f g i j k))∧
 (∀{a b c d e f f' g g' i i' j j' k l m o p q},Es f f'→Ss g g'→Ss i i'→As j j'→RO Eq (HO n a b c d e f g i j k l m o p q) (HO n a b c d e f' g' i' j' k l m o p q))∧
 (∀{a a' b b' c c' d d' e f},Es a a'→Ss b b'→Ss c c'→As d d'→RO Eq (HD n a b c d e f) (HD n a' b' c' d' e f))∧
 (∀{a a' b b' c c' d d' e f},Es a a'→Ss b b'→Ss c c'→As d d'→RO Eq (Fz n a b c d e f) (Fz n a' b' c' d' e f))∧
 (∀{a b c d e f f' g g' i i' j j' k l},Es f f'→Ss g g'→Ss i i'→As j j'→RO Eq (EZ n a b c d e f g i j k l) (EZ n a b c d e f' g' i' j' k l))∧
 (∀{a a' b b' c c' d d' e f},Es a a'→Ss b b'→Ss c c'→As d d'→RO Eq (I0 n a b c d e f) (I0 n a' b' c' d' e f))∧
 (∀{a a' b b' c c' d d' e f},Es a a'→Ss b b'→Ss c c'→As d d'→RO Eq (Iz n a b c d e f) (Iz n a' b' c' d' e f))∧
 (∀{a b c d e f f' g g' i i' j j' k l},Es f f'→Ss g g'→Ss i i'→As j j'→RO Eq (HP n a b c d e f g i j k l) (HP n a b c d e f' g' i' j' k l))∧
 (∀{a a' b b' c c' d d' e f},Es a a'→Ss b b'→Ss c c'→As d d'→RO Eq (F0 n a b c d e f) (F0 n a' b' c' d' e f))∧
 (∀{a a' b b' c c' d d' e f},Es a a'→Ss b b'→Ss c c'→As d d'→RO Eq (HE n a b c d e f) (HE n a' b' c' d' e f))∧
 (∀{a b c d e f f' g g' i i' j j' k l},Es f f'→Ss g g'→Ss i i'→As j j'→RO Eq (Ea n a b c d e f g i j k l) (Ea n a b c d e f' g' i' j' k l))∧
 (∀{a b c d e f g i j k l l' m m' o o' p p' q q' r},Es l l'→Ss m m'→Ss o o'→As p p'→RO Eq (VA n a b c d e f g i j k l m o p q r) (VA n a b c d e f g i j k l' m' o' p' q' r))∧
 (∀{a a' b c d e},Ss a a'→RO Eq (EM n a b c d e) (EM n a' b c d e))∧
 (∀{a a' b c d},Ss a a'→RO Eq (Ez n a b c d) (Ez n a' b c d))∧
 (∀{a a' b c},Ss a a'→RO Eq (Cz n a b c) (Cz n a' b c))∧
 (∀{a b c c' d},Ss c c'→RO Eq (VB n a b c d) (VB n a b c' d))∧
 (∀{a a' b c d e},As a a'→RO Eq (Fy n a b c d e) (Fy n a' b c d e))∧
 (∀{a a' b c d},As a a'→RO Eq (HC n a b c d) (HC n a' b c d))∧
 (∀{a a' b c},As a a'→RO Eq (JQ n a b c) (JQ n a' b c))∧
 (∀{a a' b b' c c' d d' e f g i j k l m},Es a a'→Ss b b'→Ss c c'→As d d'→RO Eq (ER n a b c d e f g i j k l m) (ER n a' b' c' d' e f g i j k l m))∧
 (∀{a a' b b' c c' d d' e f g i j k l m},Es a a'→Ss b b'→Ss c c'→As d d'→RO Eq (IG n a b c d e f g i j k l m) (IG n a' b' c' d' e f g i j k l m))∧
 (∀{a b c d e f f' g g' i i' j j' k l m o p q r s},Es f f'→Ss g g'→Ss i i'→As j j'→RO Eq (GQ n a b c d e f g i j k l m o p q r s) (GQ n a b c d e f' g' i' j' k l m o p q r s))∧
 (∀{a b c d e f g i j k l l' m m' o o' p p' q q' r},Es l l'→Ss m m'→Ss o o'→As p p'→RO Eq (Z8 n a b c d e f g i j k l m o p q r) (Z8 n a b c d e f g i j k l' m' o' p' q' r)):=by
 induction n with
 | zero=>exact⟨by intros;exact trivial,by intros;exact trivial,by intros;exact trivial,by intros;exact trivial,by intros;exact trivial,by intros;exact trivial,by intros;exact trivial,by intros;exact trivial,by intros;exact trivial,by intros;exact trivial,by intros;exact trivial,by intros;exact trivial,by intros;exact trivial,by intros;exact trivial,by intros;exact trivial,by intros;exact trivial,by intros;exact trivial,by intros;exact trivial,by intros;exact trivial,by intros;exact trivial,by intros;exact trivial,by intros;exact trivial,by intros;exact trivial,by intros;exact trivial⟩
 | succ n ih=>
  obtain⟨i_L77_6,i_L77_5,i_L77_4,i_L77_12,i_L77_11,i_L77_10,i_L77_9,i_L77_8,i_L77_7,i_L77_15,i_L77_14,i_L77_13,i_F127,i_L75x1_2,i_L75x1_1,i_F75x1,i_F130,i_L129_2,i_L129_1,i_F129,i_L77_3,i_L77_2,i_L77_1,i_F77⟩:=ih
  refine⟨?_,?_,?_,?_,?_,?_,?_,?_,?_,?_,?_,?_,?_,?_,?_,?_,?_,?_,?_,?_,?_,?_,?_,?_⟩
  ·intros;rename_i hl11 hl12 hl13 hl14;simp only[GR];exact ci rr (OP (dD hl11) fun _ _ _ _ _ _ _ _ _ _=>ci (cl hl12 fun _=>OO (i_F75x1 hl12) fun _ _=>ci (cl hl13 fun _=>OO (i_F75x1 hl13) fun _ _=>ci (OO (i_F129 hl14) fun _ _=>rr) rr) rr) rr)
  ·intros;rename_i hl11 hl12 hl13 hl14;simp only[IH];exact ci rr (Ai fun _=>ci (cl hl12 fun _=>ci (i_L77_6 hl11 hl12 hl13 hl14) (cl hl13 fun _=>ci (i_L77_6 hl11 hl12 hl13 hl14) (cl hl14 fun _=>ci (i_L77_6 hl11 hl12 hl13 hl14) (i_L77_6 hl11 hl12 hl13 hl14)))) (cl hl13 fun _=>ci (i_L77_6 hl11 hl12 hl13 hl14) (cl hl14 fun _=>ci (i_L77_6 hl11 hl12 hl13 hl14) (i_L77_6 hl11 hl12 hl13 hl14))))
  ·intros;rename_i hl11 hl12 hl13 hl14;simp only[HO];exact ci rr (Ay fun _=>CF rr fun _=>Ai fun _=>ci (i_L77_5 hl11 hl12 hl13 hl14) (CF rr fun _=>Ai fun _=>ci (i_L77_5 hl11 hl12 hl13 hl14) (CF rr fun _=>Ai fun _=>ci (i_L77_5 hl11 hl12 hl13 hl14) (Ai fun _=>ci (CF rr fun _=>Ai fun _=>i_L77_5 hl11 hl12 hl13 hl14) (i_L77_5 hl11 hl12 hl13 hl14)))))
  ·intros;rename_i hl11 hl12 hl13 hl14;simp only[HD];exact ci rr (OP (dC hl11) fun _ _ _ _ _ _ _ _ _ _=>ci (cl hl12 fun _=>OO (i_F75x1 hl12) fun _ _=>ci (cl hl13 fun _=>OO (i_F75x1 hl13) fun _ _=>ci (OO (i_F129 hl14) fun _ _=>rr) rr) rr) rr)
  ·intros;rename_i hl11 hl12 hl13 hl14;simp only[Fz];exact ci rr (cl hl12 fun _=>ci (i_L77_12 hl11 hl12 hl13 hl14) (cl hl13 fun _=>ci (i_L77_12 hl11 hl12 hl13 hl14) (i_L77_12 hl11 hl12 hl13 hl14)))
  ·intros;rename_i hl11 hl12 hl13 hl14;simp only[EZ];exact ci rr (Ay fun _=>CF rr fun _=>Ai fun _=>ci (i_L77_11 hl11 hl12 hl13 hl14) (CF rr fun _=>Ai fun _=>ci (i_L77_11 hl11 hl12 hl13 hl14) (CF rr fun _=>Ai fun _=>ci (i_L77_11 hl11 hl12 hl13 hl14) (CF rr fun _=>Ai fun _=>i_L77_11 hl11 hl12 hl13 hl14))))
  ·intros;rename_i hl11 hl12 hl13 hl14;simp only[I0];exact ci rr (OP (dB hl11) fun _ _ _ _ _ _ _ _ _ _=>ci (cl hl12 fun _=>OO (i_F75x1 hl12) fun _ _=>ci (cl hl13 fun _=>OO (i_F75x1 hl13) fun _ _=>ci (OO (i_F129 hl14) fun _ _=>rr) rr) rr) rr)
  ·intros;rename_i hl11 hl12 hl13 hl14;simp only[Iz];exact ci rr (cl hl12 fun _=>ci (i_L77_9 hl11 hl12 hl13 hl14) (cl hl13 fun _=>ci (i_L77_9 hl11 hl12 hl13 hl14) (cl hl14 fun _=>ci (i_L77_9 hl11 hl12 hl13 hl14) (i_L77_9 hl11 hl12 hl13 hl14))))
  ·intros;rename_i hl11 hl12 hl13 hl14;simp only[HP];exact ci rr (Ay fun _=>CF rr fun _=>Ai fun _=>ci (i_L77_8 hl11 hl12 hl13 hl14) (CF rr fun _=>Ai fun _=>ci (i_L77_8 hl11 hl12 hl13 hl14) (CF rr fun _=>Ai fun _=>ci (i_L77_8 hl11 hl12 hl13 hl14) (CF rr fun _=>Ai fun _=>i_L77_8 hl11 hl12 hl13 hl14))))
  ·intros;rename_i hl11 hl12 hl13 hl14;simp only[F0];exact ci rr (OP (dA hl11) fun _ _ _ _ _ _ _ _ _ _=>ci (cl hl12 fun _=>OO (i_F75x1 hl12) fun _ _=>ci (cl hl13 fun _=>OO (i_F75x1 hl13) fun _ _=>ci (OO (i_F129 hl14) fun _ _=>rr) rr) rr) rr)
  ·intros;rename_i hl11 hl12 hl13 hl14;simp only[HE];exact ci rr (cl hl12 fun _=>ci (i_L77_15 hl11 hl12 hl13 hl14) (cl hl13 fun _=>ci (i_L77_15 hl11 hl12 hl13 hl14) (cl hl14 fun _=>ci (i_L77_15 hl11 hl12 hl13 hl14) (i_L77_15 hl11 hl12 hl13 hl14))))
  ·intros;rename_i hl11 hl12 hl13 hl14;simp only[Ea];exact ci rr (Ay fun _=>CF rr fun _=>Ai fun _=>ci (i_L77_14 hl11 hl12 hl13 hl14) (CF rr fun _=>Ai fun _=>ci (i_L77_14 hl11 hl12 hl13 hl14) (CF rr fun _=>Ai fun _=>i_L77_14 hl11 hl12 hl13 hl14)))
  ·intros;rename_i hl11 hl12 hl13 hl14;simp only[VA];exact Ay fun _=>CF (i_F77 hl11 hl12 hl13 hl14) fun _=>rr
  ·intros;rename_i hl1;simp only[EM];exact ci (Nr hl1 fun hl19 hl20 hl21 hl22=>OO (i_F127 hl19 hl20 hl21 hl22) fun _ _=>Ai fun _=>ci rr (Ay fun _=>i_L75x1_1 hl1)) (cl hl1 fun _=>rr)
  ·intros;rename_i hl1;simp only[Ez];exact cl hl1 fun _=>ci (ci (i_L75x1_2 hl1) (i_L75x1_2 hl1)) (i_L75x1_2 hl1)
  ·intros;rename_i hl1;simp only[Cz];exact i_L75x1_1 hl1
  ·intros;rename_i hl3;simp only[VB];exact CF rr fun _=>ci (ci (cl hl3 fun _=>OO (i_F75x1 hl3) fun _ _=>rr) (CF rr fun _=>ci (cl hl3 fun _=>OO (i_F75x1 hl3) fun _ _=>rr) rr)) rr
  ·intros;rename_i hl1;simp only[Fy];exact ci (kP hl1 fun hl11=>OO (i_F130 hl11) fun _ _=>Ai fun _=>ci rr (Ay fun _=>i_L129_1 hl1)) (cl hl1 fun _=>rr)
  ·intros;rename_i hl1;simp only[HC];exact cl hl1 fun _=>ci (ci (i_L129_2 hl1) (i_L129_2 hl1)) (i_L129_2 hl1)
  ·intros;rename_i hl1;simp only[JQ];exact i_L129_1 hl1
  ·intros;rename_i hl11 hl12 hl13 hl14;simp only[ER];exact ci rr (OP (cZ hl11) fun _ _ _ _ _ _ _ _ _ _=>ci (cl hl12 fun _=>OO (i_F75x1 hl12) fun _ _=>ci (cl hl13 fun _=>OO (i_F75x1 hl13) fun _ _=>ci (OO (i_F129 hl14) fun _ _=>rr) rr) rr) rr)
  ·intros;rename_i hl11 hl12 hl13 hl14;simp only[IG];exact ci rr (Ai fun _=>ci (cl hl12 fun _=>ci (i_L77_3 hl11 hl12 hl13 hl14) (Ai fun _=>ci (cl hl13 fun _=>ci (i_L77_3 hl11 hl12 hl13 hl14) (cl hl14 fun _=>ci (i_L77_3 hl11 hl12 hl13 hl14) (i_L77_3 hl11 hl12 hl13 hl14))) (cl hl14 fun _=>ci (i_L77_3 hl11 hl12 hl13 hl14) (i_L77_3 hl11 hl12 hl13 hl14)))) (Ai fun _=>ci (cl hl13 fun _=>ci (i_L77_3 hl11 hl12 hl13 hl14) (cl hl14 fun _=>ci (i_L77_3 hl11 hl12 hl13 hl14) (i_L77_3 hl11 hl12 hl13 hl14))) (cl hl14 fun _=>ci (i_L77_3 hl11 hl12 hl13 hl14) (i_L77_3 hl11 hl12 hl13 hl14))))
  ·intros;rename_i hl11 hl12 hl13 hl14;simp only[GQ];exact ci rr (Ay fun _=>CF rr fun _=>Ai fun _=>ci (i_L77_2 hl11 hl12 hl13 hl14) (CF rr fun _=>Ai fun _=>ci (i_L77_2 hl11 hl12 hl13 hl14) (CF rr fun _=>Ai fun _=>ci (i_L77_2 hl11 hl12 hl13 hl14) (Ai fun _=>ci (CF rr fun _=>Ai fun _=>i_L77_2 hl11 hl12 hl13 hl14) (i_L77_2 hl11 hl12 hl13 hl14)))))
  ·intros;rename_i hl11 hl12 hl13 hl14;simp only[Z8];exact cs (kR hl11 hl12 hl13 hl14) (fun _=>cb7 rr fun _ _ _ _ _ _ _=>ci (i_L77_1 hl11 hl12 hl13 hl14) (Ai fun _=>ci (i_L77_1 hl11 hl12 hl13 hl14) (CF (Nt hl11 hl12 hl13 hl14) fun _=>Ai fun _=>ci (i_L77_1 hl11 hl12 hl13 hl14) (CF rr fun _=>Ai fun _=>ci (i_L77_1 hl11 hl12 hl13 hl14) (CF rr fun _=>Ai fun _=>ci (i_L77_1 hl11 hl12 hl13 hl14) (cl hl11 fun _=>ci (CF rr fun _=>Ai fun _=>i_L77_1 hl11 hl12 hl13 hl14) (i_L77_1 hl11 hl12 hl13 hl14))))))) (fun _=>cs rr (fun _=>zJ rr fun _ _ _ _=>ci (i_L77_4 hl11 hl12 hl13 hl14) (CF (Nt hl11 hl12 hl13 hl14) fun _=>Ai fun _=>ci (i_L77_4 hl11 hl12 hl13 hl14) (CF rr fun _=>Ai fun _=>ci (i_L77_4 hl11 hl12 hl13 hl14) (CF rr fun _=>Ai fun _=>ci (i_L77_4 hl11 hl12 hl13 hl14) (cl hl11 fun _=>ci (CF rr fun _=>Ai fun _=>i_L77_4 hl11 hl12 hl13 hl14) (i_L77_4 hl11 hl12 hl13 hl14)))))) (fun _=>cs rr (fun _=>ci (i_L77_7 hl11 hl12 hl13 hl14) (CF (Nt hl11 hl12 hl13 hl14) fun _=>Ai fun _=>ci (i_L77_7 hl11 hl12 hl13 hl14) (CF rr fun _=>Ai fun _=>ci (i_L77_7 hl11 hl12 hl13 hl14) (CF rr fun _=>Ai fun _=>ci (i_L77_7 hl11 hl12 hl13 hl14) (cl hl11 fun _=>ci (CF rr fun _=>Ai fun _=>i_L77_7 hl11 hl12 hl13 hl14) (i_L77_7 hl11 hl12 hl13 hl14)))))) (fun _=>cs rr (fun _=>ci (i_L77_10 hl11 hl12 hl13 hl14) (CF (Nt hl11 hl12 hl13 hl14) fun _=>Ai fun _=>ci (i_L77_10 hl11 hl12 hl13 hl14) (CF rr fun _=>Ai fun _=>ci (i_L77_10 hl11 hl12 hl13 hl14) (CF rr fun _=>Ai fun _=>ci (i_L77_10 hl11 hl12 hl13 hl14) (cl hl11 fun _=>ci (CF rr fun _=>Ai fun _=>i_L77_10 hl11 hl12 hl13 hl14) (i_L77_10 hl11 hl12 hl13 hl14)))))) (fun _=>ci (i_L77_13 hl11 hl12 hl13 hl14) (CF (Nt hl11 hl12 hl13 hl14) fun _=>Ai fun _=>ci (i_L77_13 hl11 hl12 hl13 hl14) (CF rr fun _=>Ai fun _=>ci (i_L77_13 hl11 hl12 hl13 hl14) (CF rr fun _=>Ai fun _=>ci (i_L77_13 hl11 hl12 hl13 hl14) (cl hl11 fun _=>ci (CF rr fun _=>Ai fun _=>i_L77_13 hl11 hl12 hl13 hl14) (i_L77_13 hl11 hl12 hl13 hl14)))))))))
theorem qA {n:Nat}:∀{a b c d e f g i j k l l' m m' o o' p p' q q' r},Es l l'→Ss m m'→Ss o o'→As p p'→RO Eq (Z8 n a b c d e f g i j k l m o p q r) (Z8 n a b c d e f g i j k l' m' o' p' q' r):=(dE n).2.2.2.2.2.2.2.2.2.2.2.2.2.2.2.2.2.2.2.2.2.2.2
theorem qB {n:Nat}:∀{a b c d e f g i j k l l' m m' o o' p p' q q' r},Es l l'→Ss m m'→Ss o o'→As p p'→RO Eq (kO n a b c d e f g i j k l m o p q r) (kO n a b c d e f g i j k l' m' o' p' q' r):=by
 intros;rename_i hl11 hl12 hl13 hl14
 unfold kO
 exact Ay fun _=>CF (qA hl11 hl12 hl13 hl14) fun _=>rr
theorem dF (n:Nat):(∀{a a' b c d e},Ss a a'→RO Eq (I1 n a b c d e) (I1 n a' b c d e))∧
 (∀{a a' b c d},Ss a a'→RO Eq (II n a b c d) (II n a' b c d)):=by
 induction n with
 | zero=>exact⟨by intros;exact trivial,by intros;exact trivial⟩
 | succ n ih=>
  obtain⟨i_L75_2,i_L75_1⟩:=ih
  refine⟨?_,?_⟩
  ·intros;rename_i hl1;simp only[I1];exact ci (Nr hl1 fun hl19 hl20 hl21 hl22=>OO (qB hl19 hl20 hl21 hl22) fun _ _=>Ai fun _=>ci rr (Ay fun _=>i_L75_1 hl1)) (cl hl1 fun _=>rr)
  ·intros;rename_i hl1;simp only[II];exact cl hl1 fun _=>ci (ci (i_L75_2 hl1) (i_L75_2 hl1)) (i_L75_2 hl1)
theorem dG {n:Nat}:∀{a a' b c d},Ss a a'→RO Eq (II n a b c d) (II n a' b c d):=(dF n).2
theorem qC {n:Nat}:∀{a a' b c},Ss a a'→RO Eq (cV n a b c) (cV n a' b c):=by
 intros;rename_i hl1
 unfold cV
 exact dG hl1
theorem fW {n:Nat}:∀{a b c d e f g i i' j k l m o p q q' r r' s s' t},Ss i i'→Es q q'→RO R1 (fQ n a b c d e f g i j k l m o p q r s t) (fQ n a b c d e f g i' j k l m o p q' r' s' t):=by
 intros;rename_i hl8 hl15
 unfold fQ
 exact zI rr fun _ _ _=>.mk hl8 hl15
theorem WB {n:Nat}:∀{a b c d e f g g' i j k l m o p p' q q' r r' s t},Ss g g'→Es p p'→RO Eq (HQ n a b c d e f g i j k l m o p q r s t) (HQ n a b c d e f g' i j k l m o p' q' r' s t):=by
 intros;rename_i hl7 hl14
 cases n with
 | zero=>exact trivial
 | succ n=>simp only[HQ];exact ci (CF rr fun _=>ci (ZV (fW hl7 hl14) fun hl70 hl77=>ci (Ay fun _=>CF rr fun _=>ci (CF (Ns hl77) fun _=>Ai fun _=>ci (Ay fun _=>CF (IM hl77) fun _=>ci (cl hl70 fun _=>OO (qC hl70) fun _ _=>rr) rr) rr) rr) rr) rr) rr
theorem WC {n:Nat}:∀{a b c d e f g g' i j k l m o p p' q q' r r' s t u},Ss g g'→Es p p'→RO Eq (HR n a b c d e f g i j k l m o p q r s t u) (HR n a b c d e f g' i j k l m o p' q' r' s t u):=by
 intros;rename_i hl7 hl14
 cases n with
 | zero=>exact trivial
 | succ n=>simp only[HR];exact ci (ci (ZV (cY hl7 hl14) fun hl50 hl57=>rr) rr) (ci (WB hl7 hl14) (WB hl7 hl14))
theorem WD {n:Nat}:∀{a b c d e f g g' i j k l m o p p' q q' r r' s t u},Ss g g'→Es p p'→RO Eq (HS n a b c d e f g i j k l m o p q r s t u) (HS n a b c d e f g' i j k l m o p' q' r' s t u):=by
 intros;rename_i hl7 hl14
 cases n with
 | zero=>exact trivial
 | succ n=>simp only[HS];exact ci (ci (ZV (fW hl7 hl14) fun hl31 hl38=>rr) rr) (ci (WC hl7 hl14) (WC hl7 hl14))
theorem MD {n:Nat}:∀{a b c d e f g g' i j k l m o p p' q q' r r' s t},Ss g g'→Es p p'→RO Eq (Fc n a b c d e f g i j k l m o p q r s t) (Fc n a b c d e f g' i j k l m o p' q' r' s t):=by
 intros;rename_i hl7 hl14
 cases n with
 | zero=>exact trivial
 | succ n=>simp only[Fc];exact ci (WD hl7 hl14) (WD hl7 hl14)
theorem qD {n:Nat}:∀{a b c d e f g g' i j k l m o p p' q q' r r' s},Ss g g'→Es p p'→RO Eq (cW n a b c d e f g i j k l m o p q r s) (cW n a b c d e f g' i j k l m o p' q' r' s):=by
 intros;rename_i hl7 hl14
 unfold cW
 exact CF rr fun _=>ci (cl hl7 fun _=>ci (CF (pW hl14) fun _=>ci (CF rr fun _=>MD hl7 hl14) (MD hl7 hl14)) (MD hl7 hl14)) (MD hl7 hl14)
theorem qE {n:Nat}:∀{a b c d e f g g' i j k l m o p p' q q' r r'},Ss g g'→Es p p'→RO Eq (ZU n a b c d e f g i j k l m o p q r) (ZU n a b c d e f g' i j k l m o p' q' r'):=by
 intros;rename_i hl7 hl14
 unfold ZU
 exact CF (qD hl7 hl14) fun _=>rr
theorem dH (n:Nat):(∀{a a' b c d e},Es a a'→RO Eq (Lj n a b c d e) (Lj n a' b c d e))∧
 (∀{a a' b c d},Es a a'→RO Eq (KD n a b c d) (KD n a' b c d))∧
 (∀{a b c d e f g g' i i'},Es g g'→RO Eq (T2 n a b c d e f g i) (T2 n a b c d e f g' i')):=by
 induction n with
 | zero=>exact⟨by intros;exact trivial,by intros;exact trivial,by intros;exact trivial⟩
 | succ n ih=>
  obtain⟨i_L87_2,i_L87_1,i_F87⟩:=ih
  refine⟨?_,?_,?_⟩
  ·intros;rename_i hl7;simp only[Lj];exact ci (Nq hl7 fun hl20=>CF (i_F87 hl20) fun _=>Ay fun _=>Ay fun _=>i_L87_1 hl7) rr
  ·intros;rename_i hl7;simp only[KD];exact ci (i_L87_2 hl7) (i_L87_2 hl7)
  ·intros;rename_i hl7;simp only[T2];exact cl hl7 fun _=>i_L87_1 hl7
theorem fX {n:Nat}:∀{a b c d e f g g' i i'},Es g g'→RO Eq (T2 n a b c d e f g i) (T2 n a b c d e f g' i'):=(dH n).2.2
theorem fY {n:Nat}:∀{a b c d e f g i j k l l' m m' o o' p p' q q'},Es l l'→Ss m m'→Ss o o'→As p p'→RO R3 (cX n a b c d e f g i j k l m o p q) (cX n a b c d e f g i j k l' m' o' p' q'):=by
 intros;rename_i hl11 hl12 hl13 hl14
 unfold cX
 exact .mk hl11 hl12 hl13 hl14
theorem Zb (n:Nat):(∀{a b c d e f g i j k l l' m m' o o' p p' q q' r s t t' u v w x},Es l l'→Ss m m'→Ss o o'→As p p'→Ss t t'→RO R4 (Ed n a b c d e f g i j k l m o p q r s t u v w x) (Ed n a b c d e f g i j k l' m' o' p' q' r s t' u v w x))∧
 (∀{a b c d e f g i j k l l' m m' o o' p p' q q' r s t t' u v w},Es l l'→Ss m m'→Ss o o'→As p p'→Ss t t'→RO R4 (EA n a b c d e f g i j k l m o p q r s t u v w) (EA n a b c d e f g i j k l' m' o' p' q' r s t' u v w))∧
 (∀{a b c d e f g i j k l l' m m' o o' p p' q q' r s t u},Es l l'→Ss m m'→Ss o o'→As p p'→RO R4 (Ec n a b c d e f g i j k l m o p q r s t u) (Ec n a b c d e f g i j k l' m' o' p' q' r s t u))∧
 (∀{a b c d e f g i j k l l' m m' o o' p p' q q' r s t},Es l l'→Ss m m'→Ss o o'→As p p'→RO R4 (Dr n a b c d e f g i j k l m o p q r s t) (Dr n a b c d e f g i j k l' m' o' p' q' r s t))∧
 (∀{a b c d e f g i j k l l' m m' o o' p p' q q' r},Es l l'→Ss m m'→Ss o o'→As p p'→RO Eq (I2 n a b c d e f g i j k l m o p q r) (I2 n a b c d e f g i j k l' m' o' p' q' r))∧
 (∀{a b c d e f g i j k l l' m m' o o' p p' q q' r s s' t u v w},Es l l'→Ss m m'→Ss o o'→As p p'→Ss s s'→RO R4 (Eb n a b c d e f g i j k l m o p q r s t u v w) (Eb n a b c d e f g i j k l' m' o' p' q' r s' t u v w))∧
 (∀{a b c d e f g i j k l l' m m' o o' p p' q q' r s s' t u v},Es l l'→Ss m m'→Ss o o'→As p p'→Ss s s'→RO R4 (D9 n a b c d e f g i j k l m o p q r s t u v) (D9 n a b c d e f g i j k l' m' o' p' q' r s' t u v))∧
 (∀{a b c d e f g i j k l l' m m' o o' p p' q q' r s t},Es l l'→Ss m m'→Ss o o'→As p p'→RO R4 (D8 n a b c d e f g i j k l m o p q r s t) (D8 n a b c d e f g i j k l' m' o' p' q' r s t))∧
 (∀{a b c d e f g i j k l l' m m' o o' p p' q q' r s},Es l l'→Ss m m'→Ss o o'→As p p'→RO R4 (Dq n a b c d e f g i j k l m o p q r s) (Dq n a b c d e f g i j k l' m' o' p' q' r s))∧
 (∀{a b c d e f g i j k l m m' o o' p p' q q' r r'},Es m m'→Ss o o'→Ss p p'→As q q'→RO R4 (TG n a b c d e f g i j k l m o p q r) (TG n a b c d e f g i j k l m' o' p' q' r'))∧
 (∀{a b c d e f g i j k l l' m m' o o' p p' q q' r s t u},Es l l'→Ss m m'→Ss o o'→As p p'→RO Eq (HV n a b c d e f g i j k l m o p q r s t u) (HV n a b c d e f g i j k l' m' o' p' q' r s t u))∧
 (∀{a b c d e f g i j k l l' m m' o o' p p' q q' r s t},Es l l'→Ss m m'→Ss o o'→As p p'→RO Eq (GS n a b c d e f g i j k l m o p q r s t) (GS n a b c d e f g i j k l' m' o' p' q' r s t))∧
 (∀{a b c d e f g i j k l l' m m' o o' p p' q q' r},Es l l'→Ss m m'→Ss o o'→As p p'→RO Eq (HU n a b c d e f g i j k l m o p q r) (HU n a b c d e f g i j k l' m' o' p' q' r))∧
 (∀{a b c d e f g i j k l l' m m' o o' p p' q q' r},Es l l'→Ss m m'→Ss o o'→As p p'→RO Eq (HT n a b c d e f g i j k l m o p q r) (HT n a b c d e f g i j k l' m' o' p' q' r))∧
 (∀{a b c d e f g i j k l l' m m' o o' p p' q q'},Es l l'→Ss m m'→Ss o o'→As p p'→RO Eq (TH n a b c d e f g i j k l m o p q) (TH n a b c d e f g i j k l' m' o' p' q')):=by
 induction n with
 | zero=>exact⟨by intros;exact trivial,by intros;exact trivial,by intros;exact trivial,by intros;exact trivial,by intros;exact trivial,by intros;exact trivial,by intros;exact trivial,by intros;exact trivial,by intros;exact trivial,by intros;exact trivial,by intros;exact trivial,by intros;exact trivial,by intros;exact trivial,by intros;exact trivial,by intros;exact trivial⟩
 | succ n ih=>
  obtain⟨i_L138_8,i_L138_7,i_L138_6,i_L138_5,i_F88r0,i_L138_4,i_L138_3,i_L138_2,i_L138_1,i_F138,i_L88_4,i_L88_3,i_L88_2,i_L88_1,i_F88⟩:=ih
  refine⟨?_,?_,?_,?_,?_,?_,?_,?_,?_,?_,?_,?_,?_,?_,?_⟩
  ·intros;rename_i hl12 hl13 hl14 hl15 hl52;simp only[Ed];exact ci (Nr hl52 fun hl68 hl69 hl70 hl71=>CF (i_F88r0 hl68 hl69 hl70 hl71) fun _=>Ay fun _=>i_L138_7 hl12 hl13 hl14 hl15 hl52) (Ay fun _=>i_L138_5 hl12 hl13 hl14 hl15)
  ·intros;rename_i hl12 hl13 hl14 hl15 hl52;simp only[EA];exact ci (i_L138_8 hl12 hl13 hl14 hl15 hl52) (i_L138_8 hl12 hl13 hl14 hl15 hl52)
  ·intros;rename_i hl12 hl13 hl14 hl15;simp only[Ec];exact ci (kP hl15 fun hl52=>cl hl52 fun _=>i_L138_7 hl12 hl13 hl14 hl15 hl52) (.mk hl12 hl13 hl14 hl15)
  ·intros;rename_i hl12 hl13 hl14 hl15;simp only[Dr];exact ci (i_L138_6 hl12 hl13 hl14 hl15) (i_L138_6 hl12 hl13 hl14 hl15)
  ·intros;rename_i hl11 hl12 hl13 hl14;simp only[I2];exact CF (i_F88 hl11 hl12 hl13 hl14) fun _=>rr
  ·intros;rename_i hl12 hl13 hl14 hl15 hl21;simp only[Eb];exact ci (Nr hl21 fun hl37 hl38 hl39 hl40=>CF (i_F88r0 hl37 hl38 hl39 hl40) fun _=>Ay fun _=>i_L138_3 hl12 hl13 hl14 hl15 hl21) (Ay fun _=>i_L138_1 hl12 hl13 hl14 hl15)
  ·intros;rename_i hl12 hl13 hl14 hl15 hl21;simp only[D9];exact ci (i_L138_4 hl12 hl13 hl14 hl15 hl21) (i_L138_4 hl12 hl13 hl14 hl15 hl21)
  ·intros;rename_i hl12 hl13 hl14 hl15;simp only[D8];exact ci (pV hl13 hl14 fun hl21=>cl hl21 fun _=>i_L138_3 hl12 hl13 hl14 hl15 hl21) (cl hl15 fun _=>i_L138_5 hl12 hl13 hl14 hl15)
  ·intros;rename_i hl12 hl13 hl14 hl15;simp only[Dq];exact ci (i_L138_2 hl12 hl13 hl14 hl15) (i_L138_2 hl12 hl13 hl14 hl15)
  ·intros;rename_i hl12 hl13 hl14 hl15;simp only[TG];exact i_L138_1 hl12 hl13 hl14 hl15
  ·intros;rename_i hl11 hl12 hl13 hl14;simp only[HV];exact ci (Nq hl11 fun hl30=>CF (fX hl30) fun _=>Ay fun _=>Ay fun _=>i_L88_3 hl11 hl12 hl13 hl14) (fU (fY hl11 hl12 hl13 hl14) fun hl45 hl46 hl47 hl48=>fV (i_F138 hl45 hl46 hl47 hl48) fun hl61 hl62 hl63 hl64=>rr)
  ·intros;rename_i hl11 hl12 hl13 hl14;simp only[GS];exact ci (i_L88_4 hl11 hl12 hl13 hl14) (i_L88_4 hl11 hl12 hl13 hl14)
  ·intros;rename_i hl11 hl12 hl13 hl14;simp only[HU];exact cl hl11 fun _=>i_L88_3 hl11 hl12 hl13 hl14
  ·intros;rename_i hl11 hl12 hl13 hl14;simp only[HT];exact ci (CF rr fun _=>i_L88_2 hl11 hl12 hl13 hl14) (i_L88_2 hl11 hl12 hl13 hl14)
  ·intros;rename_i hl11 hl12 hl13 hl14;simp only[TH];exact ci (i_L88_1 hl11 hl12 hl13 hl14) (i_L88_1 hl11 hl12 hl13 hl14)
theorem qF {n:Nat}:∀{a b c d e f g i j k l l' m m' o o' p p' q q'},Es l l'→Ss m m'→Ss o o'→As p p'→RO Eq (TH n a b c d e f g i j k l m o p q) (TH n a b c d e f g i j k l' m' o' p' q'):=(Zb n).2.2.2.2.2.2.2.2.2.2.2.2.2.2
theorem dI (n:Nat):(∀{a a' b c d e},Ss a a'→RO Eq (Lk n a b c d e) (Lk n a' b c d e))∧
 (∀{a a' b c d},Ss a a'→RO Eq (IJ n a b c d) (IJ n a' b c d)):=by
 induction n with
 | zero=>exact⟨by intros;exact trivial,by intros;exact trivial⟩
 | succ n ih=>
  obtain⟨i_L39_4,i_L39_3⟩:=ih
  refine⟨?_,?_⟩
  ·intros;rename_i hl7;simp only[Lk];exact ci (Nr hl7 fun hl47 hl48 hl49 hl50=>CF (qF hl47 hl48 hl49 hl50) fun _=>Ay fun _=>Ay fun _=>i_L39_3 hl7) rr
  ·intros;rename_i hl7;simp only[IJ];exact ci (i_L39_4 hl7) (i_L39_4 hl7)
theorem dJ {n:Nat}:∀{a a' b c d},Ss a a'→RO Eq (IJ n a b c d) (IJ n a' b c d):=(dI n).2
theorem dK (n:Nat):(∀{a b b' c d e f},Ss b b'→RO Eq (Ll n a b c d e f) (Ll n a b' c d e f))∧
 (∀{a b b' c d e},Ss b b'→RO Eq (IK n a b c d e) (IK n a b' c d e)):=by
 induction n with
 | zero=>exact⟨by intros;exact trivial,by intros;exact trivial⟩
 | succ n ih=>
  obtain⟨i_L39_2,i_L39_1⟩:=ih
  refine⟨?_,?_⟩
  ·intros;rename_i hl7;simp only[Ll];exact ci (XM fun _ _ _ _=>CF rr fun _=>Ay fun _=>Ay fun _=>i_L39_1 hl7) (cl hl7 fun _=>dJ hl7)
  ·intros;rename_i hl7;simp only[IK];exact ci (i_L39_2 hl7) (i_L39_2 hl7)
theorem dL {n:Nat}:∀{a b b' c d e},Ss b b'→RO Eq (IK n a b c d e) (IK n a b' c d e):=(dK n).2
theorem fZ {n:Nat}:∀{a b c d e f g g' i j k l m o p p' q q' r r'},Ss g g'→Es p p'→RO Eq (V9 n a b c d e f g i j k l m o p q r) (V9 n a b c d e f g' i j k l m o p' q' r'):=by
 intros;rename_i hl7 hl14
 unfold V9
 exact CF rr fun _=>CF (fX hl14) fun _=>Ay fun _=>VC fun _=>dL hl7
theorem dM (n:Nat):(∀{a a' b c d e},Es a a'→RO Eq (Lm n a b c d e) (Lm n a' b c d e))∧
 (∀{a a' b c d},Es a a'→RO Eq (KE n a b c d) (KE n a' b c d))∧
 (∀{a b c d e f g g' i i'},Es g g'→RO Eq (T3 n a b c d e f g i) (T3 n a b c d e f g' i')):=by
 induction n with
 | zero=>exact⟨by intros;exact trivial,by intros;exact trivial,by intros;exact trivial⟩
 | succ n ih=>
  obtain⟨i_L44_2,i_L44_1,i_F44⟩:=ih
  refine⟨?_,?_,?_⟩
  ·intros;rename_i hl7;simp only[Lm];exact ci (Nq hl7 fun hl20=>CF (i_F44 hl20) fun _=>Ay fun _=>Ay fun _=>i_L44_1 hl7) rr
  ·intros;rename_i hl7;simp only[KE];exact ci (i_L44_2 hl7) (i_L44_2 hl7)
  ·intros;rename_i hl7;simp only[T3];exact cl hl7 fun _=>i_L44_1 hl7
theorem gA {n:Nat}:∀{a b c d e f g g' i i'},Es g g'→RO Eq (T3 n a b c d e f g i) (T3 n a b c d e f g' i'):=(dM n).2.2
theorem VD (n:Nat):(∀{a b c d e f g i j k l l' m m' o o' p p' q q' r s s' t u v w},Es l l'→Ss m m'→Ss o o'→As p p'→Ss s s'→RO R4 (CU n a b c d e f g i j k l m o p q r s t u v w) (CU n a b c d e f g i j k l' m' o' p' q' r s' t u v w))∧
 (∀{a b c d e f g i j k l l' m m' o o' p p' q q' r s s' t u v},Es l l'→Ss m m'→Ss o o'→As p p'→Ss s s'→RO R4 (CL n a b c d e f g i j k l m o p q r s t u v) (CL n a b c d e f g i j k l' m' o' p' q' r s' t u v))∧
 (∀{a b c d e f g i j k l l' m m' o o' p p' q q' r},Es l l'→Ss m m'→Ss o o'→As p p'→RO Eq (I3 n a b c d e f g i j k l m o p q r) (I3 n a b c d e f g i j k l' m' o' p' q' r))∧
 (∀{a b c d e f g i j k l l' m m' o o' p p' q q' r s t t' u v w x},Es l l'→Ss m m'→Ss o o'→As p p'→Ss t t'→RO R4 (CX n a b c d e f g i j k l m o p q r s t u v w x) (CX n a b c d e f g i j k l' m' o' p' q' r s t' u v w x))∧
 (∀{a b c d e f g i j k l l' m m' o o' p p' q q' r s t t' u v w},Es l l'→Ss m m'→Ss o o'→As p p'→Ss t t'→RO R4 (CM n a b c d e f g i j k l m o p q r s t u v w) (CM n a b c d e f g i j k l' m' o' p' q' r s t' u v w))∧
 (∀{a b c d e f g i j k l l' m m' o o' p p' q q' r s t u},Es l l'→Ss m m'→Ss o o'→As p p'→RO R4 (CW n a b c d e f g i j k l m o p q r s t u) (CW n a b c d e f g i j k l' m' o' p' q' r s t u))∧
 (∀{a b c d e f g i j k l l' m m' o o' p p' q q' r s t},Es l l'→Ss m m'→Ss o o'→As p p'→RO R4 (CE n a b c d e f g i j k l m o p q r s t) (CE n a b c d e f g i j k l' m' o' p' q' r s t))∧
 (∀{a b c d e f g i j k l l' m m' o o' p p' q q' r s t},Es l l'→Ss m m'→Ss o o'→As p p'→RO R4 (CK n a b c d e f g i j k l m o p q r s t) (CK n a b c d e f g i j k l' m' o' p' q' r s t))∧
 (∀{a b c d e f g i j k l l' m m' o o' p p' q q' r s},Es l l'→Ss m m'→Ss o o'→As p p'→RO R4 (B1 n a b c d e f g i j k l m o p q r s) (B1 n a b c d e f g i j k l' m' o' p' q' r s))∧
 (∀{a b c d e f g i j k l m m' o o' p p' q q' r r'},Es m m'→Ss o o'→Ss p p'→As q q'→RO R4 (IL n a b c d e f g i j k l m o p q r) (IL n a b c d e f g i j k l m' o' p' q' r'))∧
 (∀{a b c d e f g i j k l l' m m' o o' p p' q q' r s t u},Es l l'→Ss m m'→Ss o o'→As p p'→RO Eq (HW n a b c d e f g i j k l m o p q r s t u) (HW n a b c d e f g i j k l' m' o' p' q' r s t u))∧
 (∀{a b c d e f g i j k l l' m m' o o' p p' q q' r s t},Es l l'→Ss m m'→Ss o o'→As p p'→RO Eq (GU n a b c d e f g i j k l m o p q r s t) (GU n a b c d e f g i j k l' m' o' p' q' r s t))∧
 (∀{a b c d e f g i j k l l' m m' o o' p p' q q'},Es l l'→Ss m m'→Ss o o'→As p p'→RO Eq (TK n a b c d e f g i j k l m o p q) (TK n a b c d e f g i j k l' m' o' p' q')):=by
 induction n with
 | zero=>exact⟨by intros;exact trivial,by intros;exact trivial,by intros;exact trivial,by intros;exact trivial,by intros;exact trivial,by intros;exact trivial,by intros;exact trivial,by intros;exact trivial,by intros;exact trivial,by intros;exact trivial,by intros;exact trivial,by intros;exact trivial,by intros;exact trivial⟩
 | succ n ih=>
  obtain⟨i_L138x1_4,i_L138x1_3,i_F45r0,i_L138x1_8,i_L138x1_7,i_L138x1_6,i_L138x1_5,i_L138x1_2,i_L138x1_1,i_F138x1,i_L45_2,i_L45_1,i_F45⟩:=ih
  refine⟨?_,?_,?_,?_,?_,?_,?_,?_,?_,?_,?_,?_,?_⟩
  ·intros;rename_i hl12 hl13 hl14 hl15 hl21;simp only[CU];exact ci (Nr hl21 fun hl37 hl38 hl39 hl40=>CF (i_F45r0 hl37 hl38 hl39 hl40) fun _=>Ay fun _=>i_L138x1_3 hl12 hl13 hl14 hl15 hl21) (Ay fun _=>i_L138x1_1 hl12 hl13 hl14 hl15)
  ·intros;rename_i hl12 hl13 hl14 hl15 hl21;simp only[CL];exact ci (i_L138x1_4 hl12 hl13 hl14 hl15 hl21) (i_L138x1_4 hl12 hl13 hl14 hl15 hl21)
  ·intros;rename_i hl11 hl12 hl13 hl14;simp only[I3];exact CF (i_F45 hl11 hl12 hl13 hl14) fun _=>rr
  ·intros;rename_i hl12 hl13 hl14 hl15 hl52;simp only[CX];exact ci (Nr hl52 fun hl68 hl69 hl70 hl71=>CF (i_F45r0 hl68 hl69 hl70 hl71) fun _=>Ay fun _=>i_L138x1_7 hl12 hl13 hl14 hl15 hl52) (Ay fun _=>i_L138x1_5 hl12 hl13 hl14 hl15)
  ·intros;rename_i hl12 hl13 hl14 hl15 hl52;simp only[CM];exact ci (i_L138x1_8 hl12 hl13 hl14 hl15 hl52) (i_L138x1_8 hl12 hl13 hl14 hl15 hl52)
  ·intros;rename_i hl12 hl13 hl14 hl15;simp only[CW];exact ci (kP hl15 fun hl52=>cl hl52 fun _=>i_L138x1_7 hl12 hl13 hl14 hl15 hl52) (.mk hl12 hl13 hl14 hl15)
  ·intros;rename_i hl12 hl13 hl14 hl15;simp only[CE];exact ci (i_L138x1_6 hl12 hl13 hl14 hl15) (i_L138x1_6 hl12 hl13 hl14 hl15)
  ·intros;rename_i hl12 hl13 hl14 hl15;simp only[CK];exact ci (pV hl13 hl14 fun hl21=>cl hl21 fun _=>i_L138x1_3 hl12 hl13 hl14 hl15 hl21) (cl hl15 fun _=>i_L138x1_5 hl12 hl13 hl14 hl15)
  ·intros;rename_i hl12 hl13 hl14 hl15;simp only[B1];exact ci (i_L138x1_2 hl12 hl13 hl14 hl15) (i_L138x1_2 hl12 hl13 hl14 hl15)
  ·intros;rename_i hl12 hl13 hl14 hl15;simp only[IL];exact i_L138x1_1 hl12 hl13 hl14 hl15
  ·intros;rename_i hl11 hl12 hl13 hl14;simp only[HW];exact ci (Nq hl11 fun hl27=>CF (gA hl27) fun _=>Ay fun _=>Ay fun _=>i_L45_1 hl11 hl12 hl13 hl14) (fU (fY hl11 hl12 hl13 hl14) fun hl42 hl43 hl44 hl45=>fV (i_F138x1 hl42 hl43 hl44 hl45) fun hl58 hl59 hl60 hl61=>rr)
  ·intros;rename_i hl11 hl12 hl13 hl14;simp only[GU];exact ci (i_L45_2 hl11 hl12 hl13 hl14) (i_L45_2 hl11 hl12 hl13 hl14)
  ·intros;rename_i hl11 hl12 hl13 hl14;simp only[TK];exact cl hl11 fun _=>i_L45_1 hl11 hl12 hl13 hl14
theorem qG {n:Nat}:∀{a b c d e f g i j k l l' m m' o o' p p' q q'},Es l l'→Ss m m'→Ss o o'→As p p'→RO Eq (TK n a b c d e f g i j k l m o p q) (TK n a b c d e f g i j k l' m' o' p' q'):=(VD n).2.2.2.2.2.2.2.2.2.2.2.2
end Go.Proofs.YtjmofeakajdbiaaGreatDoor
end
set_option linter.unusedVariables false
noncomputable section
namespace Go.Proofs.YtjmofeakajdbiaaGreatDoor
open Go Go.AM
def gB (n:Nat) (z1:Int) (z2:Int) (s3:BA) (s4:BA) (s5:BA) (l6:LD) (l7:LD) (z8:Int):Option (Bool):=
 bO1 (U7 n z1 z2 s3 s4 s5 l6 l7 z8) fun b9=>AL (!b9) fun b10=>(if b10=true then bO1 (Lw n z1 z2 s3 s4 s5 l6 l7 z8 (40:Int)) fun b11=>some b11 else some false)
noncomputable def X20:BX:=⟨20,Tryz.f20,[.agg [.y,.z,.str,.str,.str,.f 1,.q 8,.z]],[],⟨.one (.b),[],[]⟩,Bool,inferInstance,gB,[]⟩
noncomputable def k20:Kz:=sg X20 [vZ,yU] Tryz.func20 (by kernel_rfl) (by kernel_rfl) (by kernel_rfl)
theorem wS (n:Nat):∀⦃z1 z2 s3 s4 s5 l6 l7 z8 r1⦄,gB n z1 z2 s3 s4 s5 l6 l7 z8=some r1->
  Ah Tryz.prog inv 20 [.d (.agg [.int .u8 z1,.int .i64 z2,.str s3,.str s4,.str s5,.list false 1 l6,.list true 8 l7,.int .i64 z8])] [] (.v (.d (.bool r1))) [] []:=fun z1 z2 s3 s4 s5 l6 l7 z8 r1 h=>k20.ok n [.I z1,.I z2,.S s3,.S s4,.S s5,.L l6,.L l7,.I z8] _ h _ _ _ _ _ _ rfl rfl rfl rfl _ rfl
def qH (n:Nat):Option LD:=
 gW [.agg [.int .u8 3,.str DV,.list true 4 [],.int .u8 1,.str ByteArray.empty,.list true 3 [],.list true 15 [],.int .u8 1,.int .i64 0,.str ByteArray.empty,.str ByteArray.empty,.str ByteArray.empty,.list false 1 [],.list true 8 [],.int .i64 0,.int .i64 0]] fun l1=>some l1
theorem zK (n:Nat):∀⦃r1⦄,qH n=some r1->
    Ah Tryz.prog inv 22 [] [] (.v (.agg [.ow (.loc 0)])) [] [.tree .row true 16 r1 none]:=by
 intro r1 h
 unfold qH at h
 refine Ah.of BI Ao Fi Tryz.func22 rfl (by kernel_rfl) rfl rfl rfl (fun M hM hI=>?_)
 try cbv
 refine AB ?_
 try cbv
 refine AB ?_
 try cbv
 refine⟨true,?_⟩
 try cbv
 refine⟨[],?_⟩
 try cbv
 replace h:=YN h
 obtain⟨l1,hz,h⟩:=h
 refine⟨l1,hz,?_⟩
 clear hz
 try cbv
 obtain rfl:=Option.some.inj h
 refine AR ?_
 try cbv
 exact⟨[.loc 128],rfl,rfl,trivial,⟨rfl,trivial⟩,trivial⟩
def I4:Nat->LD->LD->LD->Bool->Option (Bool)
 | 0,_,_,_,_=>none
 | n+1,l1,l20,l21,b23=>
  (if b23=true then some false else bO1 (Xf n ([]:LD)) fun b24=>(if b24=true then bO1 (Xf n l1) fun b25=>(if b25=true then bO1 (Z9 n l1) fun z26=>(if z26=(3:Int)then bO1 (fS n l1) fun z27=>(if z27=(2:Int)then bO1 (Z9 n ([]:LD)) fun z28=>(if z28=(1:Int)then bO1 (fI n (1:Int) ByteArray.empty ([]:LD)) fun b29=>(if b29=true then bO1 (fI n (5:Int) ByteArray.empty ([]:LD)) fun b30=>AL (!b30) fun b31=>(if b31=true then bO1 (fI n (1:Int) xL ([]:LD)) fun b32=>AL (!b32) fun b33=>(if b33=true then bO1 (gB n (1:Int) (-1:Int) ByteArray.empty ByteArray.empty ByteArray.empty ([]:LD) ([]:LD) (0:Int)) fun b34=>AL (!b34) fun b35=>(if b35=true then bO1 (gB n (5:Int) (0:Int) ByteArray.empty ByteArray.empty iG ([]:LD) ([]:LD) (0:Int)) fun b36=>AL (!b36) fun b37=>(if b37=true then bO1 (gB n (18:Int) (0:Int) xM ByteArray.empty ByteArray.empty ([]:LD) ([.agg [.int .u8 5,.int .i64 0,.str ByteArray.empty,.str ByteArray.empty,.str iG,.list false 1 [],.list true 8 [],.int .i64 0]]) (0:Int)) fun b38=>(if b38=true then bO1 (U9 n iG ([.str xN,.str hH])) fun b39=>(if b39=true then bO1 (U9 n xO ([]:LD)) fun b40=>AL (!b40) fun b41=>(if b41=true then bO1 (XJ n l1 l20) fun b42=>(if b42=true then Ap l21 0 fun x43=>BU x43 fun z44 s45 l46 z47 s48 l49 l50 z51 z52 s53 s54 s55 l56 l57 z58 z59=>(if z59=(0:Int)then some true else some false)else some false)else some false)else some false)else some false)else some false)else some false)else some false)else some false)else some false)else some false)else some false)else some false)else some false)else some false))
def qI (n:Nat):Option (Bool):=
 bO1 (qH n) fun l1=>bO1 (qH n) fun l2=>YK (0<=(0:Int)/\(0:Int).toNat<l2.length) (gX l2 ((0:Int).toNat) fun x3=>BU x3 fun z4 s5 l6 z7 s8 l9 l10 z11 z12 s13 s14 s15 l16 l17 z18 z19=>mG l2 ((0:Int).toNat) (.agg [.int .u8 z4,.str s5,.list true 4 l6,.int .u8 z7,.str s8,.list true 3 l9,.list true 15 l10,.int .u8 z11,.int .i64 z12,.str s13,.str s14,.str s15,.list false 1 l16,.list true 8 l17,.int .i64 z18,.int .i64 7]) fun l20=>bO1 (cK n l20) fun l21=>AE l21 fun z22=>(if z22=(1:Int)then I4 n l1 l20 l21 false else I4 n l1 l20 l21 true))
theorem T17 (n:Nat):∀⦃r1⦄,qI n=some r1->
    Ah Tryz.prog inv 17 [] [] (.v (.d (.bool r1))) [] []:=by
 intro r1 h
 unfold qI at h
 refine Ah.of BI Ao Fi Tryz.func17 rfl (by kernel_rfl) rfl rfl rfl (fun M hM hI=>?_)
 try cbv
 refine AB ?_
 try cbv
 refine AB ?_
 try cbv
 replace h:=AU h
 obtain⟨l1,hr,h⟩:=h
 refine AZ rfl rfl ?_
 try cbv
 refine Al hM hI [] (zK _ hr) rfl (by simp) trivial trivial (by simp) ?_
 clear hr
 try cbv
 refine AB ?_
 try cbv
 replace h:=AU h
 obtain⟨l2,hr,h⟩:=h
 refine AZ rfl rfl ?_
 try cbv
 refine Al hM hI [] (zK _ hr) rfl (by simp) trivial trivial (by simp) ?_
 clear hr
 try cbv
 refine AB ?_
 try cbv
 replace h:=W4 h
 obtain⟨hn,h⟩:=h
 refine⟨(M.lock_iff _).2 hn,?_⟩
 clear hn
 try cbv
 refine⟨[],?_⟩
 try cbv
 replace h:=YP h
 obtain⟨x3,hx,h⟩:=h
 replace h:=FD h
 obtain⟨z4,s5,l6,z7,s8,l9,l10,z11,z12,s13,s14,s15,l16,l17,z18,z19,rfl,h⟩:=h
 refine⟨_,hx,?_⟩
 clear hx
 try cbv
 refine AB ?_
 try cbv
 refine AB ?_
 try cbv
 replace h:=YO h
 obtain⟨l20,hl20,h⟩:=h
 replace h:=AU h
 obtain⟨l21,hr,h⟩:=h
 refine Vg [.close (.loc 128),.freeze (.loc 128)] rfl rfl ?_
 try cbv
 refine⟨l20,hl20,?_⟩
 clear hl20
 try cbv
 first | refine⟨(rfl:(_:Nat)=_),?_⟩ | refine⟨True.intro,?_⟩ | skip
 refine LX hM hI [] rfl rfl (T24 _ hr) rfl (by simp) trivial trivial (by simp) ?_
 clear hr
 try cbv
 refine AB ?_
 try cbv
 refine Cu (T:=Nat×Bool) (fun t=>⟨[sB 0 false,sL 1 64,sL 2 160,sL 3 448,sL 4 576,sB 18 t.2],[(.loc 64,.cells [.ow (.loc 32)]),(.loc 32,.tree .row true 16 l1 none),(.loc 160,.cells [.d (.list true 16 l20)]),(.loc 448,.cells [.d (.int .u8 5),.d (.int .i64 0),.d (.str ByteArray.empty),.d (.str ByteArray.empty),.d (.str iG),.nils false 1,.nils true 8,.d (.int .i64 0)]),(.loc 576,.cells [.d (.list true 16 l21)])],768⟩) (fun t=>t.1<=n/\I4 t.1 l1 l20 l21 t.2=some r1) ?_ ?_
 ·try cbv
  replace h:=BL M h
  obtain⟨z22,hz,h⟩:=h
  refine⟨z22,hz,?_⟩
  clear hz
  try cbv
  refine Av (fun e=>?_) (fun e=>?_)
  ·replace h:=Aj e h
   clear e
   try cbv
   exact AA (n,false) [0,1,2,3,4,18] [.loc 64,.loc 32,.loc 160,.loc 448,.loc 576] 768 ⟨by omega,h⟩ (by cbv)
  replace h:=Ak e h
  clear e
  try cbv
  exact AA (n,true) [0,1,2,3,4,18] [.loc 64,.loc 32,.loc 160,.loc 448,.loc 576] 768 ⟨by omega,h⟩ (by cbv)
 clear h
 rintro⟨m1,b23⟩ ⟨hm1,h⟩
 replace hm1:m1<=n:=hm1
 obtain _ | m1:=m1
 ·replace h:I4 0 l1 l20 l21 b23=some r1:=h
  rw[I4]at h
  cases h
 replace h:I4 (m1+1) l1 l20 l21 b23=some r1:=h
 rw[I4]at h
 try cbv
 cases b23
 rotate_left
 ·replace h:=Bo h
  try cbv
  refine AB ?_
  try cbv
  obtain rfl:=Option.some.inj h
  refine AR ?_
  try cbv
  exact⟨[],by trivial⟩
 replace h:=Bp h
 try cbv
 refine AB ?_
 try cbv
 replace h:=AU h
 obtain⟨b24,hr,h⟩:=h
 refine AZ rfl rfl ?_
 try cbv
 refine AQ hM hI (yX _ hr) rfl ?_
 clear hr
 try cbv
 cases b24
 ·replace h:=Bp h
  try cbv
  obtain rfl:=Option.some.inj h
  refine AR ?_
  try cbv
  exact⟨[],by trivial⟩
 replace h:=Bo h
 try cbv
 replace h:=AU h
 obtain⟨b25,hr,h⟩:=h
 refine Vg [.freeze (.loc 32)] rfl rfl ?_
 try cbv
 first | refine⟨(rfl:(_:Nat)=_),?_⟩ | refine⟨True.intro,?_⟩ | skip
 refine LX hM hI [] rfl rfl (yX _ hr) rfl (by simp) trivial trivial (by simp) ?_
 clear hr
 try cbv
 cases b25
 ·replace h:=Bp h
  try cbv
  obtain rfl:=Option.some.inj h
  refine AR ?_
  try cbv
  exact⟨[],by trivial⟩
 replace h:=Bo h
 try cbv
 replace h:=AU h
 obtain⟨z26,hr,h⟩:=h
 refine AZ rfl rfl ?_
 try cbv
 refine AQ hM hI (zE _ hr) rfl ?_
 clear hr
 try cbv
 refine Av (fun e=>?_) (fun e=>?_)
 rotate_left
 ·replace h:=Ak e h
  clear e
  try cbv
  obtain rfl:=Option.some.inj h
  refine AR ?_
  try cbv
  exact⟨[],by trivial⟩
 replace h:=Aj e h
 clear e
 try cbv
 replace h:=AU h
 obtain⟨z27,hr,h⟩:=h
 refine AZ rfl rfl ?_
 try cbv
 refine AQ hM hI (T14 _ hr) rfl ?_
 clear hr
 try cbv
 refine Av (fun e=>?_) (fun e=>?_)
 rotate_left
 ·replace h:=Ak e h
  clear e
  try cbv
  obtain rfl:=Option.some.inj h
  refine AR ?_
  try cbv
  exact⟨[],by trivial⟩
 replace h:=Aj e h
 clear e
 try cbv
 replace h:=AU h
 obtain⟨z28,hr,h⟩:=h
 refine AZ rfl rfl ?_
 try cbv
 refine AQ hM hI (zE _ hr) rfl ?_
 clear hr
 try cbv
 refine Av (fun e=>?_) (fun e=>?_)
 rotate_left
 ·replace h:=Ak e h
  clear e
  try cbv
  obtain rfl:=Option.some.inj h
  refine AR ?_
  try cbv
  exact⟨[],by trivial⟩
 replace h:=Aj e h
 clear e
 try cbv
 replace h:=AU h
 obtain⟨b29,hr,h⟩:=h
 refine AZ rfl rfl ?_
 try cbv
 refine AQ hM hI (uA _ hr) rfl ?_
 clear hr
 try cbv
 cases b29
 ·replace h:=Bp h
  try cbv
  obtain rfl:=Option.some.inj h
  refine AR ?_
  try cbv
  exact⟨[],by trivial⟩
 replace h:=Bo h
 try cbv
 replace h:=AU h
 obtain⟨b30,hr,h⟩:=h
 refine AZ rfl rfl ?_
 try cbv
 refine AQ hM hI (uA _ hr) rfl ?_
 clear hr
 try cbv
 replace h:=CS h
 obtain⟨b31,hz,h⟩:=h
 refine⟨b31,DN hz,?_⟩
 clear hz
 try cbv
 cases b31
 ·replace h:=Bp h
  try cbv
  obtain rfl:=Option.some.inj h
  refine AR ?_
  try cbv
  exact⟨[],by trivial⟩
 replace h:=Bo h
 try cbv
 replace h:=AU h
 obtain⟨b32,hr,h⟩:=h
 refine AZ rfl rfl ?_
 try cbv
 refine AQ hM hI (uA _ hr) rfl ?_
 clear hr
 try cbv
 replace h:=CS h
 obtain⟨b33,hz,h⟩:=h
 refine⟨b33,DN hz,?_⟩
 clear hz
 try cbv
 cases b33
 ·replace h:=Bp h
  try cbv
  obtain rfl:=Option.some.inj h
  refine AR ?_
  try cbv
  exact⟨[],by trivial⟩
 replace h:=Bo h
 try cbv
 replace h:=AU h
 obtain⟨b34,hr,h⟩:=h
 refine AZ rfl rfl ?_
 try cbv
 refine AQ hM hI (wS _ hr) rfl ?_
 clear hr
 try cbv
 replace h:=CS h
 obtain⟨b35,hz,h⟩:=h
 refine⟨b35,DN hz,?_⟩
 clear hz
 try cbv
 cases b35
 ·replace h:=Bp h
  try cbv
  obtain rfl:=Option.some.inj h
  refine AR ?_
  try cbv
  exact⟨[],by trivial⟩
 replace h:=Bo h
 try cbv
 replace h:=AU h
 obtain⟨b36,hr,h⟩:=h
 refine AZ rfl rfl ?_
 try cbv
 refine AQ hM hI (wS _ hr) rfl ?_
 clear hr
 try cbv
 replace h:=CS h
 obtain⟨b37,hz,h⟩:=h
 refine⟨b37,DN hz,?_⟩
 clear hz
 try cbv
 cases b37
 ·replace h:=Bp h
  try cbv
  obtain rfl:=Option.some.inj h
  refine AR ?_
  try cbv
  exact⟨[],by trivial⟩
 replace h:=Bo h
 try cbv
 refine⟨false,?_⟩
 try cbv
 refine⟨true,?_⟩
 try cbv
 replace h:=AU h
 obtain⟨b38,hr,h⟩:=h
 refine AZ rfl rfl ?_
 try cbv
 refine AQ hM hI (wS _ hr) rfl ?_
 clear hr
 try cbv
 cases b38
 ·replace h:=Bp h
  try cbv
  obtain rfl:=Option.some.inj h
  refine AR ?_
  try cbv
  exact⟨[],by trivial⟩
 replace h:=Bo h
 try cbv
 refine⟨false,?_⟩
 try cbv
 refine⟨true,?_⟩
 try cbv
 replace h:=AU h
 obtain⟨b39,hr,h⟩:=h
 refine AZ rfl rfl ?_
 try cbv
 refine AQ hM hI (yS _ hr) rfl ?_
 clear hr
 try cbv
 cases b39
 ·replace h:=Bp h
  try cbv
  obtain rfl:=Option.some.inj h
  refine AR ?_
  try cbv
  exact⟨[],by trivial⟩
 replace h:=Bo h
 try cbv
 replace h:=AU h
 obtain⟨b40,hr,h⟩:=h
 refine AZ rfl rfl ?_
 try cbv
 refine AQ hM hI (yS _ hr) rfl ?_
 clear hr
 try cbv
 replace h:=CS h
 obtain⟨b41,hz,h⟩:=h
 refine⟨b41,DN hz,?_⟩
 clear hz
 try cbv
 cases b41
 ·replace h:=Bp h
  try cbv
  obtain rfl:=Option.some.inj h
  refine AR ?_
  try cbv
  exact⟨[],by trivial⟩
 replace h:=Bo h
 try cbv
 replace h:=AU h
 obtain⟨b42,hr,h⟩:=h
 refine AZ rfl rfl ?_
 try cbv
 refine AQ hM hI (T25 _ hr) rfl ?_
 clear hr
 try cbv
 cases b42
 ·replace h:=Bp h
  try cbv
  obtain rfl:=Option.some.inj h
  refine AR ?_
  try cbv
  exact⟨[],by trivial⟩
 replace h:=Bo h
 try cbv
 replace h:=BT h
 obtain⟨x43,⟨hx0,hx⟩,h⟩:=h
 refine⟨x43,hx0,hx,?_⟩
 clear hx0 hx
 replace h:=FD h
 obtain⟨z44,s45,l46,z47,s48,l49,l50,z51,z52,s53,s54,s55,l56,l57,z58,z59,rfl,h⟩:=h
 try cbv
 refine Av (fun e=>?_) (fun e=>?_)
 ·replace h:=Aj e h
  clear e
  try cbv
  obtain rfl:=Option.some.inj h
  refine AR ?_
  try cbv
  exact⟨[],by trivial⟩
 replace h:=Ak e h
 clear e
 try cbv
 obtain rfl:=Option.some.inj h
 refine AR ?_
 try cbv
 exact⟨[],by trivial⟩
noncomputable def c17:BQ:=⟨17,[],[],[⟨.one (.b),[],[]⟩],Bool,inferInstance,qI⟩
noncomputable def k17:Kz:=⟨c17,fun n=>Cm fun p h w1 w2 w4 w3 l1 l2 e1 e2 e5 e3 xs e4=>by cases e1;cases e2;cases e4;cases e5;cases e3;exact T17 n h⟩
def Zc:Nat->Int->Bool->Option (BA)
 | 0,_,_=>none
 | n+1,z1,b3=>
  (if b3=true then some ByteArray.empty else Ap ([.str ByteArray.empty,.str sR,.str sV,.str zO,.str Ur,.str Ur,.str Ur,.str Z6,.str Z6,.str bC,.str bC,.str bC,.str bC,.str bC,.str bC,.str bC,.str bC,.str bC,.str sW,.str mT,.str mU,.str Z6,.str Z6,.str Z6,.str Ur,.str bD,.str Z6,.str Z6,.str Ur,.str Z6,.str Z6,.str Z6,.str Ur,.str bD,.str bD,.str bD,.str Ur]) z1 fun x4=>Bj x4 fun s5=>some s5)
def qJ (n:Nat) (z1:Int):Option (BA):=
 AJ (IntKind.wrap .i64 z1) fun z2=>(if (37:Int)<=z2 then Zc n z1 true else Zc n z1 false)
def Zd:Nat->BA->Int->Bool->Option (Bool)
 | 0,_,_,_=>none
 | n+1,s1,z2,b7=>
  (if b7=true then (if z2<=(1:Int)then some true else some false)else N3 s1 fun z8=>AJ (IntKind.wrap .i64 (z8 - 1)) fun z9=>Tz s1 z9 fun z10=>AJ (IntKind.wrap .u8 (z10 - 48)) fun z11=>AJ (IntKind.wrap .i64 z11) fun z12=>(if z2=z12 then some true else some false))
def Ze:Nat->BA->Int->Int->Bool->Option (Bool)
 | 0,_,_,_,_=>none
 | n+1,s1,z2,z5,b6=>
  (if b6=true then (if z2<=(6:Int)then some true else some false)else (if z5=(57:Int)then Zd n s1 z2 true else Zd n s1 z2 false))
def qK (n:Nat) (s1:BA) (z2:Int):Option (Bool):=
 N3 s1 fun z3=>AJ (IntKind.wrap .i64 (z3 - 1)) fun z4=>Tz s1 z4 fun z5=>(if z5=(54:Int)then Ze n s1 z2 z5 true else Ze n s1 z2 z5 false)
mutual
def Zf:Nat->BA->Int->Int->Option (Bool)
 | 0,_,_,_=>none
 | n+1,s1,z2,z3=>
  N3 s1 fun z4=>(if z3<z4 then Zg n s1 z2 z3 true else Zg n s1 z2 z3 false)
def Zg:Nat->BA->Int->Int->Bool->Option (Bool)
 | 0,_,_,_,_=>none
 | n+1,s1,z2,z3,b5=>
  (if b5=true then Tz s1 z3 fun z6=>(if z6=z2 then Zh n s1 z2 z3 true else Zh n s1 z2 z3 false)else some false)
def Zh:Nat->BA->Int->Int->Bool->Option (Bool)
 | 0,_,_,_,_=>none
 | n+1,s1,z2,z3,b7=>
  (if b7=true then some true else AJ (IntKind.wrap .i64 (z3+1)) fun z8=>Zf n s1 z2 z8)
end
def Ee (n:Nat) (s1:BA) (z2:Int):Option (Bool):=
 Zf n s1 z2 (0:Int)
mutual
def Nu:Nat->LD->Int->Option (Bool)
 | 0,_,_=>none
 | n+1,l2,z7=>
  AE l2 fun z8=>(if z7<z8 then RE n l2 z7 true else RE n l2 z7 false)
def RE:Nat->LD->Int->Bool->Option (Bool)
 | 0,_,_,_=>none
 | n+1,l2,z7,b9=>
  (if b9=true then Ap l2 z7 fun x10=>Bj x10 fun s11=>(if s11=hH then Nv n l2 z7 false else Ap l2 z7 fun x12=>Bj x12 fun s13=>bO1 (nG n s13) fun b14=>AL (!b14) fun b15=>Nv n l2 z7 b15)else some true)
def Nv:Nat->LD->Int->Bool->Option (Bool)
 | 0,_,_,_=>none
 | n+1,l2,z7,b16=>
  (if b16=true then some false else AJ (IntKind.wrap .i64 (z7+1)) fun z17=>Nu n l2 z17)
end
def LA:Nat->LD->Bool->Option (Bool)
 | 0,_,_=>none
 | n+1,l2,b6=>
  (if b6=true then some false else Nu n l2 (0:Int))
def kS (n:Nat) (s1:BA) (l2:LD):Option (Bool):=
 bO1 (nG n s1) fun b3=>AL (!b3) fun b4=>(if b4=true then LA n l2 true else AE l2 fun z5=>(if (40:Int)<z5 then LA n l2 true else LA n l2 false))
mutual
def Nw:Nat->LD->Int->Option (Bool)
 | 0,_,_=>none
 | n+1,l6,z12=>
  AE l6 fun z13=>(if z12<z13 then RG n l6 z12 true else RG n l6 z12 false)
def RG:Nat->LD->Int->Bool->Option (Bool)
 | 0,_,_,_=>none
 | n+1,l6,z12,b14=>
  (if b14=true then Ap l6 z12 fun x15=>Bj x15 fun s16=>bO1 (nG n s16) fun b17=>AL (!b17) fun b18=>(if b18=true then some false else AJ (IntKind.wrap .i64 (z12+1)) fun z19=>Nw n l6 z19)else some true)
end
def LB:Nat->LD->Bool->Option (Bool)
 | 0,_,_=>none
 | n+1,l6,b11=>
  (if b11=true then some false else Nw n l6 (0:Int))
def kT (n:Nat) (z1:Int) (z2:Int) (s3:BA) (s4:BA) (s5:BA) (l6:LD) (l7:LD) (z8:Int):Option (Bool):=
 (if s5=ByteArray.empty then AE l6 fun z9=>AE l7 fun z10=>(if z9=z10 then LB n l6 false else LB n l6 true)else LB n l6 true)
def F83 (n:Nat) (z1:Int) (z2:Int) (s3:BA) (s4:BA) (s5:BA) (l6:LD) (l7:LD) (z8:Int):Option (Bool):=
 (if z1=(5:Int)then some true else (if z1=(6:Int)then some true else some false))
mutual
def TP:Nat->Int->Int->BA->BA->BA->LD->LD->Int->Int->BA->Bool->Option (Bool)
 | 0,_,_,_,_,_,_,_,_,_,_,_=>none
 | n+1,z1,z2,s3,s4,s5,l6,l7,z8,z9,s10,b14=>
  (if b14=true then some false else bO1 (Ee n s10 (105:Int)) fun b15=>(if b15=true then (if z2<(0:Int)then WE n z1 z2 s3 s4 s5 l6 l7 z8 z9 s10 true else WE n z1 z2 s3 s4 s5 l6 l7 z8 z9 s10 false)else bO1 (Ee n s10 (98:Int)) fun b17=>(if b17=true then (if z2=(0:Int)then Pf n z1 z2 s3 s4 s5 l6 l7 z8 z9 s10 false else (if z2=(1:Int)then Pf n z1 z2 s3 s4 s5 l6 l7 z8 z9 s10 false else Pf n z1 z2 s3 s4 s5 l6 l7 z8 z9 s10 true))else (if z2=(0:Int)then WG n z1 z2 s3 s4 s5 l6 l7 z8 z9 s10 false else WG n z1 z2 s3 s4 s5 l6 l7 z8 z9 s10 true))))
def WE:Nat->Int->Int->BA->BA->BA->LD->LD->Int->Int->BA->Bool->Option (Bool)
 | 0,_,_,_,_,_,_,_,_,_,_,_=>none
 | n+1,z1,z2,s3,s4,s5,l6,l7,z8,z9,s10,b16=>
  (if b16=true then some false else TQ n z1 z2 s3 s4 s5 l6 l7 z8 z9 s10)
def Pf:Nat->Int->Int->BA->BA->BA->LD->LD->Int->Int->BA->Bool->Option (Bool)
 | 0,_,_,_,_,_,_,_,_,_,_,_=>none
 | n+1,z1,z2,s3,s4,s5,l6,l7,z8,z9,s10,b18=>
  (if b18=true then some false else TQ n z1 z2 s3 s4 s5 l6 l7 z8 z9 s10)
def WG:Nat->Int->Int->BA->BA->BA->LD->LD->Int->Int->BA->Bool->Option (Bool)
 | 0,_,_,_,_,_,_,_,_,_,_,_=>none
 | n+1,z1,z2,s3,s4,s5,l6,l7,z8,z9,s10,b19=>
  (if b19=true then some false else TQ n z1 z2 s3 s4 s5 l6 l7 z8 z9 s10)
def TQ:Nat->Int->Int->BA->BA->BA->LD->LD->Int->Int->BA->Option (Bool)
 | 0,_,_,_,_,_,_,_,_,_,_=>none
 | n+1,z1,z2,s3,s4,s5,l6,l7,z8,z9,s10=>
  bO1 (Ee n s10 (112:Int)) fun b20=>(if b20=true then bO1 (kS n s5 l6) fun b21=>AL (!b21) fun b22=>(if b22=true then some false else TR n z1 s3 s4 l7 z9 s10)else bO1 (Ee n s10 (102:Int)) fun b23=>(if b23=true then bO1 (kT n z1 z2 s3 s4 s5 l6 l7 z8) fun b24=>AL (!b24) fun b25=>(if b25=true then some false else TR n z1 s3 s4 l7 z9 s10)else (if s5=ByteArray.empty then AE l6 fun z26=>(if (0:Int)<z26 then Pg n z1 s3 s4 l7 z9 s10 true else Pg n z1 s3 s4 l7 z9 s10 false)else Pg n z1 s3 s4 l7 z9 s10 true)))
def Pg:Nat->Int->BA->BA->LD->Int->BA->Bool->Option (Bool)
 | 0,_,_,_,_,_,_,_=>none
 | n+1,z1,s3,s4,l7,z9,s10,b27=>
  (if b27=true then some false else TR n z1 s3 s4 l7 z9 s10)
def TR:Nat->Int->BA->BA->LD->Int->BA->Option (Bool)
 | 0,_,_,_,_,_,_=>none
 | n+1,z1,s3,s4,l7,z9,s10=>
  bO1 (Ee n s10 (110:Int)) fun b28=>(if b28=true then bO1 (nG n s3) fun b29=>AL (!b29) fun b30=>(if b30=true then C9 n z1 s4 l7 z9 s10 true else bO1 (Ee n s10 (116:Int)) fun b31=>(if b31=true then bO1 (rP n s3) fun b32=>AL (!b32) fun b33=>(if b33=true then C9 n z1 s4 l7 z9 s10 true else bO1 (Ee n s10 (110:Int)) fun b34=>AL (!b34) fun b35=>(if b35=true then bO1 (Ee n s10 (116:Int)) fun b36=>AL (!b36) fun b37=>(if b37=true then (if s3=ByteArray.empty then C9 n z1 s4 l7 z9 s10 false else C9 n z1 s4 l7 z9 s10 true)else C9 n z1 s4 l7 z9 s10 false)else C9 n z1 s4 l7 z9 s10 false))else bO1 (Ee n s10 (110:Int)) fun b38=>AL (!b38) fun b39=>(if b39=true then bO1 (Ee n s10 (116:Int)) fun b40=>AL (!b40) fun b41=>(if b41=true then (if s3=ByteArray.empty then C9 n z1 s4 l7 z9 s10 false else C9 n z1 s4 l7 z9 s10 true)else C9 n z1 s4 l7 z9 s10 false)else C9 n z1 s4 l7 z9 s10 false)))else bO1 (Ee n s10 (116:Int)) fun b42=>(if b42=true then bO1 (rP n s3) fun b43=>AL (!b43) fun b44=>(if b44=true then C9 n z1 s4 l7 z9 s10 true else bO1 (Ee n s10 (110:Int)) fun b45=>AL (!b45) fun b46=>(if b46=true then bO1 (Ee n s10 (116:Int)) fun b47=>AL (!b47) fun b48=>(if b48=true then (if s3=ByteArray.empty then C9 n z1 s4 l7 z9 s10 false else C9 n z1 s4 l7 z9 s10 true)else C9 n z1 s4 l7 z9 s10 false)else C9 n z1 s4 l7 z9 s10 false))else bO1 (Ee n s10 (110:Int)) fun b49=>AL (!b49) fun b50=>(if b50=true then bO1 (Ee n s10 (116:Int)) fun b51=>AL (!b51) fun b52=>(if b52=true then (if s3=ByteArray.empty then C9 n z1 s4 l7 z9 s10 false else C9 n z1 s4 l7 z9 s10 true)else C9 n z1 s4 l7 z9 s10 false)else C9 n z1 s4 l7 z9 s10 false)))
def C9:Nat->Int->BA->LD->Int->BA->Bool->Option (Bool)
 | 0,_,_,_,_,_,_=>none
 | n+1,z1,s4,l7,z9,s10,b53=>
  (if b53=true then some false else bO1 (Ee n s10 (118:Int)) fun b54=>(if b54=true then bO1 (rP n s4) fun b55=>AL (!b55) fun b56=>(if b56=true then I5 n z1 l7 z9 true else bO1 (Ee n s10 (118:Int)) fun b57=>AL (!b57) fun b58=>(if b58=true then (if s4=ByteArray.empty then I5 n z1 l7 z9 false else I5 n z1 l7 z9 true)else I5 n z1 l7 z9 false))else bO1 (Ee n s10 (118:Int)) fun b59=>AL (!b59) fun b60=>(if b60=true then (if s4=ByteArray.empty then I5 n z1 l7 z9 false else I5 n z1 l7 z9 true)else I5 n z1 l7 z9 false)))
def I5:Nat->Int->LD->Int->Bool->Option (Bool)
 | 0,_,_,_,_=>none
 | n+1,z1,l7,z9,b61=>
  (if b61=true then some false else JR n z1 l7 z9 (0:Int))
def JR:Nat->Int->LD->Int->Int->Option (Bool)
 | 0,_,_,_,_=>none
 | n+1,z1,l7,z9,z62=>
  AE l7 fun z63=>(if z62<z63 then Zi n z1 l7 z9 z62 true else Zi n z1 l7 z9 z62 false)
def Zi:Nat->Int->LD->Int->Int->Bool->Option (Bool)
 | 0,_,_,_,_,_=>none
 | n+1,z1,l7,z9,z62,b64=>
  (if b64=true then Ap l7 z62 fun x65=>BD x65 fun z66 z67 s68 s69 s70 l71 l72 z73=>bO1 (F83 n z66 z67 s68 s69 s70 l71 l72 z73) fun b74=>(if b74=true then (if z1=(18:Int)then Ap l7 z62 fun x75=>BD x75 fun z76 z77 s78 s79 s80 l81 l82 z83=>AJ (IntKind.wrap .i64 (z9 - 1)) fun z84=>bO1 (zL n z76 z77 s78 s79 s80 l81 l82 z83 z84) fun b85=>AL (!b85) fun b86=>VE n z1 l7 z9 z62 b86 else VE n z1 l7 z9 z62 true)else Ap l7 z62 fun x87=>BD x87 fun z88 z89 s90 s91 s92 l93 l94 z95=>AJ (IntKind.wrap .i64 (z9 - 1)) fun z96=>bO1 (zL n z88 z89 s90 s91 s92 l93 l94 z95 z96) fun b97=>AL (!b97) fun b98=>VE n z1 l7 z9 z62 b98)else some true)
def VE:Nat->Int->LD->Int->Int->Bool->Option (Bool)
 | 0,_,_,_,_,_=>none
 | n+1,z1,l7,z9,z62,b99=>
  (if b99=true then some false else AJ (IntKind.wrap .i64 (z62+1)) fun z100=>JR n z1 l7 z9 z100)
def zL:Nat->Int->Int->BA->BA->BA->LD->LD->Int->Int->Option (Bool)
 | 0,_,_,_,_,_,_,_,_,_=>none
 | n+1,z1,z2,s3,s4,s5,l6,l7,z8,z9=>
  bO1 (qJ n z1) fun s10=>(if z9<(1:Int)then TP n z1 z2 s3 s4 s5 l6 l7 z8 z9 s10 true else (if s10=ByteArray.empty then TP n z1 z2 s3 s4 s5 l6 l7 z8 z9 s10 true else AE l7 fun z11=>bO1 (qK n s10 z11) fun b12=>AL (!b12) fun b13=>TP n z1 z2 s3 s4 s5 l6 l7 z8 z9 s10 b13))
end
end Go.Proofs.YtjmofeakajdbiaaGreatDoor
end
set_option linter.unusedVariables false
noncomputable section
namespace Go.Proofs.YtjmofeakajdbiaaGreatDoor
open Go Go.AM
def Uc:D→Bool
 | .str s=>decide (s=hH) || nm 97 122 s
 | _=>false
def wT:D→Bool
 | .str s=>nm 97 122 s
 | _=>false
def lX (s:ByteArray) (l:List D):Bool:=nm 97 122 s&&(l.all Uc&&decide (l.length≤40))
theorem KF {L:List D}{i:Nat}{x:D}(h:L[i]?=some x) (p:D→Bool):(L.drop i).all p=(p x&&(L.drop (i+1)).all p):=by
 obtain⟨hi,rfl⟩:=List.getElem?_eq_some_iff.1 h
 rw[List.drop_eq_getElem_cons hi,List.all_cons]
theorem qL {s:ByteArray}(hs:s.size≤maxLen):Ev (fun n=>rY n s) (Uc (.str s)):=by
 unfold rY Uc
 by_cases h:s=hH
 ·simp only[if_pos h,decide_eq_true h,Bool.true_or];exact Ev.ret
 ·simp only[if_neg h,decide_eq_false h,Bool.false_or];exact Ev.bO1 (iY hs) Ev.ret
theorem wU {L:List D}(hL:AD AI 9 L) (m:Nat):∃r,Ev (fun n=>pD n L (m:Int)) r∧r=(L.all Uc&&decide (L.length≤m))∨(m<L.length∧Ev (fun n=>pD n L (m:Int)) false):=by
 by_cases hm:L.length≤m
 ·have loop:∀i,i≤L.length→Ev (fun n=>J3 n L (m:Int) (i:Int)) ((L.drop i).all Uc):=by
   refine down L.length (Ev.succ ?_) (fun i hi ih=>?_)
   ·simp only[J3,AE,Int.lt_irrefl,if_false,List.drop_length]
    exact Ev.succ (by simp only[Lb,Bool.false_eq_true,if_false,AE,if_pos (show (L.length:Int)≤(m:Int)by omega)];exact Ev.ret)
   ·obtain⟨x,hx,_,hr⟩:=hL.get hi
    obtain⟨s,rfl,hs⟩:=Z7 hr
    rw[KF hx]
    refine Ev.succ ?_
    simp only[J3,AE,if_pos (show (i:Int)<(L.length:Int)by omega),if_pos (show (i:Int)<(m:Int)by omega)]
    refine Ev.succ ?_
    simp only[Lb,if_true,AH hx,Bj]
    refine Ev.bO1 (qL hs) ?_
    cases Uc (.str s)
    ·simp only[AL,Bool.not_false,if_true,Bool.false_and];exact Ev.ret
    ·simp only[AL,Bool.not_true,Bool.false_eq_true,if_false,AJ,AG hi hL.1,Bool.true_and];exact ih
  refine⟨_,.inl ⟨loop 0 (Nat.zero_le _),?_⟩⟩
  rw[decide_eq_true hm,Bool.and_true];rfl
 ·have loop:∀i,i≤m→Ev (fun n=>J3 n L (m:Int) (i:Int)) false:=by
   refine down m (Ev.succ ?_) (fun i hi ih=>?_)
   ·simp only[J3,AE,if_pos (show (m:Int)<(L.length:Int)by omega),Int.lt_irrefl,if_false]
    exact Ev.succ (by simp only[Lb,Bool.false_eq_true,if_false,AE,if_neg (show ¬(L.length:Int)≤(m:Int)by omega)];exact Ev.ret)
   ·obtain⟨x,hx,_,hr⟩:=hL.get (show i<L.length by omega)
    obtain⟨s,rfl,hs⟩:=Z7 hr
    refine Ev.succ ?_
    simp only[J3,AE,if_pos (show (i:Int)<(L.length:Int)by omega),if_pos (show (i:Int)<(m:Int)by omega)]
    refine Ev.succ ?_
    simp only[Lb,if_true,AH hx,Bj]
    refine Ev.bO1 (qL hs) ?_
    cases Uc (.str s)
    ·simp only[AL,Bool.not_false,if_true];exact Ev.ret
    ·simp only[AL,Bool.not_true,Bool.false_eq_true,if_false,AJ,AG (show i<L.length by omega) hL.1];exact ih
  exact⟨false,.inr ⟨by omega,loop 0 (Nat.zero_le _)⟩⟩
theorem qM {L:List D}(hL:AD AI 9 L) (m:Nat):Ev (fun n=>pD n L (m:Int)) (L.all Uc&&decide (L.length≤m)):=by
 obtain⟨r,⟨h1,h2⟩ | ⟨h1,h2⟩⟩:=wU hL m
 ·rw[←h2];exact h1
 ·rw[decide_eq_false (by omega),Bool.and_false];exact h2
theorem wV {s:ByteArray}(hs:s.size≤maxLen) {l:List D}(hl:AD AI 9 l):Ev (fun n=>U9 n s l) (lX s l):=by
 unfold U9 lX
 refine Ev.bO1 (iY hs) ?_
 cases nm 97 122 s
 ·simp only[Bool.false_eq_true,if_false,Bool.false_and];exact Ev.ret
 ·simp only[if_true,Bool.true_and];exact Ev.bO1 (qM hl 40) Ev.ret
theorem wW {s:ByteArray}(hs:s.size≤maxLen) {l:List D}(hl:AD AI 9 l):Ev (fun n=>kS n s l) (lX s l):=by
 have loop:∀i,i≤l.length→Ev (fun n=>Nu n l (i:Int)) ((l.drop i).all Uc):=by
  refine down l.length (Ev.succ ?_) (fun i hi ih=>?_)
  ·simp only[Nu,AE,Int.lt_irrefl,if_false,List.drop_length]
   exact Ev.succ (by simp only[RE,Bool.false_eq_true,if_false];exact Ev.ret)
  ·obtain⟨x,hx,_,hr⟩:=hl.get hi
   obtain⟨s,rfl,hs⟩:=Z7 hr
   rw[KF hx]
   refine Ev.succ ?_
   simp only[Nu,AE,if_pos (show (i:Int)<(l.length:Int)by omega)]
   refine Ev.succ ?_
   simp only[RE,if_true,AH hx,Bj,Uc]
   have fin:∀b,Ev (fun n=>Nv n l (i:Int) (!b)) (b&&(l.drop (i+1)).all Uc):=by
    intro b
    refine Ev.succ ?_
    cases b
    ·simp only[Nv,Bool.not_false,if_true,Bool.false_and];exact Ev.ret
    ·simp only[Nv,Bool.not_true,Bool.false_eq_true,if_false,AJ,AG hi hl.1,Bool.true_and];exact ih
   by_cases h:s=hH
   ·simp only[if_pos h,decide_eq_true h,Bool.true_or];exact fin true
   ·simp only[if_neg h,decide_eq_false h,Bool.false_or]
    exact Ev.bO1 (bW hs) (by simp only[AL];exact fin _)
 unfold kS lX
 refine Ev.bO1 (bW hs) ?_
 have no:Ev (fun n=>LA n l true) false:=Ev.succ (by simp only[LA,if_true];exact Ev.ret)
 cases nm 97 122 s
 ·simp only[AL,Bool.not_false,if_true,Bool.false_and];exact no
 ·simp only[AL,Bool.not_true,Bool.false_eq_true,if_false,AE,Bool.true_and]
  by_cases h:40<(l.length:Int)
  ·simp only[if_pos h,decide_eq_false (show ¬l.length≤40 by omega),Bool.and_false];exact no
  ·simp only[if_neg h,decide_eq_true (show l.length≤40 by omega),Bool.and_true]
   exact Ev.succ (by simp only[LA,Bool.false_eq_true,if_false];exact loop 0 (Nat.zero_le _))
structure Good (z1:Int) (f:ByteArray) (hp:Bool) (least most:Int):Prop where
 f40:Ev (fun n=>qJ n z1) f
 f58:Ev (fun n=>jX n z1) (hp,least,most,true)
 ne:¬f=ByteArray.empty
 many:∀n:Int,0≤n→Ev (fun k=>qK k f n) (decide (least≤n)&&decide (n≤most))
 hi:Ev (fun n=>Ee n f 105) (decide (z1=1))
 hb:Ev (fun n=>Ee n f 98) (decide (z1=2))
 h112:Ev (fun n=>Ee n f 112) hp
 hf:Ev (fun n=>Ee n f 102) (decide (z1=19))
 hn:Ev (fun n=>Ee n f 110) (decide (z1=18))
 ht:Ev (fun n=>Ee n f 116) (decide (z1=19∨z1=20))
 hv:Ev (fun n=>Ee n f 118) (decide (z1=20))
 np:z1=18∨z1=19∨z1=20→hp=false
 most6:0≤least∧least≤most∧most≤6
theorem bI {α:Type}{A:Nat→Option α}{r:α}(h:∀m,A (m+40)=some r):Ev A r:=⟨40,fun n hn=>by obtain⟨m,rfl⟩:∃m,n=m+40:=⟨n - 40,by omega⟩;exact h m⟩
end Go.Proofs.YtjmofeakajdbiaaGreatDoor
end
namespace Go.AM
open Go Go.RowKit Go.ChangeShapes Go.WideShapes
def JS (ti:Types):List TypeId→List D→Prop
 | [],[]=>True
 | t::ts,x::xs=>Shape ti t x.cells∧(∀y,ti t=some y→x.isAgg=An y.desc)∧JS ti ts xs
 | _,_=>False
theorem JS.length {ti:Types}:∀{ts:List TypeId}{xs:List D},JS ti ts xs→xs.length=ts.length
 | [],[],_=>rfl
 | _::_,_::_,h=>by simp[JS.length h.2.2]
 | [],_::_,h=>h.elim
 | _::_,[],h=>h.elim
section
variable {H:Type}{enc:TypeId×Value→H}{P:Program}{ti:Types}{T:List TypeId}{w:World}
theorem Zj (hti:BO P ti) (hT:Mu ti T=true) {Z:Au}(hZ:∀b o,¬Z b o) {base base':Nat}{spare:Nat→Bool}{held:Bool}{r:Reach}{t:TypeId}{v:Value}{d:DataW H}{ps:List MemPlace}(ht:t∈T)
  (hok:Value.okWide P w r base' t v) (h:DataW.Trod enc P w base spare held t v d ps):∃x:D,Shape ti t x.cells∧(∀y,ti t=some y→x.isAgg=An y.desc)∧Ag w Z x v:=by
 obtain⟨fuel,h⟩:=h
 obtain⟨ds,hs,h1,h2,h3⟩:=conv hti hT (Z:=Z) hZ fuel t _ _ _ ht h
 have hp:=List.all_eq_true.1 hT t ht
 split at hp
 ·rename_i y hy
  have hu:=(hti t y hy).1
  have single:An y.desc=false→v.cells.toList=[v]→∃x:D,Shape ti t x.cells∧(∀y,ti t=some y→x.isAgg=An y.desc)∧Ag w Z x v:=by
   intro hr hv
   rw[hv]at h1 h3
   obtain⟨c,rfl⟩:=List.length_eq_one_iff.1 h1
   have hc:=h2 c (by simp)
   have e:c.cells=[c]:=by cases c<;>first | rfl | simp[D.isAgg]at hc
   refine⟨c,by rw[e];exact hs,fun y' hy'=>?_,h3 0 c v rfl rfl⟩
   rw[hy]at hy'
   obtain rfl:y=y':=by simpa using hy'
   rw[hc,hr]
  split at hp
  ·rename_i hd
   rw[hd]at hu
   obtain⟨b,rfl⟩:=okWide_bool hu hok
   exact single (by rw[hd];rfl) rfl
  ·rename_i k hd
   rw[hd]at hu
   obtain⟨b,rfl⟩:=okWide_int hu hok
   exact single (by rw[hd];rfl) rfl
  ·rename_i hd
   rw[hd]at hu
   obtain⟨b,rfl⟩:=okWide_string hu hok
   exact single (by rw[hd];rfl) rfl
  ·rename_i e hd
   rw[hd]at hu
   obtain⟨a,l,c,rfl⟩:=okWide_slice hu hok
   exact single (by rw[hd];rfl) rfl
  ·rename_i fs hd
   rw[hd]at hu
   obtain⟨cs,rfl,_⟩:=okWide_struct hu hok
   refine⟨.agg ds,hs,fun y' hy'=>?_,.agg ds cs (by simpa [Value.cells] using h1.symm) h2 (fun j c u hc hu'=>h3 j c u hc (by simpa [Value.cells] using hu'))⟩
   rw[hy]at hy'
   obtain rfl:y=y':=by simpa using hy'
   rw[hd];rfl
  ·simp at hp
 ·simp at hp
theorem Ph (hti:BO P ti) (hT:Mu ti T=true) {Z:Au}(hZ:∀b o,¬Z b o) {base base':Nat}{spare:Nat→Bool}{held:Bool}{r:Reach}:
  ∀(ts:List TypeId) (vs:List Value) (ds:List (DataW H)) (ps:List MemPlace),(∀t∈ts,t∈T)→DataW.TrodAll enc P w base spare held ts vs ds ps→
   (∀(j:Nat) t v,ts[j]?=some t→vs[j]?=some v→Value.okWide P w r base' t v)→
   ∃xs,JS ti ts xs∧∀(j:Nat) x v,xs[j]?=some x→vs[j]?=some v→Ag w Z x v
 | [],vs,ds,ps,_,h,_=>⟨[],trivial,by simp⟩
 | t::ts,vs,ds,ps,ht,h,hok=>by
  obtain⟨v,vs1,d,ds1,a,b,rfl,rfl,rfl,h1,h2⟩:=trodAll_cons h
  obtain⟨x,k1,k2,k3⟩:=Zj hti hT hZ (ht t (by simp)) (hok 0 t v rfl rfl) h1
  obtain⟨xs,k4,k5⟩:=Ph hti hT hZ ts vs1 ds1 b (fun t ht'=>ht t (by simp[ht'])) h2 (fun j t v h1 h2=>hok (j+1) t v (by simpa using h1) (by simpa using h2))
  refine⟨x::xs,⟨k1,k2,k4⟩,fun j x' v' hx hv=>?_⟩
  match j with
  | 0=>simp at hx hv;subst hx;subst hv;exact k3
  | j+1=>simp at hx hv;exact k5 j x' v' hx hv
theorem Pj (hl:laidOutB P=true) {W W':World}(hb:Below W.heap.size W W'):∀(ts:List TypeId) (vs:List Value) (ds:List (DataW H)) (ps:List MemPlace),
  (∀t∈ts,P.readableRec t=true∧t<P.types.size)→DataW.TrodAll enc P W 0 (fun _=>true) true ts vs ds ps→(∀x∈ps,x.block<W.heap.size)→
  DataW.TrodAll enc P W' 0 (fun b=>decide (b<W.heap.size)) true ts vs ds ps
 | [],vs,ds,ps,_,h,_=>by
  obtain⟨rfl,rfl,rfl⟩:=trodAll_nil h
  exact rfl
 | t::ts,vs,ds,ps,ht,h,hlt=>by
  obtain⟨v,vs1,d,ds1,a,b,rfl,rfl,rfl,h1,h2⟩:=trodAll_cons h
  have ht1:=ht t (by simp)
  exact⟨a,b,Below.trod hl ht1.1 ht1.2 h1 hb (fun x hx=>hlt x (by simp[hx])),Pj hl hb ts vs1 ds1 b (fun t ht'=>ht t (by simp[ht'])) h2 (fun x hx=>hlt x (by simp[hx])),rfl⟩
theorem XX {I:Inv}(hti:BO P ti) (hT:Mu ti T=true) {s:ChangeSpec}{fn:Func}{f:FuncId}{ts:List TypeId}{bt:TypeId}
  (hp:fn.params.toList=ts) (hv:s.vars=[]) (hr:fn.resultTypes=#[bt]) (hb:P.underlying bt=some .bool) (htT:∀t∈ts,t∈T)
  (hs:∀ds:List (DataW H),ds.length=ts.length→(s.fn H ds).results=[.lit (.bool true)]∧(s.fn H ds).args=ds∧(s.fn H ds).vars=[])
  (hl:laidOutB P=true) (hrec:∀t∈ts,P.readableRec t=true∧t<P.types.size)
  (hc:∀xs:List D,JS ti ts xs→Ah P I f (xs.map V1.d) [] (.v (.d (.bool true))) [] [])
  {W:World} {base:Nat} {args:Array Value} {ds gs:List (DataW H)} {before:List MemPlace}
  (hI:I.at W fun _ _=>False) (hval:∀(j:Nat) t v,fn.params[j]?=some t→args[j]?=some v→Value.okWide P W .any base t v)
  (hW:DataW.Whole enc P fn.params.toList s.vars false W args.toList ds gs before):
  Calls P f args W fun e W'=>∃v,e= .returned v∧s.post enc P fn false true false false W args v W':=by
 have hW':=hW
 obtain⟨p,q,hA,hV,rfl,_,_⟩:=hW
 rw[hv]at hV
 obtain⟨rfl,rfl⟩:gs=[]∧q=[]:=by
  cases gs with
  | nil=>exact⟨rfl,hV⟩
  | cons _ _=>exact hV.elim
 rw[hp]at hA
 obtain⟨hlen,hdl⟩:=trodAll_length hA
 obtain⟨xs,hsh,hrel⟩:=Ph hti hT (Z:=fun _ _=>False) (fun _ _ h=>h) (r:=.any) (base':=base) ts args.toList ds p htT hA (fun j t v h1 h2=>hval j t v (by
  rw[←Array.getElem?_toList,hp];exact h1) (by simpa using h2))
 have hxl:=hsh.length
 have hcall:=hc xs hsh
 have hheap:∀i o,Ax [] i=some o→False:=by
  intro i o h
  cases i<;>simp[Ax]at h
 have hzone:∀(g:AY) b o,¬zone g (Ax []) b o:=by
  rintro g b o ⟨i,ob,h,_⟩
  exact hheap i ob h
 refine (hcall.calls (w:=W) (X:=fun _ _=>False) (g:=fun _=>undef) (vals:=args) (fun _ _ h=>h.elim) (hI.mono fun b o hz=>hz.elim (hzone _ b o) id) ⟨fun i o h=>(hheap i o h).elim,fun i _ _ _ _ h=>(hheap i _ h).elim,fun i _ _ _ h=>(hheap i _ h).elim⟩ (fun _=>rfl)
  (by simp at hlen;simp;omega) (fun j x v hx hvv=>?_)).mono ?_
 ·simp only[List.getElem?_map,Option.map_eq_some_iff]at hx
  obtain⟨d,hd,rfl⟩:=hx
  exact (hrel j d v hd (by simpa using hvv)).mono (fun b o u hu _=>⟨hu,fun hz=>hz.elim (hzone _ b o) id⟩)
 ·rintro e W' ⟨v,g',rfl,hpost⟩
  obtain rfl:v= .bool true:=by cases (show Ag _ _ (.bool true) v from hpost.res);rfl
  have hbel:Below W.heap.size W W':=⟨hpost.frame.os,hpost.frame.tape,hpost.frame.output,hpost.frame.size,fun k hk=>hpost.frame.block k hk (fun o=>hzone _ k o)⟩
  obtain⟨s1,s2,s3⟩:=hs (ds++[]) (by simp[hdl])
  refine⟨_,rfl,ds,[],p++[],[],p,[],hW',?_,?_,?_,hbel.frame _,fun h=>by cases h⟩
  ·rw[s1,hr]
   exact trodAll_mk1 (shut_bool hb true)
  ·rw[s2,hp,List.append_nil]
   exact Pj hl hbel ts args.toList ds p hrec hA (fun x hx=>hW'.lt x (by simp[hx]))
  ·rw[s3,hv];rfl
end
end Go.AM
set_option linter.unusedVariables false
noncomputable section
namespace Go.Proofs.YtjmofeakajdbiaaGreatDoor
open Go Go.AM
abbrev emp (s:ByteArray):Bool:=decide (s=ByteArray.empty)
def kU (z1 z2:Int):Bool:=if z1=1 then decide (0≤z2)else if z1=2 then decide (z2=0) || decide (z2=1)else decide (z2=0)
def Nx (z1:Int) (s:ByteArray):Bool:=if z1=18 then nm 97 122 s else if z1=19∨z1=20 then nm 65 90 s else emp s
def TS (z1:Int) (s:ByteArray):Bool:=if z1=20 then nm 65 90 s else emp s
def dN (s:ByteArray) (l6 l7:List D):Bool:=emp s&&(decide (l6.length=l7.length)&&l6.all wT)
def TT (z1:Int) (hp:Bool) (s:ByteArray) (l6 l7:List D):Bool:=if hp=true then lX s l6 else if z1=19 then dN s l6 l7 else emp s&&decide (l6.length=0)
section
variable {z1 z2:Int}{s3 s4 s5:ByteArray}{l6 l7:List D}{z8:Int}
theorem wX (h6:AD AI 9 l6):Ev (fun n=>kT n z1 z2 s3 s4 s5 l6 l7 z8) (dN s5 l6 l7):=by
 have loop:∀i,i≤l6.length→Ev (fun n=>Nw n l6 (i:Int)) ((l6.drop i).all wT):=by
  refine down l6.length (Ev.succ ?_) (fun i hi ih=>?_)
  ·simp only[Nw,AE,Int.lt_irrefl,if_false,List.drop_length]
   exact Ev.succ (by simp only[RG,Bool.false_eq_true,if_false];exact Ev.ret)
  ·obtain⟨x,hx,_,hr⟩:=h6.get hi
   obtain⟨s,rfl,hs⟩:=Z7 hr
   rw[KF hx]
   refine Ev.succ ?_
   simp only[Nw,AE,if_pos (show (i:Int)<(l6.length:Int)by omega)]
   refine Ev.succ ?_
   simp only[RG,if_true,AH hx,Bj,wT]
   refine Ev.bO1 (bW hs) ?_
   cases nm 97 122 s
   ·simp only[AL,Bool.not_false,if_true,Bool.false_and];exact Ev.ret
   ·simp only[AL,Bool.not_true,Bool.false_eq_true,if_false,AJ,AG hi h6.1,Bool.true_and];exact ih
 have no:Ev (fun n=>LB n l6 true) false:=Ev.succ (by simp only[LB,if_true];exact Ev.ret)
 unfold kT dN
 by_cases e:s5=ByteArray.empty
 ·simp only[if_pos e,AE,decide_eq_true e,Bool.true_and]
  by_cases e2:l6.length=l7.length
  ·simp only[if_pos (show (l6.length:Int)=(l7.length:Int)by omega),decide_eq_true e2,Bool.true_and]
   exact Ev.succ (by simp only[LB,Bool.false_eq_true,if_false];exact loop 0 (Nat.zero_le _))
  ·simp only[if_neg (show ¬(l6.length:Int)=(l7.length:Int)by omega),decide_eq_false e2,Bool.false_and];exact no
 ·simp only[if_neg e,decide_eq_false e,Bool.false_and];exact no
variable {f:ByteArray}{hp:Bool}{least most:Int}(G:Good z1 f hp least most) {deep:Int}{A:Bool}
theorem g9 (hA:Ev (fun n=>JR n z1 l7 deep (0:Int)) A) (b:Bool):Ev (fun n=>I5 n z1 l7 deep (!b)) (b&&A):=by
 refine .succ ?_
 cases b
 ·simp only[I5,Bool.not_false,if_true,Bool.false_and];exact Ev.ret
 ·simp only[I5,Bool.not_true,Bool.false_eq_true,if_false,Bool.true_and];exact hA
include G
theorem g8 (h4:s4.size≤maxLen) (hA:Ev (fun n=>JR n z1 l7 deep (0:Int)) A) (b:Bool):Ev (fun n=>C9 n z1 s4 l7 deep f (!b)) (b&&(TS z1 s4&&A)):=by
 have k9:=g9 hA
 refine .succ ?_
 cases b
 ·simp only[C9,Bool.not_false,if_true,Bool.false_and];exact Ev.ret
 simp only[C9,Bool.not_true,Bool.false_eq_true,if_false,Bool.true_and]
 refine Ev.bO1 G.hv ?_
 by_cases c:z1=20
 ·simp only[decide_eq_true c,if_true,TS,if_pos c]
  refine Ev.bO1 (nI h4) ?_
  cases nm 65 90 s4
  ·simp only[AL,Bool.not_false,if_true];exact k9 false
  ·simp only[AL,Bool.not_true,Bool.false_eq_true,if_false]
   refine Ev.bO1 G.hv ?_
   simp only[decide_eq_true c,AL,Bool.not_true,Bool.false_eq_true,if_false];exact k9 true
 ·simp only[decide_eq_false c,Bool.false_eq_true,if_false,TS,if_neg c]
  refine Ev.bO1 G.hv ?_
  simp only[decide_eq_false c,AL,Bool.not_false,if_true]
  by_cases e:s4=ByteArray.empty
  ·simp only[if_pos e,emp,decide_eq_true e];exact k9 true
  ·simp only[if_neg e,emp,decide_eq_false e];exact k9 false
theorem g7 (h3:s3.size≤maxLen) (h4:s4.size≤maxLen) (hA:Ev (fun n=>JR n z1 l7 deep (0:Int)) A):Ev (fun n=>TR n z1 s3 s4 l7 deep f) (Nx z1 s3&&(TS z1 s4&&A)):=by
 have k8:=g8 G h4 hA
 refine .succ ?_
 simp only[TR]
 refine Ev.bO1 G.hn ?_
 by_cases c:z1=18
 ·have ct:¬(z1=19∨z1=20):=by omega
  simp only[decide_eq_true c,if_true,Nx,if_pos c]
  refine Ev.bO1 (bW h3) ?_
  cases nm 97 122 s3
  ·simp only[AL,Bool.not_false,if_true];exact k8 false
  ·simp only[AL,Bool.not_true,Bool.false_eq_true,if_false]
   refine Ev.bO1 G.ht ?_
   simp only[decide_eq_false ct,Bool.false_eq_true,if_false]
   refine Ev.bO1 G.hn ?_
   simp only[decide_eq_true c,AL,Bool.not_true,Bool.false_eq_true,if_false];exact k8 true
 simp only[decide_eq_false c,Bool.false_eq_true,if_false,Nx,if_neg c]
 refine Ev.bO1 G.ht ?_
 by_cases ct:z1=19∨z1=20
 ·simp only[decide_eq_true ct,if_true,if_pos ct]
  refine Ev.bO1 (nI h3) ?_
  cases nm 65 90 s3
  ·simp only[AL,Bool.not_false,if_true];exact k8 false
  ·simp only[AL,Bool.not_true,Bool.false_eq_true,if_false]
   refine Ev.bO1 G.hn ?_
   simp only[decide_eq_false c,AL,Bool.not_false,if_true]
   refine Ev.bO1 G.ht ?_
   simp only[decide_eq_true ct,AL,Bool.not_true,Bool.false_eq_true,if_false];exact k8 true
 ·simp only[decide_eq_false ct,Bool.false_eq_true,if_false,if_neg ct]
  refine Ev.bO1 G.hn ?_
  simp only[decide_eq_false c,AL,Bool.not_false,if_true]
  refine Ev.bO1 G.ht ?_
  simp only[decide_eq_false ct,AL,Bool.not_false,if_true]
  by_cases e:s3=ByteArray.empty
  ·simp only[if_pos e,emp,decide_eq_true e];exact k8 true
  ·simp only[if_neg e,emp,decide_eq_false e];exact k8 false
theorem g5 (h3:s3.size≤maxLen) (h4:s4.size≤maxLen) (h5:s5.size≤maxLen) (h6:AD AI 9 l6) (hA:Ev (fun n=>JR n z1 l7 deep (0:Int)) A):
  Ev (fun n=>TQ n z1 z2 s3 s4 s5 l6 l7 z8 deep f) (TT z1 hp s5 l6 l7&&(Nx z1 s3&&(TS z1 s4&&A))):=by
 have k7:=g7 G h3 h4 hA
 refine .succ ?_
 simp only[TQ]
 refine Ev.bO1 G.h112 ?_
 cases hp
 ·simp only[Bool.false_eq_true,if_false,TT]
  refine Ev.bO1 G.hf ?_
  by_cases c:z1=19
  ·simp only[decide_eq_true c,if_true,if_pos c]
   refine Ev.bO1 (wX h6) ?_
   cases dN s5 l6 l7
   ·simp only[AL,Bool.not_false,if_true,Bool.false_and];exact Ev.ret
   ·simp only[AL,Bool.not_true,Bool.false_eq_true,if_false,Bool.true_and];exact k7
  ·simp only[decide_eq_false c,Bool.false_eq_true,if_false,if_neg c]
   have k6:∀b,Ev (fun n=>Pg n z1 s3 s4 l7 deep f (!b)) (b&&(Nx z1 s3&&(TS z1 s4&&A))):=by
    intro b
    refine .succ ?_
    cases b
    ·simp only[Pg,Bool.not_false,if_true,Bool.false_and];exact Ev.ret
    ·simp only[Pg,Bool.not_true,Bool.false_eq_true,if_false,Bool.true_and];exact k7
   by_cases e:s5=ByteArray.empty
   ·simp only[if_pos e,emp,decide_eq_true e,Bool.true_and,AE]
    by_cases e2:l6.length=0
    ·simp only[if_neg (show ¬0<(l6.length:Int)by omega),decide_eq_true e2];exact k6 true
    ·simp only[if_pos (show 0<(l6.length:Int)by omega),decide_eq_false e2];exact k6 false
   ·simp only[if_neg e,emp,decide_eq_false e,Bool.false_and];exact k6 false
 ·simp only[if_true,TT]
  refine Ev.bO1 (wW h5 h6) ?_
  cases lX s5 l6
  ·simp only[AL,Bool.not_false,if_true,Bool.false_and];exact Ev.ret
  ·simp only[AL,Bool.not_true,Bool.false_eq_true,if_false,Bool.true_and];exact k7
theorem g1 (h3:s3.size≤maxLen) (h4:s4.size≤maxLen) (h5:s5.size≤maxLen) (h6:AD AI 9 l6) (hA:Ev (fun n=>JR n z1 l7 deep (0:Int)) A):
  Ev (fun n=>TP n z1 z2 s3 s4 s5 l6 l7 z8 deep f false) (kU z1 z2&&(TT z1 hp s5 l6 l7&&(Nx z1 s3&&(TS z1 s4&&A)))):=by
 have k5:=g5 (z2:=z2) (z8:=z8) G h3 h4 h5 h6 hA
 refine .succ ?_
 simp only[TP,Bool.false_eq_true,if_false]
 refine Ev.bO1 G.hi ?_
 by_cases c1:z1=1
 ·simp only[decide_eq_true c1,if_true,kU,if_pos c1]
  by_cases c:0≤z2
  ·simp only[if_neg (show ¬z2<0 by omega),decide_eq_true c,Bool.true_and]
   exact .succ (by simp only[WE,Bool.false_eq_true,if_false];exact k5)
  ·simp only[if_pos (show z2<0 by omega),decide_eq_false c,Bool.false_and]
   exact .succ (by simp only[WE,if_true];exact Ev.ret)
 simp only[decide_eq_false c1,Bool.false_eq_true,if_false,kU,if_neg c1]
 refine Ev.bO1 G.hb ?_
 by_cases c2:z1=2
 ·simp only[decide_eq_true c2,if_true,if_pos c2]
  have y:Ev (fun n=>Pf n z1 z2 s3 s4 s5 l6 l7 z8 deep f false) (TT z1 hp s5 l6 l7&&(Nx z1 s3&&(TS z1 s4&&A))):=.succ (by simp only[Pf,Bool.false_eq_true,if_false];exact k5)
  by_cases c:z2=0
  ·simp only[if_pos c,decide_eq_true c,Bool.true_or,Bool.true_and];exact y
  ·by_cases d:z2=1
   ·simp only[if_neg c,if_pos d,decide_eq_true d,Bool.or_true,Bool.true_and];exact y
   ·simp only[if_neg c,if_neg d,decide_eq_false c,decide_eq_false d,Bool.or_false,Bool.false_and]
    exact .succ (by simp only[Pf,if_true];exact Ev.ret)
 ·simp only[decide_eq_false c2,Bool.false_eq_true,if_false,if_neg c2]
  by_cases c:z2=0
  ·simp only[if_pos c,decide_eq_true c,Bool.true_and]
   exact .succ (by simp only[WG,Bool.false_eq_true,if_false];exact k5)
  ·simp only[if_neg c,decide_eq_false c,Bool.false_and]
   exact .succ (by simp only[WG,if_true];exact Ev.ret)
end
end Go.Proofs.YtjmofeakajdbiaaGreatDoor
end
set_option linter.unusedVariables false
noncomputable section
namespace Go.Proofs.YtjmofeakajdbiaaGreatDoor
open Go Go.AM
theorem LC {γ:Type}(x:D) (l:List D) (k:D→Option γ):Ap (x::l) (0:Int) k=k x:=AH (i:=0) rfl
theorem RQ {α:Type}{A:Nat→Option α}{r:α}(h:∀m,A (m+300)=some r):Ev A r:=⟨300,fun n hn=>by obtain⟨m,rfl⟩:∃m,n=m+300:=⟨n - 300,by omega⟩;exact h m⟩
set_option maxRecDepth 100000 in
set_option maxHeartbeats 40000000 in
theorem aw0:Ev (fun n=>Xf n []) true:=RQ (fun m=>by kernel_rfl)
set_option maxRecDepth 100000 in
set_option maxHeartbeats 40000000 in
theorem aw1:Ev (fun n=>Xf n [(.agg [.int .u8 3,.str DV,.list true 4 [],.int .u8 1,.str ByteArray.empty,.list true 3 [],.list true 15 [],.int .u8 1,.int .i64 0,.str ByteArray.empty,.str ByteArray.empty,.str ByteArray.empty,.list false 1 [],.list true 8 [],.int .i64 0,.int .i64 0]:D)]) true:=RQ (fun m=>by kernel_rfl)
set_option maxRecDepth 100000 in
set_option maxHeartbeats 40000000 in
theorem aw2:Ev (fun n=>Z9 n [(.agg [.int .u8 3,.str DV,.list true 4 [],.int .u8 1,.str ByteArray.empty,.list true 3 [],.list true 15 [],.int .u8 1,.int .i64 0,.str ByteArray.empty,.str ByteArray.empty,.str ByteArray.empty,.list false 1 [],.list true 8 [],.int .i64 0,.int .i64 0]:D)]) (3:Int):=RQ (fun m=>by kernel_rfl)
set_option maxRecDepth 100000 in
set_option maxHeartbeats 40000000 in
theorem aw3:Ev (fun n=>fS n [(.agg [.int .u8 3,.str DV,.list true 4 [],.int .u8 1,.str ByteArray.empty,.list true 3 [],.list true 15 [],.int .u8 1,.int .i64 0,.str ByteArray.empty,.str ByteArray.empty,.str ByteArray.empty,.list false 1 [],.list true 8 [],.int .i64 0,.int .i64 0]:D)]) (2:Int):=RQ (fun m=>by kernel_rfl)
set_option maxRecDepth 100000 in
set_option maxHeartbeats 40000000 in
theorem aw4:Ev (fun n=>Z9 n []) (1:Int):=RQ (fun m=>by kernel_rfl)
set_option maxRecDepth 100000 in
set_option maxHeartbeats 40000000 in
theorem aw5:Ev (fun n=>fI n (1:Int) ByteArray.empty ([]:List D)) true:=RQ (fun m=>by kernel_rfl)
set_option maxRecDepth 100000 in
set_option maxHeartbeats 40000000 in
theorem aw6:Ev (fun n=>fI n (5:Int) ByteArray.empty ([]:List D)) false:=RQ (fun m=>by kernel_rfl)
set_option maxRecDepth 100000 in
set_option maxHeartbeats 40000000 in
theorem aw7:Ev (fun n=>fI n (1:Int) xL ([]:List D)) false:=RQ (fun m=>by kernel_rfl)
set_option maxRecDepth 100000 in
set_option maxHeartbeats 40000000 in
theorem aw8:Ev (fun n=>gB n (1:Int) (-1:Int) ByteArray.empty ByteArray.empty ByteArray.empty ([]:List D) ([]:List D) (0:Int)) false:=RQ (fun m=>by kernel_rfl)
set_option maxRecDepth 100000 in
set_option maxHeartbeats 40000000 in
theorem aw9:Ev (fun n=>gB n (5:Int) (0:Int) ByteArray.empty ByteArray.empty iG ([]:List D) ([]:List D) (0:Int)) false:=RQ (fun m=>by kernel_rfl)
set_option maxRecDepth 100000 in
set_option maxHeartbeats 40000000 in
theorem wY:Ev (fun n=>gB n (18:Int) (0:Int) xM ByteArray.empty ByteArray.empty ([]:List D) [(.agg [.int .u8 5,.int .i64 0,.str ByteArray.empty,.str ByteArray.empty,.str iG,.list false 1 [],.list true 8 [],.int .i64 0]:D)] (0:Int)) true:=RQ (fun m=>by kernel_rfl)
set_option maxRecDepth 100000 in
set_option maxHeartbeats 40000000 in
theorem wZ:Ev (fun n=>U9 n iG [.str xN,.str hH]) true:=RQ (fun m=>by kernel_rfl)
set_option maxRecDepth 100000 in
set_option maxHeartbeats 40000000 in
theorem xA:Ev (fun n=>U9 n xO []) false:=RQ (fun m=>by kernel_rfl)
set_option maxRecDepth 100000 in
set_option maxHeartbeats 40000000 in
theorem xB:Ev (fun n=>XJ n [(.agg [.int .u8 3,.str DV,.list true 4 [],.int .u8 1,.str ByteArray.empty,.list true 3 [],.list true 15 [],.int .u8 1,.int .i64 0,.str ByteArray.empty,.str ByteArray.empty,.str ByteArray.empty,.list false 1 [],.list true 8 [],.int .i64 0,.int .i64 0]:D)] [(.agg [.int .u8 3,.str DV,.list true 4 [],.int .u8 1,.str ByteArray.empty,.list true 3 [],.list true 15 [],.int .u8 1,.int .i64 0,.str ByteArray.empty,.str ByteArray.empty,.str ByteArray.empty,.list false 1 [],.list true 8 [],.int .i64 0,.int .i64 7]:D)]) true:=RQ (fun m=>by kernel_rfl)
set_option maxRecDepth 100000 in
set_option maxHeartbeats 40000000 in
theorem xC:Ev (fun n=>S2 n []) ([]:List D):=RQ (fun m=>by kernel_rfl)
set_option maxRecDepth 100000 in
set_option maxHeartbeats 40000000 in
theorem xD:Ev (fun n=>H4 n 1 ByteArray.empty []) ((1:Int),ByteArray.empty,([]:List D)):=RQ (fun m=>by kernel_rfl)
set_option maxRecDepth 100000 in
set_option maxHeartbeats 40000000 in
theorem xE:Ev (fun n=>Lu n []) ([]:List D):=RQ (fun m=>by kernel_rfl)
set_option maxRecDepth 100000 in
set_option maxHeartbeats 40000000 in
theorem xF:Ev (fun n=>RB n []) ([]:List D):=RQ (fun m=>by kernel_rfl)
theorem qN:Ev (fun n=>Q8 n []) []:=by
 have h:Ev (fun n=>DA n [] false) ([]:List D):=.succ (by simp[DA,Dc];exact .ret)
 have h':Ev (fun n=>DA n [] true) ([]:List D):=.succ (by simp[DA];exact .ret)
 obtain⟨N,hN⟩:=h
 obtain⟨N',hN'⟩:=h'
 refine⟨N+N',fun n hn=>?_⟩
 have e1:=hN n (by omega)
 have e2:=hN' n (by omega)
 show nilF _ _ _=_
 rw[QR (fun _=>by rw[show DA n [] true=_ from e2,show DA n [] false=_ from e1])]
 exact e1
theorem qO:Ev (fun n=>cK n [(.agg [.int .u8 3,.str DV,.list true 4 [],.int .u8 1,.str ByteArray.empty,.list true 3 [],.list true 15 [],.int .u8 1,.int .i64 0,.str ByteArray.empty,.str ByteArray.empty,.str ByteArray.empty,.list false 1 [],.list true 8 [],.int .i64 0,.int .i64 7]:D)]) [(.agg [.int .u8 3,.str DV,.list true 4 [],.int .u8 1,.str ByteArray.empty,.list true 3 [],.list true 15 [],.int .u8 1,.int .i64 0,.str ByteArray.empty,.str ByteArray.empty,.str ByteArray.empty,.list false 1 [],.list true 8 [],.int .i64 0,.int .i64 0]:D)]:=by
 have h106:Ev (fun n=>OM n 1 0 ByteArray.empty ByteArray.empty ByteArray.empty [] [] 0) (1,0,ByteArray.empty,ByteArray.empty,ByteArray.empty,[],[]):=by
  refine .succ ?_
  simp only[OM,Q9]
  refine Ev.bO2 (Ev.bO1 qN .ret) (Ev.bO1 xF ?_)
  exact .of fun n=>rfl
 have h114:Ev (fun n=>U5 n 3 DV [] 1 ByteArray.empty [] [] 1 0 ByteArray.empty ByteArray.empty ByteArray.empty [] [] 0 7) (3,DV,[],1,ByteArray.empty,[],[],1,0,ByteArray.empty,ByteArray.empty,ByteArray.empty,[],[]):=by
  unfold U5
  refine Ev.bO1 xC (Ev.bO3 xD (Ev.bO1 xE (Ev.bO7 h106 ?_)))
  exact .of fun n=>rfl
 unfold cK rT S3
 refine Ev.bO1 (Ev.bO1 ?_ .ret) .ret
 simp only[AE]
 refine .succ ?_
 simp only[EX,List.length_cons,List.length_nil,show (0:Int)<((0+1:Nat):Int)by decide,if_true]
 refine .succ ?_
 simp only[FM,if_true,LC,BU]
 refine Ev.bO14 h114 ?_
 simp only[Dc,List.length_nil,List.length_cons,AJ]
 simp only[if_pos (show 0+(0+1)≤maxLen∧(0+(0+1))*248≤140737488355328 by decide)]
 refine .succ ?_
 simp only[EX,if_neg (show ¬IntKind.wrap .i64 ((0:Int)+1)<((0+1:Nat):Int)by decide)]
 refine .succ ?_
 simp only[FM,Bool.false_eq_true,if_false]
 exact .ret
theorem Zk:Ev (fun n=>qI n) true:=by
 have h22:Ev (fun n=>qH n) [(.agg [.int .u8 3,.str DV,.list true 4 [],.int .u8 1,.str ByteArray.empty,.list true 3 [],.list true 15 [],.int .u8 1,.int .i64 0,.str ByteArray.empty,.str ByteArray.empty,.str ByteArray.empty,.list false 1 [],.list true 8 [],.int .i64 0,.int .i64 0]:D)]:=.of fun n=>rfl
 refine Ev.bO1 h22 (Ev.bO1 h22 ?_)
 refine (Ev.bO1 qO (k:=fun n l21=>AE l21 fun z22=>(if z22=(1:Int)then I4 n [(.agg [.int .u8 3,.str DV,.list true 4 [],.int .u8 1,.str ByteArray.empty,.list true 3 [],.list true 15 [],.int .u8 1,.int .i64 0,.str ByteArray.empty,.str ByteArray.empty,.str ByteArray.empty,.list false 1 [],.list true 8 [],.int .i64 0,.int .i64 0]:D)] [(.agg [.int .u8 3,.str DV,.list true 4 [],.int .u8 1,.str ByteArray.empty,.list true 3 [],.list true 15 [],.int .u8 1,.int .i64 0,.str ByteArray.empty,.str ByteArray.empty,.str ByteArray.empty,.list false 1 [],.list true 8 [],.int .i64 0,.int .i64 7]:D)] l21 false else I4 n [(.agg [.int .u8 3,.str DV,.list true 4 [],.int .u8 1,.str ByteArray.empty,.list true 3 [],.list true 15 [],.int .u8 1,.int .i64 0,.str ByteArray.empty,.str ByteArray.empty,.str ByteArray.empty,.list false 1 [],.list true 8 [],.int .i64 0,.int .i64 0]:D)] [(.agg [.int .u8 3,.str DV,.list true 4 [],.int .u8 1,.str ByteArray.empty,.list true 3 [],.list true 15 [],.int .u8 1,.int .i64 0,.str ByteArray.empty,.str ByteArray.empty,.str ByteArray.empty,.list false 1 [],.list true 8 [],.int .i64 0,.int .i64 7]:D)] l21 true)) ?_).congr fun n=>rfl
 simp only[AE,List.length_cons,List.length_nil,show ((0+1:Nat):Int)=1 from rfl,if_true]
 refine .succ ?_
 simp only[I4,Bool.false_eq_true,if_false]
 refine Ev.bO1 aw0 ?_
 simp only[if_true]
 refine Ev.bO1 aw1 ?_
 simp only[if_true]
 refine Ev.bO1 aw2 ?_
 simp only[if_true]
 refine Ev.bO1 aw3 ?_
 simp only[if_true]
 refine Ev.bO1 aw4 ?_
 simp only[if_true]
 refine Ev.bO1 aw5 ?_
 simp only[if_true]
 refine Ev.bO1 aw6 ?_
 simp only[AL,Bool.not_false,if_true]
 refine Ev.bO1 aw7 ?_
 simp only[AL,Bool.not_false,if_true]
 refine Ev.bO1 aw8 ?_
 simp only[AL,Bool.not_false,if_true]
 refine Ev.bO1 aw9 ?_
 simp only[AL,Bool.not_false,if_true,gW]
 refine Ev.bO1 wY ?_
 simp only[if_true]
 refine Ev.bO1 wZ ?_
 simp only[if_true]
 refine Ev.bO1 xA ?_
 simp only[AL,Bool.not_false,if_true]
 refine Ev.bO1 xB ?_
 exact .of fun n=>rfl
end Go.Proofs.YtjmofeakajdbiaaGreatDoor
set_option linter.unusedVariables false
noncomputable section
namespace Go.Proofs.YtjmofeakajdbiaaGreatDoor
open Go Go.AM
section
variable {α β γ:Type}
theorem tr {r:α}:Total (fun _=>some r):=⟨r,.ret⟩
theorem kV {A:Nat→Option α}{r:α}(h:Ev A r):Total A:=⟨r,h⟩
theorem tu {A:Nat→Option α}(h:Total fun n=>A (n+1)):Total A:=h.imp fun _ h=>.succ h
theorem t1 {A:Nat→Option α}{k:Nat→α→Option γ}(ha:Total A) (hk:∀a,Total fun n=>k n a):Total fun n=>bO1 (A n) (k n):=by
 obtain⟨a,ha⟩:=ha
 obtain⟨r,h⟩:=hk a
 exact⟨r,.bO1 ha h⟩
theorem t2 {A:Nat→Option (α×β)}{k:Nat→α→β→Option γ}(ha:Total A) (hk:∀a b,Total fun n=>k n a b):Total fun n=>bO2 (A n) (k n):=by
 obtain⟨⟨a,b⟩,ha⟩:=ha
 obtain⟨r,h⟩:=hk a b
 exact⟨r,.bO2 ha h⟩
theorem t3 {A1 A2 A3:Type}{A:Nat→Option (A1×A2×A3)}{k:Nat→A1→A2→A3→Option γ}(ha:Total A) (hk:∀a b c,Total fun n=>k n a b c):Total fun n=>bO3 (A n) (k n):=by
 obtain⟨⟨a,b,c⟩,ha⟩:=ha
 obtain⟨r,h⟩:=hk a b c
 exact⟨r,.bO3 ha h⟩
theorem t4 {A1 A2 A3 A4:Type}{A:Nat→Option (A1×A2×A3×A4)}{k:Nat→A1→A2→A3→A4→Option γ}(ha:Total A) (hk:∀a b c d,Total fun n=>k n a b c d):Total fun n=>bO4 (A n) (k n):=by
 obtain⟨⟨a,b,c,d⟩,ha⟩:=ha
 obtain⟨r,h⟩:=hk a b c d
 exact⟨r,.bO4 ha h⟩
theorem t7 {A1 A2 A3 A4 A5 A6 A7:Type}{A:Nat→Option (A1×A2×A3×A4×A5×A6×A7)}{k:Nat→A1→A2→A3→A4→A5→A6→A7→Option γ}(ha:Total A) (hk:∀a b c d e f g,Total fun n=>k n a b c d e f g):Total fun n=>bO7 (A n) (k n):=by
 obtain⟨⟨a,b,c,d,e,f,g⟩,ha⟩:=ha
 obtain⟨r,h⟩:=hk a b c d e f g
 exact⟨r,.bO7 ha h⟩
theorem ta {A1 A2 A3 A4 A5 A6 A7 A8 A9 A10:Type}{A:Nat→Option (A1×A2×A3×A4×A5×A6×A7×A8×A9×A10)}{k:Nat→A1→A2→A3→A4→A5→A6→A7→A8→A9→A10→Option γ}(ha:Total A) (hk:∀a b c d e f g h i j,Total fun n=>k n a b c d e f g h i j):Total fun n=>bO10 (A n) (k n):=by
 obtain⟨⟨a,b,c,d,e,f,g,h,i,j⟩,ha⟩:=ha
 obtain⟨r,h⟩:=hk a b c d e f g h i j
 exact⟨r,.bO10 ha h⟩
theorem tS {A:Nat→Option (α ⊕ β)}{k1:Nat→α→Option γ}{k2:Nat→β→Option γ}(ha:Total A) (h1:∀a,Total fun n=>k1 n a) (h2:∀b,Total fun n=>k2 n b):Total fun n=>bS (A n) (k1 n) (k2 n):=by
 obtain⟨a | b,N,ha⟩:=ha
 ·obtain⟨r,M,h⟩:=h1 a
  refine⟨r,N+M,fun n hn=>?_⟩
  show bS (A n) (k1 n) (k2 n)=_
  rw[ha n (by omega)]
  exact h n (by omega)
 ·obtain⟨r,M,h⟩:=h2 b
  refine⟨r,N+M,fun n hn=>?_⟩
  show bS (A n) (k1 n) (k2 n)=_
  rw[ha n (by omega)]
  exact h n (by omega)
theorem ti {c:Prop} [Decidable c] {A B:Nat→Option γ}(h1:Total A) (h2:Total B):Total fun n=>if c then A n else B n:=by
 by_cases h:c
 ·simp only[if_pos h];exact h1
 ·simp only[if_neg h];exact h2
end
theorem KG {s:ByteArray}(h:s.size≤maxLen):Total fun n=>XE n s:=kV (tW h)
theorem KH {s:ByteArray}(h:s.size≤maxLen):Total fun n=>U3 n s:=kV (iY h)
end Go.Proofs.YtjmofeakajdbiaaGreatDoor
end
set_option linter.unusedVariables false
noncomputable section
namespace Go.Proofs.YtjmofeakajdbiaaGreatDoor
open Go Go.AM
theorem qP (l:List D):AD AI 33 l→∀(z1:Int) (s2:ByteArray) (z4:Int),s2.size≤maxLen→Total fun n=>PM n z1 s2 l z4:=by
 refine Ba (P:=fun l=>AD AI 33 l→∀(z1:Int) (s2:ByteArray) (z4:Int),s2.size≤maxLen→Total fun n=>PM n z1 s2 l z4) (fun l ih h=>?_) l
 have t_end100:∀(z2 zi:Int) (z5:Int),Total fun n=>FG n l z2 zi z5 false:=by
  intros
  exact tu (by simp only[FG,Bool.false_eq_true,if_false,AE];exact ti tr tr)
 have t_loop100:∀(z2:Int) (i:Nat),i≤l.length→∀(z5:Int),Total fun n=>Fm n l z2 (i:Int) z5:=by
  intro z2
  refine down l.length ?_ ?_
  ·intros
   exact tu (by simp only[Fm,AE,Int.lt_irrefl,if_false];exact t_end100 _ _ _)
  ·intro i hi ihl z5
   obtain⟨x,hx,hm,hr⟩:=h.get hi
   obtain⟨a0,a1,a2,rfl,w0,w1,w2⟩:=U4 hr
   have hrec:=fun z=>ih a2 (Af (ag:=true) (sz:=3) hm (by simp)) w2 a0 a1 z w1
   have t_101:∀{z:Int},Total fun n=>ZF n a0 a1 a2 z:=by
    intros
    exact tu (by simp only[ZF,AJ];exact t1 (hrec _) fun _=>tr)
   refine tu ?_
   simp only[Fm,AE,if_pos (Cn hi)]
   refine ti ?_ (t_end100 _ _ _)
   refine tu ?_
   simp only[FG,if_true,AH hx,Cf,AJ,AG hi h.1,AL]
   exact t2 t_101 fun _ _=>ti tr ((ihl _))
 have t_F100:∀{z2 z3:Int},Total fun n=>ZG n l z2 z3:=by
  intros
  exact tu (by simp only[ZG];exact t_loop100 _ 0 (Nat.zero_le _) _)
 intro z1 s2 z4 hs
 have t_L55_7:∀{z1 z4 z12:Int} {b13:Bool},Total (fun n=>Ir n z1 l z4 z12 b13):=by
  intros
  exact tu (by simp only[Ir,AE];exact ti (ti (ti (ti (ti (t2 t_F100 fun _ _=>tr) tr) tr) tr) tr) tr)
 have t_L55_6:∀{z1 z4:Int} {b5 b10:Bool},Total (fun n=>Jy n z1 s2 l z4 b5 b10):=by
  intros
  exact tu (by simp only[Jy];exact ti (t1 ((KG ‹_›)) fun _=>t_L55_7) t_L55_7)
 have t_L55_5:∀{z1 z4:Int} {b5 b9:Bool},Total (fun n=>HL n z1 s2 l z4 b5 b9):=by
  intros
  exact tu (by simp only[HL];exact ti t_L55_7 (ti t_L55_6 t_L55_6))
 have t_L55_4:∀{z1 z4:Int} {b5 b8:Bool},Total (fun n=>Jx n z1 s2 l z4 b5 b8):=by
  intros
  exact tu (by simp only[Jx];exact ti t_L55_5 (ti t_L55_5 t_L55_5))
 have t_L55_3:∀{z1 z4:Int} {b5 b7:Bool},Total (fun n=>Jw n z1 s2 l z4 b5 b7):=by
  intros
  exact tu (by simp only[Jw];exact ti t_L55_5 (ti t_L55_4 t_L55_4))
 have t_L55_2:∀{z1 z4:Int} {b5 b6:Bool},Total (fun n=>Jv n z1 s2 l z4 b5 b6):=by
  intros
  exact tu (by simp only[Jv];exact ti t_L55_5 (ti t_L55_3 t_L55_3))
 have t_L55_1:∀{z1 z4:Int} {b5:Bool},Total (fun n=>Ju n z1 s2 l z4 b5):=by
  intros
  exact tu (by simp only[Ju];exact ti t_L55_2 t_L55_2)
 exact tu (by simp only[PM];exact ti t_L55_1 t_L55_1)
theorem Pk {s:ByteArray}{l:List D}(hs:s.size≤maxLen) (h:AD AI 9 l):Total fun n=>U9 n s l:=kV (wV hs h)
theorem LF {l:List D}(h:AD AI 9 l) {z2:Int}:Total fun n=>Ix n l z2:=by
 have t_end93x1:∀(z2 zi:Int),Total fun n=>Gw n l z2 zi  false:=by
  intros
  exact tu (by simp only[Gw,Bool.false_eq_true,if_false,AE];exact ti tr tr)
 have t_loop93x1:∀(z2:Int) (i:Nat),i≤l.length→Total fun n=>Ic n l z2 (i:Int):=by
  intro z2
  refine down l.length ?_ ?_
  ·intros
   exact tu (by simp only[Ic,AE,Int.lt_irrefl,if_false];exact t_end93x1 _ _)
  ·intro i hi ihl
   obtain⟨x,hx,hm,hr⟩:=h.get hi
   obtain⟨a0,rfl,w0⟩:=Z7 hr
   refine tu ?_
   simp only[Ic,AE,if_pos (Cn hi)]
   refine ti ?_ (t_end93x1 _ _)
   refine tu ?_
   simp only[Gw,if_true,AH hx,Bj,AJ,AG hi h.1,AL]
   exact t1 ((KH w0)) fun _=>ti tr ihl
 have t_F93x1:∀{z2:Int},Total fun n=>Ix n l z2:=by
  intros
  exact (by unfold Ix;exact t_loop93x1 _ 0 (Nat.zero_le _))
 exact t_F93x1
theorem DJ:∀{z1:Int}{b27:Bool},Total (fun n=>Cy n z1 b27):=by
 intros
 exact tu (by simp only[Cy];exact ti tr (ti (ti tr tr) tr))
theorem TU:∀{z1:Int}{b26:Bool},Total (fun n=>Gx n z1 b26):=by
 intros
 exact tu (by simp only[Gx];exact ti DJ (ti DJ DJ))
theorem TV:∀{z1:Int}{b25:Bool},Total (fun n=>Gy n z1 b25):=by
 intros
 exact tu (by simp only[Gy];exact ti DJ (ti TU TU))
theorem TW:∀{z1:Int}{b24:Bool},Total (fun n=>Gz n z1 b24):=by
 intros
 exact tu (by simp only[Gz];exact ti DJ (ti TV TV))
theorem TX:∀{z1:Int}{b23:Bool},Total (fun n=>G0 n z1 b23):=by
 intros
 exact tu (by simp only[G0];exact ti DJ (ti TW TW))
theorem TZ:∀{z1:Int}{b22:Bool},Total (fun n=>G3 n z1 b22):=by
 intros
 exact tu (by simp only[G3];exact ti DJ (ti TX TX))
theorem Ta:∀{z1:Int}{b21:Bool},Total (fun n=>G4 n z1 b21):=by
 intros
 exact tu (by simp only[G4];exact ti DJ (ti TZ TZ))
theorem Tb:∀{z1:Int}{b20:Bool},Total (fun n=>G5 n z1 b20):=by
 intros
 exact tu (by simp only[G5];exact ti DJ (ti Ta Ta))
theorem Tc:∀{z1:Int}{b19:Bool},Total (fun n=>G6 n z1 b19):=by
 intros
 exact tu (by simp only[G6];exact ti DJ (ti Tb Tb))
theorem Td:∀{z1:Int}{b18:Bool},Total (fun n=>G7 n z1 b18):=by
 intros
 exact tu (by simp only[G7];exact ti tr (ti Tc Tc))
theorem Ny:∀{z1:Int}{b17:Bool},Total (fun n=>Fx n z1 b17):=by
 intros
 exact tu (by simp only[Fx];exact ti tr (ti Td Td))
theorem Te:∀{z1:Int}{b16:Bool},Total (fun n=>G8 n z1 b16):=by
 intros
 exact tu (by simp only[G8];exact ti Ny (ti Ny Ny))
theorem IP:∀{z1:Int}{b15:Bool},Total (fun n=>EY n z1 b15):=by
 intros
 exact tu (by simp only[EY];exact ti tr (ti Te Te))
theorem Tf:∀{z1:Int}{b14:Bool},Total (fun n=>G9 n z1 b14):=by
 intros
 exact tu (by simp only[G9];exact ti IP (ti IP IP))
theorem Tg:∀{z1:Int}{b13:Bool},Total (fun n=>HA n z1 b13):=by
 intros
 exact tu (by simp only[HA];exact ti IP (ti Tf Tf))
theorem Th:∀{z1:Int}{b12:Bool},Total (fun n=>HB n z1 b12):=by
 intros
 exact tu (by simp only[HB];exact ti IP (ti Tg Tg))
theorem ES:∀{z1:Int}{b11:Bool},Total (fun n=>DW n z1 b11):=by
 intros
 exact tu (by simp only[DW];exact ti tr (ti Th Th))
theorem WH:∀{z1:Int}{b10:Bool},Total (fun n=>J4 n z1 b10):=by
 intros
 exact tu (by simp only[J4];exact ti ES (ti ES ES))
theorem WI:∀{z1:Int}{b9:Bool},Total (fun n=>J5 n z1 b9):=by
 intros
 exact tu (by simp only[J5];exact ti ES (ti WH WH))
theorem WJ:∀{z1:Int}{b8:Bool},Total (fun n=>J6 n z1 b8):=by
 intros
 exact tu (by simp only[J6];exact ti ES (ti WI WI))
theorem WK:∀{z1:Int}{b7:Bool},Total (fun n=>J7 n z1 b7):=by
 intros
 exact tu (by simp only[J7];exact ti ES (ti WJ WJ))
theorem WL:∀{z1:Int}{b6:Bool},Total (fun n=>J8 n z1 b6):=by
 intros
 exact tu (by simp only[J8];exact ti ES (ti WK WK))
theorem WM:∀{z1:Int}{b5:Bool},Total (fun n=>J9 n z1 b5):=by
 intros
 exact tu (by simp only[J9];exact ti ES (ti WL WL))
theorem ME:∀{z1:Int}{b4:Bool},Total (fun n=>H7 n z1 b4):=by
 intros
 exact tu (by simp only[H7];exact ti tr (ti WM WM))
theorem WN:∀{z1:Int}{b3:Bool},Total (fun n=>KA n z1 b3):=by
 intros
 exact tu (by simp only[KA];exact ti ME (ti ME ME))
theorem WO:∀{z1:Int}{b2:Bool},Total (fun n=>KB n z1 b2):=by
 intros
 exact tu (by simp only[KB];exact ti ME (ti WN WN))
theorem qQ:∀{z1:Int},Total (fun n=>jX n z1):=by
 intros
 exact (by unfold jX;exact ti WO WO)
theorem E0:∀{b21 b22 b23:Bool},Total (fun n=>HN n b21 b22 b23):=by
 intros
 exact tu (by simp only[HN];exact ti (ti tr tr) tr)
theorem WQ:∀{s3 s4:ByteArray}{b9 b10 b11 b18:Bool},s3.size≤maxLen→s4.size≤maxLen→Total (fun n=>TA n s3 s4 b9 b10 b11 b18):=by
 intros
 exact tu (by simp only[TA];exact ti (t1 ((KG ‹_›)) fun _=>t1 ((KG ‹_›)) fun _=>E0) E0)
theorem WR:∀{z1:Int}{s3 s4:ByteArray}{b9 b10 b11 b16:Bool},s3.size≤maxLen→s4.size≤maxLen→Total (fun n=>TB n z1 s3 s4 b9 b10 b11 b16):=by
 intros
 exact tu (by simp only[TB];exact ti (t1 ((KG ‹_›)) fun _=>E0) (ti ((WQ ‹_› ‹_›)) ((WQ ‹_› ‹_›))))
theorem WS:∀{z1:Int}{s3 s4:ByteArray}{b9 b10 b11 b14:Bool},s3.size≤maxLen→s4.size≤maxLen→Total (fun n=>TC n z1 s3 s4 b9 b10 b11 b14):=by
 intros
 exact tu (by simp only[TC];exact ti (t1 ((KH ‹_›)) fun _=>E0) (ti ((WR ‹_› ‹_›)) ((WR ‹_› ‹_›))))
theorem WT:∀{z1 z2:Int}{s3 s4:ByteArray}{b9 b10 b11 b13:Bool},s3.size≤maxLen→s4.size≤maxLen→Total (fun n=>TD n z1 z2 s3 s4 b9 b10 b11 b13):=by
 intros
 exact tu (by simp only[TD];exact ti (ti E0 (ti E0 E0)) (ti ((WS ‹_› ‹_›)) ((WS ‹_› ‹_›))))
theorem WU:∀{z1 z2:Int}{s3 s4:ByteArray}{b9 b10 b11 b12:Bool},s3.size≤maxLen→s4.size≤maxLen→Total (fun n=>TE n z1 z2 s3 s4 b9 b10 b11 b12):=by
 intros
 exact tu (by simp only[TE];exact ti (ti E0 E0) (ti ((WT ‹_› ‹_›)) ((WT ‹_› ‹_›))))
theorem Fe:∀{z1 z2:Int}{s3 s4:ByteArray}{b9 b10 b11:Bool},s3.size≤maxLen→s4.size≤maxLen→Total (fun n=>H8 n z1 z2 s3 s4 b9 b10 b11):=by
 intros
 exact tu (by simp only[H8];exact ti ((WU ‹_› ‹_›)) ((WU ‹_› ‹_›)))
theorem qR:∀{z1 z2:Int}{s3 s4 s5:ByteArray}{l6 l7:List D}{z8:Int},s3.size≤maxLen→s4.size≤maxLen→Total (fun n=>jY n z1 z2 s3 s4 s5 l6 l7 z8):=by
 intros
 exact (by unfold jY;exact ti (ti (ti ((Fe ‹_› ‹_›)) ((Fe ‹_› ‹_›))) (ti ((Fe ‹_› ‹_›)) ((Fe ‹_› ‹_›)))) (ti (ti ((Fe ‹_› ‹_›)) ((Fe ‹_› ‹_›))) (ti ((Fe ‹_› ‹_›)) ((Fe ‹_› ‹_›)))))
theorem LG:∀{s1:ByteArray}{l2:List D},Total (fun n=>RD n s1 l2):=by
 intros
 exact (by unfold RD;simp only[AE];exact ti (ti tr tr) tr)
theorem Zl:∀{z1 z2:Int}{s3 s4 s5:ByteArray}{l6 l7:List D}{z8:Int},Total (fun n=>U7 n z1 z2 s3 s4 s5 l6 l7 z8):=by
 intros
 exact (by unfold U7;exact ti tr (ti tr tr))
theorem WV:∀{s5:ByteArray}{l6 l7:List D}{b11:Bool},s5.size≤maxLen→AD AI 9 l6→Total (fun n=>Lc n s5 l6 l7 b11):=by
 intros
 exact tu (by simp only[Lc,AE];exact ti (ti (ti (t1 ((LF ‹_›)) fun _=>tr) tr) tr) (t1 LG fun _=>tr))
theorem qS:∀{z1 z2:Int}{s3 s4 s5:ByteArray}{l6 l7:List D}{z8:Int}{b9:Bool},s5.size≤maxLen→AD AI 9 l6→Total (fun n=>jZ n z1 z2 s3 s4 s5 l6 l7 z8 b9):=by
 intros
 exact (by unfold jZ;exact ti (t1 ((Pk ‹_› ‹_›)) fun _=>tr) (ti ((WV ‹_› ‹_›)) ((WV ‹_› ‹_›))))
theorem qT (l:List D):AD AI 39 l→∀(z1 z2:Int) (s3 s4 s5:ByteArray) (l6:List D) (z8 z9:Int),s3.size≤maxLen→s4.size≤maxLen→s5.size≤maxLen→AD AI 9 l6→Total fun n=>Lw n z1 z2 s3 s4 s5 l6 l z8 z9:=by
 refine Ba (P:=fun l=>AD AI 39 l→∀(z1 z2:Int) (s3 s4 s5:ByteArray) (l6:List D) (z8 z9:Int),s3.size≤maxLen→s4.size≤maxLen→s5.size≤maxLen→AD AI 9 l6→Total fun n=>Lw n z1 z2 s3 s4 s5 l6 l z8 z9) (fun l ih h=>?_) l
 intro z1 z2 s3 s4 s5 l6 z8 z9 h3 h4 h5 h6
 have t_end98:∀(z2 zi:Int) (z13 z14:Int) (s15 s16 s17:ByteArray) (l18 l19:List D) (z20 z21:Int),Total fun n=>Iy n l z2 zi z13 z14 s15 s16 s17 l18 l19 z20 z21 false:=by
  intros
  exact tu (by simp only[Iy,Bool.false_eq_true,if_false,AE];exact ti tr tr)
 have t_loop98:∀(z2:Int) (i:Nat),i≤l.length→∀(z13 z14:Int) (s15 s16 s17:ByteArray) (l18 l19:List D) (z20 z21:Int),Total fun n=>KC n l z2 (i:Int) z13 z14 s15 s16 s17 l18 l19 z20 z21:=by
  intro z2
  refine down l.length ?_ ?_
  ·intros
   exact tu (by simp only[KC,AE,Int.lt_irrefl,if_false];exact t_end98 _ _ _ _ _ _ _ _ _ _ _)
  ·intro i hi ihl z13 z14 s15 s16 s17 l18 l19 z20 z21
   obtain⟨x,hx,hm,hr⟩:=h.get hi
   obtain⟨a0,a1,a2,a3,a4,a5,a6,a7,rfl,w0,w1,w2,w3,w4,w5,w6,w7⟩:=Jz hr
   have hrec:=fun z=>ih a6 (Af (ag:=true) (sz:=8) hm (by simp)) w6 a0 a1 a2 a3 a4 a5 a7 z w2 w3 w4 w5
   have t_99:∀{z9 z10:Int} {s11 s12 s13:ByteArray} {l14 l15:List D} {z16 z17:Int},Total fun n=>kA n a0 a1 a2 a3 a4 a5 a6 a7 z9 z10 s11 s12 s13 l14 l15 z16 z17:=by
    intros
    exact tu (by simp only[kA,AJ,AL];exact ti (t1 ((hrec _)) fun _=>tr) (t1 Zl fun _=>ti (t1 ((hrec _)) fun _=>tr) tr))
   refine tu ?_
   simp only[KC,AE,if_pos (Cn hi)]
   refine ti ?_ (t_end98 _ _ _ _ _ _ _ _ _ _ _)
   refine tu ?_
   simp only[Iy,if_true,AH hx,BD,AJ,AG hi h.1,AL]
   exact ta t_99 fun _ _ _ _ _ _ _ _ _ _=>ti tr ((ihl _ _ _ _ _ _ _ _ _))
 have t_F98:∀{z2 z3 z4:Int} {s5 s6 s7:ByteArray} {l8 l9:List D} {z10 z11:Int},Total fun n=>kB n l z2 z3 z4 s5 s6 s7 l8 l9 z10 z11:=by
  intros
  exact tu (by simp only[kB];exact t_loop98 _ 0 (Nat.zero_le _) _ _ _ _ _ _ _ _ _)
 have t_L54_1:∀{z1 z2 z8 z9 z12:Int} {b20:Bool},Total (fun n=>H9 n z1 z2 s3 s4 s5 l6 l z8 z9 z12 b20):=by
  intros
  exact tu (by simp only[H9];exact ti tr (ta t_F98 fun _ _ _ _ _ _ _ _ _ _=>tr))
 exact tu (by simp only[Lw,AE,AL];exact t4 qQ fun _ _ _ _=>ti t_L54_1 (ti t_L54_1 (t1 ((qR h3 h4)) fun _=>ti t_L54_1 (ti t_L54_1 (t1 ((qS h5 h6)) fun _=>t_L54_1)))))
end Go.Proofs.YtjmofeakajdbiaaGreatDoor
end
set_option linter.unusedVariables false
noncomputable section
namespace Go.Proofs.YtjmofeakajdbiaaGreatDoor
open Go Go.AM
theorem Nz:∀{z1:Int}{s2:ByteArray}{l3:List D},Total (fun n=>ZS n z1 s2 l3):=by
 intros
 exact (by unfold ZS;simp only[AE];exact ti (ti (ti tr tr) tr) tr)
theorem Pl:∀{b29:Bool},Total (fun n=>Ep n b29):=by
 intros
 exact tu (by simp only[Ep];exact ti tr tr)
theorem Pm:∀{z1:Int}{b28:Bool},Total (fun n=>Er n z1 b28):=by
 intros
 exact tu (by simp only[Er];exact ti tr (ti Pl Pl))
theorem Pn:∀{z1:Int}{l4:List D}{b26:Bool},Total (fun n=>Et n z1 l4 b26):=by
 intros
 exact tu (by simp only[Et,AE];exact ti tr (ti Pm Pm))
theorem LH:∀{z1:Int}{l4:List D}{b25:Bool},Total (fun n=>EH n z1 l4 b25):=by
 intros
 exact tu (by simp only[EH];exact ti tr (ti Pn Pn))
theorem Ti:∀{z1:Int}{l4:List D}{b24:Bool},Total (fun n=>Gm n z1 l4 b24):=by
 intros
 exact tu (by simp only[Gm];exact ti LH (ti LH LH))
theorem Tj:∀{z1:Int}{l4:List D}{b23:Bool},Total (fun n=>Gn n z1 l4 b23):=by
 intros
 exact tu (by simp only[Gn];exact ti tr (ti Ti Ti))
theorem Tk:∀{z1:Int}{l4:List D}{b22:Bool},Total (fun n=>Gp n z1 l4 b22):=by
 intros
 exact tu (by simp only[Gp];exact ti tr (ti Tj Tj))
theorem Tl:∀{z1:Int}{l4:List D}{b21:Bool},Total (fun n=>Gq n z1 l4 b21):=by
 intros
 exact tu (by simp only[Gq];exact ti tr (ti Tk Tk))
theorem Tm:∀{z1:Int}{l4:List D}{b20:Bool},Total (fun n=>Gr n z1 l4 b20):=by
 intros
 exact tu (by simp only[Gr];exact ti tr (ti Tl Tl))
theorem Tn:∀{z1:Int}{l4:List D}{b19:Bool},Total (fun n=>Gs n z1 l4 b19):=by
 intros
 exact tu (by simp only[Gs];exact ti tr (ti Tm Tm))
theorem To:∀{z1:Int}{l4:List D}{b18:Bool},Total (fun n=>Gt n z1 l4 b18):=by
 intros
 exact tu (by simp only[Gt];exact ti tr (ti Tn Tn))
theorem Tp:∀{z1:Int}{l4:List D}{b17:Bool},Total (fun n=>Gu n z1 l4 b17):=by
 intros
 exact tu (by simp only[Gu];exact ti tr (ti To To))
theorem Tq:∀{z1:Int}{l4:List D}{b16:Bool},Total (fun n=>Gv n z1 l4 b16):=by
 intros
 exact tu (by simp only[Gv];exact ti tr (ti Tp Tp))
theorem kW:∀{z1:Int}{s2 s3:ByteArray}{l4:List D}{z5:Int}{s6:ByteArray}{l7:List D}{z8:Int}{s9:ByteArray}{l10 l11 l12 l13 l14:List D}{z15:Int},Total (fun n=>RC n z1 s2 s3 l4 z5 s6 l7 z8 s9 l10 l11 l12 l13 l14 z15):=by
 intros
 exact (by unfold RC;exact ti Tq Tq)
theorem Tr:∀{z8:Int}{b16:Bool},Total (fun n=>Nj n z8 b16):=by
 intros
 exact tu (by simp only[Nj];exact ti (ti (ti tr tr) tr) (ti tr tr))
theorem N0:∀{z1:Int}{s2 s3:ByteArray}{l4:List D}{z5:Int}{s6:ByteArray}{l7:List D}{z8:Int}{s9:ByteArray}{l10 l11 l12 l13 l14:List D}{z15:Int},Total (fun n=>Nk n z1 s2 s3 l4 z5 s6 l7 z8 s9 l10 l11 l12 l13 l14 z15):=by
 intros
 exact (by unfold Nk;exact ti Tr Tr)
theorem RI:∀{s1:ByteArray},Total (fun n=>U8 n s1):=by
 intros
 exact (by unfold U8;exact ti tr tr)
theorem VF {l:List D}(h:AD AI 39 l) {z1 z2:Int}{s3 s4 s5:ByteArray}{l6:List D}{z8 z9:Int}(h3:s3.size≤maxLen) (h4:s4.size≤maxLen) (h5:s5.size≤maxLen) (h6:AD AI 9 l6):Total fun n=>Lw n z1 z2 s3 s4 s5 l6 l z8 z9:=qT l h _ _ _ _ _ _ _ _ h3 h4 h5 h6
theorem F1 {l:List D}(h:AD AI 33 l) {z1:Int}{s2:ByteArray}{z4:Int}(hs:s2.size≤maxLen):Total fun n=>PM n z1 s2 l z4:=qP l h _ _ _ hs
theorem kX:∀{z1 z2:Int}{s3 s4 s5:ByteArray}{l6 l7:List D}{z8 z9 z10:Int}{b11 b12 b13 b14 b15 b16:Bool}{z17:Int},s3.size≤maxLen→s4.size≤maxLen→s5.size≤maxLen→AD AI 9 l6→AD AI 39 l7→Total (fun n=>K9 n z1 z2 s3 s4 s5 l6 l7 z8 z9 z10 b11 b12 b13 b14 b15 b16 z17):=by
 intros
 exact (by unfold K9;simp only[AJ,AL];exact ti (t1 ((VF ‹_› ‹_› ‹_› ‹_› ‹_›)) fun _=>tr) (t1 Zl fun _=>ti (t1 ((VF ‹_› ‹_› ‹_› ‹_› ‹_›)) fun _=>tr) tr))
theorem HF {l:List D}(h:AD AI 39 l):∀{z2 z3 z4:Int}{b5 b6 b7 b8 b9 b10:Bool}{z11:Int},Total fun n=>Ej n l z2 z3 z4 b5 b6 b7 b8 b9 b10 z11:=by
 have t_end98x1:∀(z2 zi:Int) (z13 z14:Int) (b15 b16 b17 b18 b19 b20:Bool) (z21:Int),Total fun n=>CA n l z2 zi z13 z14 b15 b16 b17 b18 b19 b20 z21 false:=by
  intros
  exact tu (by simp only[CA,Bool.false_eq_true,if_false,AE];exact ti tr tr)
 have t_loop98x1:∀(z2:Int) (i:Nat),i≤l.length→∀(z13 z14:Int) (b15 b16 b17 b18 b19 b20:Bool) (z21:Int),Total fun n=>B2 n l z2 (i:Int) z13 z14 b15 b16 b17 b18 b19 b20 z21:=by
  intro z2
  refine down l.length ?_ ?_
  ·intros
   exact tu (by simp only[B2,AE,Int.lt_irrefl,if_false];exact t_end98x1 _ _ _ _ _ _ _ _ _ _ _)
  ·intro i hi ihl z13 z14 b15 b16 b17 b18 b19 b20 z21
   obtain⟨x,hx,hm,hr⟩:=h.get hi
   obtain⟨a0,a1,a2,a3,a4,a5,a6,a7,rfl,w0,w1,w2,w3,w4,w5,w6,w7⟩:=Jz hr
   refine tu ?_
   simp only[B2,AE,if_pos (Cn hi)]
   refine ti ?_ (t_end98x1 _ _ _ _ _ _ _ _ _ _ _)
   refine tu ?_
   simp only[CA,if_true,AH hx,BD,AJ,AG hi h.1,AL]
   exact ta ((kX w2 w3 w4 w5 w6)) fun _ _ _ _ _ _ _ _ _ _=>ti tr ((ihl _ _ _ _ _ _ _ _ _))
 have HF:∀{z2 z3 z4:Int} {b5 b6 b7 b8 b9 b10:Bool} {z11:Int},Total fun n=>Ej n l z2 z3 z4 b5 b6 b7 b8 b9 b10 z11:=by
  intros
  exact (by unfold Ej;exact t_loop98x1 _ 0 (Nat.zero_le _) _ _ _ _ _ _ _ _ _)
 exact @HF
theorem qU (n:Nat):EI n=B2 n∧Eu n=CA n:=by
 induction n with
 | zero=>exact⟨rfl,rfl⟩
 | succ n ih=>exact⟨by funext a b c d e f g h i j k l;simp only[EI,B2,ih.2],by funext a b c d e f g h i j k l m;simp only[Eu,CA,ih.1,show IA=K9 from rfl]⟩
theorem qV:Ld=Ej:=by
 funext n a b c d e f g h i j k
 simp only[Ld,Ej,(qU _).1]
theorem qW (n:Nat):EJ n=B2 n∧Ew n=CA n:=by
 induction n with
 | zero=>exact⟨rfl,rfl⟩
 | succ n ih=>exact⟨by funext a b c d e f g h i j k l;simp only[EJ,B2,ih.2],by funext a b c d e f g h i j k l m;simp only[Ew,CA,ih.1,show IB=K9 from rfl]⟩
theorem qX:Lg=Ej:=by
 funext n a b c d e f g h i j k
 simp only[Lg,Ej,(qW _).1]
theorem qY (n:Nat):EK n=B2 n∧Ex n=CA n:=by
 induction n with
 | zero=>exact⟨rfl,rfl⟩
 | succ n ih=>exact⟨by funext a b c d e f g h i j k l;simp only[EK,B2,ih.2],by funext a b c d e f g h i j k l m;simp only[Ex,CA,ih.1,show IC=K9 from rfl]⟩
theorem qZ:Lh=Ej:=by
 funext n a b c d e f g h i j k
 simp only[Lh,Ej,(qY _).1]
theorem rA (n:Nat):EL n=B2 n∧Ey n=CA n:=by
 induction n with
 | zero=>exact⟨rfl,rfl⟩
 | succ n ih=>exact⟨by funext a b c d e f g h i j k l;simp only[EL,B2,ih.2],by funext a b c d e f g h i j k l m;simp only[Ey,CA,ih.1,show IE=K9 from rfl]⟩
theorem rB:Li=Ej:=by
 funext n a b c d e f g h i j k
 simp only[Li,Ej,(rA _).1]
theorem dP {l:List D}(h:AD AI 39 l):∀{z2 z3 z4:Int}{b5 b6 b7 b8 b9 b10:Bool}{z11:Int},Total fun n=>Ld n l z2 z3 z4 b5 b6 b7 b8 b9 b10 z11:=by rw[qV];exact HF h
theorem dQ {l:List D}(h:AD AI 39 l):∀{z2 z3 z4:Int}{b5 b6 b7 b8 b9 b10:Bool}{z11:Int},Total fun n=>Lg n l z2 z3 z4 b5 b6 b7 b8 b9 b10 z11:=by rw[qX];exact HF h
theorem dS {l:List D}(h:AD AI 39 l):∀{z2 z3 z4:Int}{b5 b6 b7 b8 b9 b10:Bool}{z11:Int},Total fun n=>Lh n l z2 z3 z4 b5 b6 b7 b8 b9 b10 z11:=by rw[qZ];exact HF h
theorem dT {l:List D}(h:AD AI 39 l):∀{z2 z3 z4:Int}{b5 b6 b7 b8 b9 b10:Bool}{z11:Int},Total fun n=>Li n l z2 z3 z4 b5 b6 b7 b8 b9 b10 z11:=by rw[rB];exact HF h
theorem RJ {l:List D}(h:AD AI 95 l) (hin:∀(s1 s2:ByteArray) (m:List D),.agg [.str s1,.str s2,.list true 15 m]∈l→∀z2 z3:Int,Total fun n=>Cz n m z2 z3):∀z2 z3:Int,Total fun n=>JQ n l z2 z3:=by
 have t_end129:∀(z2 zi:Int) (z5:Int),Total fun n=>Fy n l z2 zi z5 false:=by
  intros
  exact tu (by simp only[Fy,Bool.false_eq_true,if_false,AE];exact ti tr tr)
 have t_loop129:∀(z2:Int) (i:Nat),i≤l.length→∀(z5:Int),Total fun n=>HC n l z2 (i:Int) z5:=by
  intro z2
  refine down l.length ?_ ?_
  ·intros
   exact tu (by simp only[HC,AE,Int.lt_irrefl,if_false];exact t_end129 _ _ _)
  ·intro i hi ihl z5
   obtain⟨x,hx,hm,hr⟩:=h.get hi
   obtain⟨a0,a1,a2,rfl,w0,w1,w2⟩:=J0 hr
   have hrec:=hin a0 a1 a2 hm
   have t_130:∀{z4:Int},Total fun n=>VB n a0 a1 a2 z4:=by
    intros
    exact tu (by simp only[VB,AE];exact t1 ((KG w0)) fun _=>ti (ti (t2 ((hrec _ _)) fun _ _=>tr) (t1 ((KH w1)) fun _=>ti (t2 ((hrec _ _)) fun _ _=>tr) tr)) tr)
   refine tu ?_
   simp only[HC,AE,if_pos (Cn hi)]
   refine ti ?_ (t_end129 _ _ _)
   refine tu ?_
   simp only[Fy,if_true,AH hx,Bf,AJ,AG hi h.1,AL]
   exact t2 t_130 fun _ _=>ti tr ((ihl _))
 have RJ:∀{z2 z3:Int},Total fun n=>JQ n l z2 z3:=by
  intros
  exact tu (by simp only[JQ];exact t_loop129 _ 0 (Nat.zero_le _) _)
 exact fun _ _=>RJ
theorem gC {s2 s3 s6 s9:ByteArray}{l4 l7 l10 l11 l12 l13 l14:List D}(hs2:s2.size≤maxLen) (hs3:s3.size≤maxLen) (h4:AD AI 9 l4) (hs6:s6.size≤maxLen) (h7:AD AI 33 l7) (hs9:s9.size≤maxLen) (h10:AD AI 9 l10) (h11:AD AI 39 l11)
  (h12:∀z2 z3:Int,Total fun n=>Cz n l12 z2 z3) (h13:∀z2 z3:Int,Total fun n=>Cz n l13 z2 z3) (h14:∀z2 z3:Int,Total fun n=>JQ n l14 z2 z3) (z1 z5 z8 z15 z16:Int):Total fun n=>Z8 n z1 s2 s3 l4 z5 s6 l7 z8 s9 l10 l11 l12 l13 l14 z15 z16:=by
 have t_L77_3:∀{z16 z17 z18:Int} {b19 b20 b21 b22 b68:Bool},Total (fun n=>ER n l11 l12 l13 l14 z16 z17 z18 b19 b20 b21 b22 b68):=by
  intros
  exact tu (by simp only[ER,AE];exact ti tr (ta ((HF ‹_›)) fun _ _ _ _ _ _ _ _ _ _=>ti (t2 ((h12 _ _)) fun _ _=>ti (t2 ((h13 _ _)) fun _ _=>ti (t2 ((h14 _ _)) fun _ _=>tr) tr) tr) tr))
 have t_L77_2:∀{z16 z17 z18:Int} {b19 b20 b21 b22 b57:Bool},Total (fun n=>IG n l11 l12 l13 l14 z16 z17 z18 b19 b20 b21 b22 b57):=by
  intros
  exact tu (by simp only[IG,AE,AL];exact ti tr (ti (ti t_L77_3 (ti (ti t_L77_3 (ti t_L77_3 t_L77_3)) (ti t_L77_3 t_L77_3))) (ti (ti t_L77_3 (ti t_L77_3 t_L77_3)) (ti t_L77_3 t_L77_3))))
 have t_L77_1:∀{z5 z16 z17 z18:Int} {b19 b20 b21 b22 b46:Bool},Total (fun n=>GQ n z5 s6 l7 s9 l10 l11 l12 l13 l14 z16 z17 z18 b19 b20 b21 b22 b46):=by
  intros
  exact tu (by simp only[GQ,AJ,AL];exact ti tr (t1 ((F1 ‹_› ‹_›)) fun _=>ti t_L77_2 (t1 Nz fun _=>ti t_L77_2 (t1 ((Pk ‹_› ‹_›)) fun _=>ti t_L77_2 (ti (t1 LG fun _=>t_L77_2) t_L77_2)))))
 have t_L77_12:∀{z16:Int} {b197:Bool},Total (fun n=>HD n l11 l12 l13 l14 z16 b197):=by
  intros
  exact tu (by simp only[HD,AE];exact ti tr (ta ((dS ‹_›)) fun _ _ _ _ _ _ _ _ _ _=>ti (t2 ((h12 _ _)) fun _ _=>ti (t2 ((h13 _ _)) fun _ _=>ti (t2 ((h14 _ _)) fun _ _=>tr) tr) tr) tr))
 have t_L77_11:∀{z16:Int} {b194:Bool},Total (fun n=>Fz n l11 l12 l13 l14 z16 b194):=by
  intros
  exact tu (by simp only[Fz,AE];exact ti tr (ti t_L77_12 (ti t_L77_12 t_L77_12)))
 have t_L77_10:∀{z5 z16:Int} {b184:Bool},Total (fun n=>EZ n z5 s6 l7 s9 l10 l11 l12 l13 l14 z16 b184):=by
  intros
  exact tu (by simp only[EZ,AJ,AL];exact ti tr (t1 ((F1 ‹_› ‹_›)) fun _=>ti t_L77_11 (t1 Nz fun _=>ti t_L77_11 (t1 ((Pk ‹_› ‹_›)) fun _=>ti t_L77_11 (t1 LG fun _=>t_L77_11)))))
 have t_L77_15:∀{z16:Int} {b237:Bool},Total (fun n=>F0 n l11 l12 l13 l14 z16 b237):=by
  intros
  exact tu (by simp only[F0,AE];exact ti tr (ta ((dT ‹_›)) fun _ _ _ _ _ _ _ _ _ _=>ti (t2 ((h12 _ _)) fun _ _=>ti (t2 ((h13 _ _)) fun _ _=>ti (t2 ((h14 _ _)) fun _ _=>tr) tr) tr) tr))
 have t_L77_14:∀{z16:Int} {b233:Bool},Total (fun n=>HE n l11 l12 l13 l14 z16 b233):=by
  intros
  exact tu (by simp only[HE,AE];exact ti tr (ti t_L77_15 (ti t_L77_15 (ti t_L77_15 t_L77_15))))
 have t_L77_13:∀{z5 z16:Int} {b225:Bool},Total (fun n=>Ea n z5 s6 l7 s9 l10 l11 l12 l13 l14 z16 b225):=by
  intros
  exact tu (by simp only[Ea,AJ,AL];exact ti tr (t1 ((F1 ‹_› ‹_›)) fun _=>ti t_L77_14 (t1 ((Pk ‹_› ‹_›)) fun _=>ti t_L77_14 (t1 LG fun _=>t_L77_14))))
 have t_L77_6:∀{z16 z24:Int} {b25 b26 b27 b114:Bool},Total (fun n=>GR n l11 l12 l13 l14 z16 z24 b25 b26 b27 b114):=by
  intros
  exact tu (by simp only[GR,AE];exact ti tr (ta ((dP ‹_›)) fun _ _ _ _ _ _ _ _ _ _=>ti (t2 ((h12 _ _)) fun _ _=>ti (t2 ((h13 _ _)) fun _ _=>ti (t2 ((h14 _ _)) fun _ _=>tr) tr) tr) tr))
 have t_L77_5:∀{z16 z24:Int} {b25 b26 b27 b107:Bool},Total (fun n=>IH n l11 l12 l13 l14 z16 z24 b25 b26 b27 b107):=by
  intros
  exact tu (by simp only[IH,AE,AL];exact ti tr (ti (ti t_L77_6 (ti t_L77_6 (ti t_L77_6 t_L77_6))) (ti t_L77_6 (ti t_L77_6 t_L77_6))))
 have t_L77_4:∀{z5 z16 z24:Int} {b25 b26 b27 b96:Bool},Total (fun n=>HO n z5 s6 l7 s9 l10 l11 l12 l13 l14 z16 z24 b25 b26 b27 b96):=by
  intros
  exact tu (by simp only[HO,AJ,AL];exact ti tr (t1 ((F1 ‹_› ‹_›)) fun _=>ti t_L77_5 (t1 Nz fun _=>ti t_L77_5 (t1 ((Pk ‹_› ‹_›)) fun _=>ti t_L77_5 (ti (t1 LG fun _=>t_L77_5) t_L77_5)))))
 have t_L77_9:∀{z16:Int} {b156:Bool},Total (fun n=>I0 n l11 l12 l13 l14 z16 b156):=by
  intros
  exact tu (by simp only[I0,AE];exact ti tr (ta ((dQ ‹_›)) fun _ _ _ _ _ _ _ _ _ _=>ti (t2 ((h12 _ _)) fun _ _=>ti (t2 ((h13 _ _)) fun _ _=>ti (t2 ((h14 _ _)) fun _ _=>tr) tr) tr) tr))
 have t_L77_8:∀{z16:Int} {b152:Bool},Total (fun n=>Iz n l11 l12 l13 l14 z16 b152):=by
  intros
  exact tu (by simp only[Iz,AE];exact ti tr (ti t_L77_9 (ti t_L77_9 (ti t_L77_9 t_L77_9))))
 have t_L77_7:∀{z5 z16:Int} {b142:Bool},Total (fun n=>HP n z5 s6 l7 s9 l10 l11 l12 l13 l14 z16 b142):=by
  intros
  exact tu (by simp only[HP,AJ,AL];exact ti tr (t1 ((F1 ‹_› ‹_›)) fun _=>ti t_L77_8 (t1 Nz fun _=>ti t_L77_8 (t1 ((Pk ‹_› ‹_›)) fun _=>ti t_L77_8 (t1 LG fun _=>t_L77_8)))))
 exact tu (by simp only[Z8,AE,AL];exact tS kW (fun _=>t7 tr fun _ _ _ _ _ _ _=>ti t_L77_1 (ti t_L77_1 (t1 N0 fun _=>ti t_L77_1 (t1 RI fun _=>ti t_L77_1 (t1 RI fun _=>ti t_L77_1 (ti (t1 ((LF h4)) fun _=>t_L77_1) t_L77_1)))))) (fun _=>tS tr (fun _=>t4 tr fun _ _ _ _=>ti t_L77_4 (t1 N0 fun _=>ti t_L77_4 (t1 ((KH ‹_›)) fun _=>ti t_L77_4 (t1 RI fun _=>ti t_L77_4 (ti (t1 ((LF h4)) fun _=>t_L77_4) t_L77_4))))) (fun _=>tS tr (fun _=>ti t_L77_7 (t1 N0 fun _=>ti t_L77_7 (t1 ((KG ‹_›)) fun _=>ti t_L77_7 (t1 RI fun _=>ti t_L77_7 (ti (t1 ((LF h4)) fun _=>t_L77_7) t_L77_7))))) (fun _=>tS tr (fun _=>ti t_L77_10 (t1 N0 fun _=>ti t_L77_10 (t1 ((KH ‹_›)) fun _=>ti t_L77_10 (t1 ((KG ‹_›)) fun _=>ti t_L77_10 (ti (t1 ((LF h4)) fun _=>t_L77_10) t_L77_10))))) (fun _=>ti t_L77_13 (t1 N0 fun _=>ti t_L77_13 (t1 ((KH ‹_›)) fun _=>ti t_L77_13 (t1 ((KH ‹_›)) fun _=>ti t_L77_13 (ti (t1 ((LF h4)) fun _=>t_L77_13) t_L77_13)))))))))
theorem KI (l:List D):AD AI 50 l→∀z2 z3:Int,Total fun n=>Cz n l z2 z3:=by
 refine Ba (P:=fun l=>AD AI 50 l→∀z2 z3:Int,Total fun n=>Cz n l z2 z3) (fun l ih h=>?_) l
 have t_end75x1:∀(z2 zi:Int) (z5:Int),Total fun n=>EM n l z2 zi z5 false:=by
  intros
  exact tu (by simp only[EM,Bool.false_eq_true,if_false,AE];exact ti tr tr)
 have t_loop75x1:∀(z2:Int) (i:Nat),i≤l.length→∀(z5:Int),Total fun n=>Ez n l z2 (i:Int) z5:=by
  intro z2
  refine down l.length ?_ ?_
  ·intros
   exact tu (by simp only[Ez,AE,Int.lt_irrefl,if_false];exact t_end75x1 _ _ _)
  ·intro i hi ihl z5
   obtain⟨x,hx,hm,hr⟩:=h.get hi
   obtain⟨a0,a1,a2,a3,a4,a5,a6,a7,a8,a9,a10,a11,a12,a13,a14,rfl,w0,w1,w2,w3,w4,w5,w6,w7,w8,w9,w10,w11,w12,w13,w14⟩:=Hx hr
   have h129:∀z2 z3:Int,Total fun n=>JQ n a13 z2 z3:=RJ w13 fun s1 s2 m hm2=>ih m (Nat.lt_trans (Af (ag:=true) (sz:=15) hm2 (by simp)) (Af (ag:=true) (sz:=3) hm (by simp))) (by obtain⟨b0,b1,b2,e,_,_,w⟩:=J0 (w13.2 _ hm2);cases e;exact w)
   have h11:=ih a11 (Af (ag:=true) (sz:=15) hm (by simp)) w11
   have h12:=ih a12 (Af (ag:=true) (sz:=15) hm (by simp)) w12
   have t_127:∀{z:Int},Total fun n=>VA n a0 a1 a2 a3 a4 a5 a6 a7 a8 a9 a10 a11 a12 a13 a14 z:=by
    intros
    exact tu (by simp only[VA,AJ];exact t1 (gC w1 w2 w3 w5 w6 w8 w9 w10 h11 h12 h129 _ _ _ _ _) fun _=>tr)
   refine tu ?_
   simp only[Ez,AE,if_pos (Cn hi)]
   refine ti ?_ (t_end75x1 _ _ _)
   refine tu ?_
   simp only[EM,if_true,AH hx,BJ,AJ,AG hi h.1,AL]
   exact t2 t_127 fun _ _=>ti tr ((ihl _))
 have KI:∀{z2 z3:Int},Total fun n=>Cz n l z2 z3:=by
  intros
  exact tu (by simp only[Cz];exact t_loop75x1 _ 0 (Nat.zero_le _) _)
 exact fun _ _=>KI
theorem Zm {l:List D}(h:AD AI 50 l) {z2 z3:Int}:Total fun n=>cV n l z2 z3:=by
 have t_end75:∀(z2 zi:Int) (z5:Int),Total fun n=>I1 n l z2 zi z5 false:=by
  intros
  exact tu (by simp only[I1,Bool.false_eq_true,if_false,AE];exact ti tr tr)
 have t_loop75:∀(z2:Int) (i:Nat),i≤l.length→∀(z5:Int),Total fun n=>II n l z2 (i:Int) z5:=by
  intro z2
  refine down l.length ?_ ?_
  ·intros
   exact tu (by simp only[II,AE,Int.lt_irrefl,if_false];exact t_end75 _ _ _)
  ·intro i hi ihl z5
   obtain⟨x,hx,hm,hr⟩:=h.get hi
   obtain⟨a0,a1,a2,a3,a4,a5,a6,a7,a8,a9,a10,a11,a12,a13,a14,rfl,w0,w1,w2,w3,w4,w5,w6,w7,w8,w9,w10,w11,w12,w13,w14⟩:=Hx hr
   have h129:∀z2 z3:Int,Total fun n=>JQ n a13 z2 z3:=RJ w13 fun s1 s2 m hm2=>KI m (by obtain⟨b0,b1,b2,e,_,_,w⟩:=J0 (w13.2 _ hm2);cases e;exact w)
   have t_76:∀{z:Int},Total fun n=>kO n a0 a1 a2 a3 a4 a5 a6 a7 a8 a9 a10 a11 a12 a13 a14 z:=by
    intros
    exact (by unfold kO;simp only[AJ];exact t1 (gC w1 w2 w3 w5 w6 w8 w9 w10 (KI _ w11) (KI _ w12) h129 _ _ _ _ _) fun _=>tr)
   refine tu ?_
   simp only[II,AE,if_pos (Cn hi)]
   refine ti ?_ (t_end75 _ _ _)
   refine tu ?_
   simp only[I1,if_true,AH hx,BJ,AJ,AG hi h.1,AL]
   exact t2 t_76 fun _ _=>ti tr ((ihl _))
 have Zm:∀{z2 z3:Int},Total fun n=>cV n l z2 z3:=by
  intros
  exact (by unfold cV;exact t_loop75 _ 0 (Nat.zero_le _) _)
 exact Zm
theorem rC:∀{s1:ByteArray}{z2:Int}{s3:ByteArray}{l4:List D}{b5:Bool}{z6:Int},s1.size≤maxLen→s3.size≤maxLen→AD AI 33 l4→Total (fun n=>lW n s1 z2 s3 l4 b5 z6):=by
 intros
 exact (by unfold lW;simp only[AJ];exact t1 ((KH ‹_›)) fun _=>ti (ti (t1 Nz fun _=>ti tr (t1 ((F1 ‹_› ‹_›)) fun _=>tr)) (t1 ((F1 ‹_› ‹_›)) fun _=>tr)) tr)
theorem Zn {l:List D}(h:AD AI 74 l):∀(z2:Int) (b3:Bool) (z4:Int),Total fun n=>oS n l z2 b3 z4:=by
 have t_end70:∀(z2 zi:Int) (b6:Bool) (z7:Int),Total fun n=>Nh n l z2 zi b6 z7 false:=by
  intros
  exact tu (by simp only[Nh,Bool.false_eq_true,if_false,AE];exact ti tr tr)
 have t_loop70:∀(z2:Int) (i:Nat),i≤l.length→∀(b6:Bool) (z7:Int),Total fun n=>Pa n l z2 (i:Int) b6 z7:=by
  intro z2
  refine down l.length ?_ ?_
  ·intros
   exact tu (by simp only[Pa,AE,Int.lt_irrefl,if_false];exact t_end70 _ _ _ _)
  ·intro i hi ihl b6 z7
   obtain⟨x,hx,hm,hr⟩:=h.get hi
   obtain⟨a0,a1,a2,a3,rfl,w0,w1,w2,w3⟩:=Q4 hr
   refine tu ?_
   simp only[Pa,AE,if_pos (Cn hi)]
   refine ti ?_ (t_end70 _ _ _ _)
   refine tu ?_
   simp only[Nh,if_true,AH hx,Bv,AJ,AG hi h.1,AL]
   exact t3 ((rC w0 w2 w3)) fun _ _ _=>ti tr ((ihl _ _))
 have Zn:∀{z2:Int} {b3:Bool} {z4:Int},Total fun n=>oS n l z2 b3 z4:=by
  intros
  exact (by unfold oS;exact t_loop70 _ 0 (Nat.zero_le _) _ _)
 exact fun _ _ _=>Zn
theorem dU:∀{s1:ByteArray}{z2:Int}{s3:ByteArray}{l4:List D}{b5:Bool}{z6:Int},s1.size≤maxLen→s3.size≤maxLen→AD AI 33 l4→Total (fun n=>Pb n s1 z2 s3 l4 b5 z6):=by
 intros
 exact (by unfold Pb;simp only[AJ];exact t1 ((KG ‹_›)) fun _=>ti (ti (t1 Nz fun _=>ti tr (t1 ((F1 ‹_› ‹_›)) fun _=>tr)) (t1 ((F1 ‹_› ‹_›)) fun _=>tr)) tr)
theorem RK {l:List D}(h:AD AI 74 l):∀(z2:Int) (b3:Bool) (z4:Int),Total fun n=>S9 n l z2 b3 z4:=by
 have t_end70x1:∀(z2 zi:Int) (b6:Bool) (z7:Int),Total fun n=>Gl n l z2 zi b6 z7 false:=by
  intros
  exact tu (by simp only[Gl,Bool.false_eq_true,if_false,AE];exact ti tr tr)
 have t_loop70x1:∀(z2:Int) (i:Nat),i≤l.length→∀(b6:Bool) (z7:Int),Total fun n=>Ib n l z2 (i:Int) b6 z7:=by
  intro z2
  refine down l.length ?_ ?_
  ·intros
   exact tu (by simp only[Ib,AE,Int.lt_irrefl,if_false];exact t_end70x1 _ _ _ _)
  ·intro i hi ihl b6 z7
   obtain⟨x,hx,hm,hr⟩:=h.get hi
   obtain⟨a0,a1,a2,a3,rfl,w0,w1,w2,w3⟩:=Q4 hr
   refine tu ?_
   simp only[Ib,AE,if_pos (Cn hi)]
   refine ti ?_ (t_end70x1 _ _ _ _)
   refine tu ?_
   simp only[Gl,if_true,AH hx,Bv,AJ,AG hi h.1,AL]
   exact t3 ((dU w0 w2 w3)) fun _ _ _=>ti tr ((ihl _ _))
 have RK:∀{z2:Int} {b3:Bool} {z4:Int},Total fun n=>S9 n l z2 b3 z4:=by
  intros
  exact (by unfold S9;exact t_loop70x1 _ 0 (Nat.zero_le _) _ _)
 exact fun _ _ _=>RK
theorem dV (l:List D):Total fun n=>Lv n l ([]:List D):=by
 refine tu ?_
 simp only[Lv,AE,List.length_nil]
 by_cases c:(l.length:Int)=((0:Nat):Int)
 ·simp only[if_pos c]
  refine tu ?_
  simp only[Fv,Bool.false_eq_true,if_false,AE,c]
  refine tu ?_
  simp only[Fw,show ¬(((0:Nat):Int))<0 by decide,if_false]
  exact tu (by simp only[Gk,Bool.false_eq_true,if_false];exact tr)
 ·simp only[if_neg c]
  exact tu (by simp only[Fv,if_true];exact tr)
theorem dW (l:List D):Total fun n=>S4 n l ([]:List D):=by
 unfold S4
 simp only[AE,List.length_nil]
 by_cases c:(l.length:Int)=((0:Nat):Int)
 ·simp only[if_pos c]
  refine tu ?_
  simp only[Gj,Bool.false_eq_true,if_false,AE,c]
  refine tu ?_
  simp only[Gi,show ¬(((0:Nat):Int))<0 by decide,if_false]
  exact tu (by simp only[JO,Bool.false_eq_true,if_false];exact tr)
 ·simp only[if_neg c]
  exact tu (by simp only[Gj,if_true];exact tr)
theorem dX (s:ByteArray) (l:List D) (t:ByteArray):Total fun n=>U6 n s l t ([]:List D):=by
 unfold U6
 exact ti (t1 (dW _) fun _=>tr) tr
theorem kY {z1 z2:Int}{s3 s4 s5:ByteArray}{l6 l7:List D}{z8 z9 z10:Int}{s11 s12 s13:ByteArray}{z16:Int}:Total fun n=>T1 n z1 z2 s3 s4 s5 l6 l7 z8 z9 z10 s11 s12 s13 ([]:List D) ([]:List D) z16:=
 tu (by simp only[T1];exact ti (ti (ti (ti (t1 (dX _ _ _) fun _=>ti (t1 (dV _) fun _=>tr) tr) tr) tr) tr) tr)
section
variable {z1:Int}{s2:ByteArray}{l3:List D}{z4:Int}{s5:ByteArray}{l6 l7:List D}{z8 z9:Int}{s10 s11 s12:ByteArray}{l13 l14:List D}{z15 z16:Int}
  (h2:s2.size≤maxLen) (h3:AD AI 74 l3) (h5:s5.size≤maxLen) (h6:AD AI 33 l6) (h7:AD AI 50 l7) (h10:s10.size≤maxLen) (h11:s11.size≤maxLen) (h12:s12.size≤maxLen) (h13:AD AI 9 l13) (h14:AD AI 39 l14)
include h2 h3 h5 h6 h7 h10 h11 h12 h13 h14
theorem rD (z17:Int):Total fun n=>cW n z1 s2 l3 z4 s5 l6 l7 z8 z9 s10 s11 s12 l13 l14 z15 z16 z17:=by
 have f69:∀b1:Bool,∃(b:Bool) (z:Int),Ev (fun n=>fQ n b1 z1 s2 l3 z4 s5 l6 l7 z8 z9 s10 s11 s12 l13 l14 z15 z16 z17) (b,z1,s2,l3,z4,s5,l6,l7,z8,z9,s10,s11,s12,l13,l14,z15,z16,z):=by
  intro b1
  obtain⟨⟨b,b',z⟩,h⟩:=Zn h3 6 b1 z17
  exact⟨b,z,Ev.bO3 h .ret⟩
 have f69x:∀b1:Bool,∃(b:Bool) (z:Int),Ev (fun n=>Ni n b1 z1 s2 l3 z4 s5 l6 l7 z8 z9 s10 s11 s12 l13 l14 z15 z16 z17) (b,z1,s2,l3,z4,s5,l6,l7,z8,z9,s10,s11,s12,l13,l14,z15,z16,z):=by
  intro b1
  obtain⟨⟨b,b',z⟩,h⟩:=RK h3 6 b1 z17
  exact⟨b,z,Ev.bO3 h .ret⟩
 have b4:∀b,Total fun n=>HQ n z1 s2 l3 z4 s5 l6 l7 z8 z9 s10 s11 s12 l13 l14 z15 z16 z17 b:=by
  intro b
  refine tu ?_
  simp only[HQ]
  refine ti (t1 (KH h2) fun b=>ti ?_ tr) tr
  obtain⟨b',z,h⟩:=f69 false
  suffices hh:Total _ by
   obtain⟨r,hr⟩:=hh
   exact⟨r,Ev.bO18 h hr⟩
  simp only[AE,AJ,AL]
  exact ti (t1 ((F1 h6 h5)) fun _=>ti (t1 Zl fun _=>ti (t1 ((VF h14 h10 h11 h12 h13)) fun _=>ti (t2 ((Zm h7)) fun _ _=>tr) tr) tr) tr) tr
 have b3:∀b c,Total fun n=>HR n z1 s2 l3 z4 s5 l6 l7 z8 z9 s10 s11 s12 l13 l14 z15 z16 z17 b c:=by
  intro b c
  refine tu ?_
  simp only[HR]
  refine ti (ti ?_ tr) (ti (b4 _) (b4 _))
  obtain⟨b',z,h⟩:=f69x true
  exact⟨b',Ev.bO18 h .ret⟩
 have b2:∀b c,Total fun n=>HS n z1 s2 l3 z4 s5 l6 l7 z8 z9 s10 s11 s12 l13 l14 z15 z16 z17 b c:=by
  intro b c
  refine tu ?_
  simp only[HS]
  refine ti (ti ?_ tr) (ti (b3 _ _) (b3 _ _))
  obtain⟨b',z,h⟩:=f69 false
  exact⟨b',Ev.bO18 h .ret⟩
 have b1:∀b,Total fun n=>Fc n z1 s2 l3 z4 s5 l6 l7 z8 z9 s10 s11 s12 l13 l14 z15 z16 z17 b:=by
  intro b
  exact tu (by simp only[Fc];exact ti (b2 _ _) (b2 _ _))
 unfold cW
 simp only[AE]
 exact t1 Nz fun _=>ti (ti (t1 kY fun _=>ti (t1 ((KG h2)) fun _=>(b1 _)) ((b1 _))) ((b1 _))) ((b1 _))
theorem rE:Total fun n=>ZU n z1 s2 l3 z4 s5 l6 l7 z8 z9 s10 s11 s12 l13 l14 z15 z16:=by
 unfold ZU
 exact t1 (rD h2 h3 h5 h6 h7 h10 h11 h12 h13 h14 39) fun _=>tr
end
end Go.Proofs.YtjmofeakajdbiaaGreatDoor
end
set_option linter.unusedVariables false
noncomputable section
namespace Go.Proofs.YtjmofeakajdbiaaGreatDoor
open Go Go.AM
theorem Ev.uniq {α:Type}{A:Nat→Option α}{r s:α}(h1:Ev A r) (h2:Ev A s):r=s:=by
 obtain⟨N,h1⟩:=h1
 obtain⟨M,h2⟩:=h2
 have a:=h1 (N+M) (by omega)
 have b:=h2 (N+M) (by omega)
 rw[a]at b
 exact Option.some.inj b
theorem iw {z:Int}(h1: -9223372036854775808≤z) (h2:z≤9223372036854775807):IntKind.i64.wrap z=z:=IntWalk.i64_in _ (by omega)
theorem FP (s:ByteArray) (z:Int) (h1: -6≤z) (h2:z≤20000):∃r,Ev (fun n=>N5 n s z) r∧ -1≤r∧r≤20000∧(0≤r→r+5≤z):=by
 by_cases h3:z<5
 ·exact⟨-1,.succ (.of fun n=>by unfold N5;rw[if_pos h3,Il,if_pos rfl]),by omega,by omega,by omega⟩
 ·have e:IntKind.i64.wrap (z - 5)=z - 5:=iw (by omega) (by omega)
  by_cases h4:z - 5<((bl s).length:Int)
  ·exact⟨-1,.succ (.of fun n=>by unfold N5;rw[if_neg h3,Ch];simp only[AJ];rw[e,if_pos h4,Il,if_pos rfl]),by omega,by omega,by omega⟩
  ·have e2:IntKind.i64.wrap (z - 5 - ((bl s).length:Int))=z - 5 - ((bl s).length:Int):=iw (by omega) (by omega)
   exact⟨z - 5 - ((bl s).length:Int),.succ (.of fun n=>by unfold N5;rw[if_neg h3,Ch];simp only[AJ];rw[e,if_neg h4,Il,if_neg Bool.false_ne_true];simp only[AJ];rw[Ch,e,e2]),by omega,by omega,by omega⟩
theorem Zo {l:List D}(h:AD AI 9 l) (z:Int) (h1: -1≤z) (h2:z≤20000):∃r,Ev (fun n=>jA n l z) r∧ -6≤r∧r≤20000∧(0≤r→r≤z):=by
 have main:∀i:Nat,i≤l.length→∀z,-6≤z→z≤20000→∃r,Ev (fun n=>GL n l (i:Int) z) r∧ -6≤r∧r≤20000∧(0≤r→r≤z):=by
  refine down l.length ?_ ?_
  ·intro z h1 h2
   refine⟨z,.succ (.succ (.of fun n=>?_)),by omega,by omega,by omega⟩
   rw[GL];simp only[AE];rw[if_neg (by omega),Ip,if_neg Bool.false_ne_true]
  ·intro i hi ih z h1 h2
   by_cases hz:(0:Int)≤z
   ·obtain⟨x,hx,_,hr⟩:=h.get hi
    obtain⟨s,rfl,_⟩:=Z7 hr
    obtain⟨z1,g1,g2,g3,g4⟩:=FP s z (by omega) h2
    obtain⟨r,k1,k2,k3,k4⟩:=ih z1 (by omega) (by omega)
    refine⟨r,.succ (.succ (Ev.congr (A:=fun n=>bO1 (N5 n s z) fun z10=>GL n l ((i+1:Nat):Int) z10) (Ev.bO1 g1 k1) fun n=>?_)),k2,k3,by omega⟩
    rw[GL];simp only[AE];rw[if_pos (by omega),if_pos hz,Ip,if_pos rfl,AH hx]
    simp only[Bj,AJ,AG hi h.1]
   ·refine⟨z,.succ (.succ (.of fun n=>?_)),by omega,by omega,by omega⟩
    rw[GL];simp only[AE];rw[if_pos (by omega),if_neg hz,Ip,if_neg Bool.false_ne_true]
 obtain⟨r,h,a,b,c⟩:=main 0 (Nat.zero_le _) (z - 5) (by omega) (by omega)
 exact⟨r,h.congr fun n=>by unfold jA;simp only[AJ,iw (show -9223372036854775808≤z - 5 by omega) (by omega)];rfl,a,b,by omega⟩
theorem Zp {l:List D}(h:AD AI 9 l) (s:ByteArray) (z:Int) (h1: -6≤z) (h2:z≤20000):∃r,Ev (fun n=>nJ n s l z) r∧ -6≤r∧r≤20000∧(0≤r→r+5≤z):=by
 obtain⟨y,g1,g2,g3,g4⟩:=FP s z h1 h2
 obtain⟨r,k1,k2,k3,k4⟩:=Zo h y g2 g3
 exact⟨r,Ev.bO1 g1 (Ev.bO1 k1 .ret),k2,k3,by omega⟩
end Go.Proofs.YtjmofeakajdbiaaGreatDoor
set_option linter.unusedVariables false
noncomputable section
namespace Go.Proofs.YtjmofeakajdbiaaGreatDoor
open Go Go.AM
def dR (c:Int) (l:List D):Prop:=∀x∈l,∃d:Nat,5*(d:Int)≤c∧Ev (fun n=>BJ x (TH n)) (d:Int)
def eR (c:Int) (l:List D):Prop:=∀x∈l,∃d:Nat,5*(d:Int)≤c∧Ev (fun n=>BD x (T2 n)) (d:Int)
theorem dR.mono {c c':Int}{l:List D}(h:dR c l) (hc:c≤c'):dR c' l:=fun x hx=>by
 obtain⟨d,h1,h2⟩:=h x hx
 exact⟨d,by omega,h2⟩
theorem eR.mono {c c':Int}{l:List D}(h:eR c l) (hc:c≤c'):eR c' l:=fun x hx=>by
 obtain⟨d,h1,h2⟩:=h x hx
 exact⟨d,by omega,h2⟩
theorem mx (a b:Nat):(if (b:Int)>(a:Int)then (b:Int)else (a:Int))=((max a b:Nat):Int):=by
 split<;>omega
theorem Zq (l:List D):AD AI 33 l→∃m:Nat,(m<100000→∀z1 s2,Ev (fun n=>V8 n z1 s2 l) ((m+1:Nat):Int))∧
  (∀z1 s2 z,-6≤z→z≤20000→∃r,Ev (fun n=>XF n z1 s2 l z) r∧ -6≤r∧r≤20000∧(0≤r→r+5*((m:Int)+1)≤z)):=by
 refine Ba (P:=fun l=>AD AI 33 l→∃m:Nat,(m<100000→∀z1 s2,Ev (fun n=>V8 n z1 s2 l) ((m+1:Nat):Int))∧
  (∀z1 s2 z,-6≤z→z≤20000→∃r,Ev (fun n=>XF n z1 s2 l z) r∧ -6≤r∧r≤20000∧(0≤r→r+5*((m:Int)+1)≤z))) (fun l ih h=>?_) l
 have loop:∀i:Nat,i≤l.length→∃m:Nat,(m<100000→∀acc:Nat,acc<100000→Ev (fun n=>Pc n l (l.length:Int) (acc:Int) (i:Int)) ((max acc m+1:Nat):Int))∧
   (∀z,-6≤z→z≤20000→∃r,Ev (fun n=>GK n l (i:Int) z) r∧ -6≤r∧r≤20000∧(0≤r→r+5*(m:Int)≤z)):=by
  refine down l.length ⟨0,fun _ acc ha=>?_,fun z h1 h2=>⟨z,?_,h1,h2,by omega⟩⟩ (fun i hi hP=>?_)
  ·refine .succ ?_
   simp only[Pc,Int.lt_irrefl,if_false]
   refine .succ ?_
   simp only[TF,Bool.false_eq_true,if_false,AJ,iw (show -9223372036854775808≤(acc:Int)+1 by omega) (by omega)]
   rw[show max acc 0=acc by omega]
   exact .ret
  ·refine .succ (.succ (.of fun n=>?_))
   rw[GK];simp only[AE];rw[if_neg (by omega),Im,if_neg Bool.false_ne_true]
  ·obtain⟨m,p1,p2⟩:=hP
   obtain⟨x,hx,hm,hr⟩:=h.get hi
   obtain⟨a,s,l',rfl,_,hs,hl'⟩:=U4 hr
   obtain⟨k,q1,q2⟩:=ih l' (Af (ag:=true) (sz:=3) hm (by simp)) hl'
   refine⟨max (k+1) m,fun hk acc ha=>?_,fun z h1 h2=>?_⟩
   ·refine .succ ?_
    simp only[Pc,if_pos (Cn hi)]
    refine .succ ?_
    simp only[TF,if_true,AH hx,Cf]
    refine Ev.bO1 (q1 (by omega) a s) ?_
    simp only[AJ,AG hi h.1]
    rw[mx,show max acc (max (k+1) m)=max (max acc (k+1)) m by omega]
    exact p1 (by omega) _ (by omega)
   ·by_cases hz:(0:Int)≤z
    ·obtain⟨y,g1,g2,g3,g4⟩:=q2 a s z h1 h2
     obtain⟨r,k1,k2,k3,k4⟩:=p2 y g2 g3
     refine⟨r,.succ (.succ (Ev.congr (A:=fun n=>bO1 (XF n a s l' z) fun z10=>GK n l ((i+1:Nat):Int) z10) (Ev.bO1 g1 k1) fun n=>?_)),k2,k3,by omega⟩
     rw[GK];simp only[AE];rw[if_pos (by omega),if_pos hz,Im,if_pos rfl,AH hx]
     simp only[Cf,AJ,AG hi h.1]
    ·refine⟨z,.succ (.succ (.of fun n=>?_)),h1,h2,by omega⟩
     rw[GK];simp only[AE];rw[if_pos (by omega),if_neg hz,Im,if_neg Bool.false_ne_true]
 obtain⟨m,p1,p2⟩:=loop 0 (Nat.zero_le _)
 refine⟨m,fun hm z1 s2=>?_,fun z1 s2 z h1 h2=>?_⟩
 ·refine .succ ?_
  simp only[V8,AE]
  have:=p1 hm 0 (by omega)
  rwa [show max 0 m=m by omega]at this
 ·obtain⟨y,g1,g2,g3,g4⟩:=FP s2 z h1 h2
  obtain⟨r,k1,k2,k3,k4⟩:=p2 y (by omega) g3
  exact⟨r,.succ ((Ev.bO1 g1 k1).congr fun n=>by rw[XF];rfl),k2,k3,by omega⟩
theorem gD (l:List D):AD AI 39 l→∃m:Nat,(m<100000→∀z1 z2 s3 s4 s5 l6 z8,Ev (fun n=>T2 n z1 z2 s3 s4 s5 l6 l z8) ((m+1:Nat):Int))∧
  (∀z1 z2 s3 s4 s5 l6 z8 z,AD AI 9 l6→ -6≤z→z≤20000→∃r,Ev (fun n=>Xe n z1 z2 s3 s4 s5 l6 l z8 z) r∧ -6≤r∧r≤20000∧(0≤r→r+5*((m:Int)+1)≤z)):=by
 refine Ba (P:=fun l=>AD AI 39 l→∃m:Nat,(m<100000→∀z1 z2 s3 s4 s5 l6 z8,Ev (fun n=>T2 n z1 z2 s3 s4 s5 l6 l z8) ((m+1:Nat):Int))∧
  (∀z1 z2 s3 s4 s5 l6 z8 z,AD AI 9 l6→ -6≤z→z≤20000→∃r,Ev (fun n=>Xe n z1 z2 s3 s4 s5 l6 l z8 z) r∧ -6≤r∧r≤20000∧(0≤r→r+5*((m:Int)+1)≤z))) (fun l ih h=>?_) l
 have loop:∀i:Nat,i≤l.length→∃m:Nat,(m<100000→∀acc:Nat,acc<100000→Ev (fun n=>KD n l (l.length:Int) (acc:Int) (i:Int)) ((max acc m+1:Nat):Int))∧
   (∀z,-6≤z→z≤20000→∃r,Ev (fun n=>GM n l (i:Int) z) r∧ -6≤r∧r≤20000∧(0≤r→r+5*(m:Int)≤z)):=by
  refine down l.length ⟨0,fun _ acc ha=>?_,fun z h1 h2=>⟨z,?_,h1,h2,by omega⟩⟩ (fun i hi hP=>?_)
  ·refine .succ ?_
   simp only[KD,Int.lt_irrefl,if_false]
   refine .succ ?_
   simp only[Lj,Bool.false_eq_true,if_false,AJ,iw (show -9223372036854775808≤(acc:Int)+1 by omega) (by omega)]
   rw[show max acc 0=acc by omega]
   exact .ret
  ·refine .succ (.succ (.of fun n=>?_))
   rw[GM];simp only[AE];rw[if_neg (by omega),Iq,if_neg Bool.false_ne_true]
  ·obtain⟨m,p1,p2⟩:=hP
   obtain⟨x,hx,hm,hr⟩:=h.get hi
   obtain⟨a0,a1,a2,a3,a4,a5,a6,a7,rfl,w0,_,w2,w3,w4,w5,w6,_⟩:=Jz hr
   obtain⟨k,q1,q2⟩:=ih a6 (Af (ag:=true) (sz:=8) hm (by simp)) w6
   refine⟨max (k+1) m,fun hk acc ha=>?_,fun z h1 h2=>?_⟩
   ·refine .succ ?_
    simp only[KD,if_pos (Cn hi)]
    refine .succ ?_
    simp only[Lj,if_true,AH hx,BD]
    refine Ev.bO1 (q1 (by omega) a0 a1 a2 a3 a4 a5 a7) ?_
    simp only[AJ,AG hi h.1]
    rw[mx,show max acc (max (k+1) m)=max (max acc (k+1)) m by omega]
    exact p1 (by omega) _ (by omega)
   ·by_cases hz:(0:Int)≤z
    ·obtain⟨y,g1,g2,g3,g4⟩:=q2 a0 a1 a2 a3 a4 a5 a7 z w5 h1 h2
     obtain⟨r,k1,k2,k3,k4⟩:=p2 y g2 g3
     refine⟨r,.succ (.succ (Ev.congr (A:=fun n=>bO1 (Xe n a0 a1 a2 a3 a4 a5 a6 a7 z) fun z10=>GM n l ((i+1:Nat):Int) z10) (Ev.bO1 g1 k1) fun n=>?_)),k2,k3,by omega⟩
     rw[GM];simp only[AE];rw[if_pos (by omega),if_pos hz,Iq,if_pos rfl,AH hx]
     simp only[BD,AJ,AG hi h.1]
    ·refine⟨z,.succ (.succ (.of fun n=>?_)),h1,h2,by omega⟩
     rw[GM];simp only[AE];rw[if_pos (by omega),if_neg hz,Iq,if_neg Bool.false_ne_true]
 obtain⟨m,p1,p2⟩:=loop 0 (Nat.zero_le _)
 refine⟨m,fun hm z1 z2 s3 s4 s5 l6 z8=>?_,fun z1 z2 s3 s4 s5 l6 z8 z h6 h1 h2=>?_⟩
 ·refine .succ ?_
  simp only[T2,AE]
  have:=p1 hm 0 (by omega)
  rwa [show max 0 m=m by omega]at this
 ·obtain⟨y1,g1,g2,g3,g4⟩:=FP s3 z h1 h2
  obtain⟨y2,j1,j2,j3,j4⟩:=FP s4 y1 (by omega) g3
  obtain⟨y3,i1,i2,i3,i4⟩:=Zp h6 s5 y2 (by omega) j3
  obtain⟨r,k1,k2,k3,k4⟩:=p2 y3 i2 i3
  exact⟨r,.succ ((Ev.bO1 g1 (Ev.bO1 j1 (Ev.bO1 i1 k1))).congr fun n=>by rw[Xe]),k2,k3,by omega⟩
section
variable {z1:Int}{s2 s3:ByteArray}{l4:List D}{z5:Int}{s6:ByteArray}{l7:List D}{z8:Int}{s9:ByteArray}{l10 l11 l12 l13 l14:List D}{z15:Int}{c:Int}
theorem gE {x:D}{d a:Nat}(hx:DF AI 50 x) (h:Ev (fun n=>BJ x (TH n)) (d:Int)):Ev (fun n=>BJ x fun z1 s2 s3 l4 z5 s6 l7 z8 s9 l10 l11 l12 l13 l14 z15=>I2 n z1 s2 s3 l4 z5 s6 l7 z8 s9 l10 l11 l12 l13 l14 z15 (a:Int)) ((max a d:Nat):Int):=by
 obtain⟨a0,a1,a2,a3,a4,a5,a6,a7,a8,a9,a10,a11,a12,a13,a14,rfl,_⟩:=Hx hx
 refine Ev.congr (A:=fun n=>I2 n a0 a1 a2 a3 a4 a5 a6 a7 a8 a9 a10 a11 a12 a13 a14 (a:Int)) (.succ ?_) (fun n=>rfl)
 simp only[I2]
 refine Ev.bO1 h ?_
 simp only[AJ,mx]
 exact .ret
theorem Zr {l:List D}(hl:AD AI 50 l) (hd:dR c l) (z17:Int):∀i:Nat,i≤l.length→∀a:Nat,5*(a:Int)≤c→∃a':Nat,5*(a':Int)≤c∧∀R,Ev (fun n=>Dq n z1 s2 s3 l4 z5 s6 l7 z8 s9 l10 l11 l12 l13 l14 z15 (IntKind.wrap .i64 (z17+1)) (a':Int)) R→Ev (fun n=>D9 n z1 s2 s3 l4 z5 s6 l7 z8 s9 l10 l11 l12 l13 l14 z15 z17 l (l.length:Int) (i:Int) (a:Int)) R:=by
 refine down l.length ?_ ?_
 ·intro a ha
  refine⟨a,ha,fun R h=>.succ ?_⟩
  simp only[D9,Int.lt_irrefl,if_false]
  exact .succ (by simp only[Eb,Bool.false_eq_true,if_false,AJ];exact h)
 ·intro i hi ih a ha
  obtain⟨x,hx,hm,hr⟩:=hl.get hi
  obtain⟨d,hd1,hd2⟩:=hd x hm
  obtain⟨a',h1,h2⟩:=ih (max a d) (by omega)
  refine⟨a',h1,fun R h=>.succ ?_⟩
  have h3:=gE (a:=a) hr hd2
  obtain⟨b0,b1,b2,b3,b4,b5,b6,b7,b8,b9,b10,b11,b12,b13,b14,rfl,_⟩:=Hx hr
  simp only[D9,if_pos (Cn hi)]
  refine .succ ?_
  simp only[Eb,if_true,AH hx,BJ]
  refine Ev.bO1 h3 ?_
  simp only[AJ,AG hi hl.1]
  exact h2 R h
theorem dY {l:List D}{z45 z46:Int}(hl:AD AI 50 l) (hd:dR c l):∀i:Nat,i≤l.length→∀a:Nat,5*(a:Int)≤c→∃a':Nat,5*(a':Int)≤c∧∀R,Ev (fun n=>Dr n z1 s2 s3 l4 z5 s6 l7 z8 s9 l10 l11 l12 l13 l14 z15 z45 (IntKind.wrap .i64 (z46+1)) (a':Int)) R→Ev (fun n=>EA n z1 s2 s3 l4 z5 s6 l7 z8 s9 l10 l11 l12 l13 l14 z15 z45 z46 l (l.length:Int) (i:Int) (a:Int)) R:=by
 refine down l.length ?_ ?_
 ·intro a ha
  refine⟨a,ha,fun R h=>.succ ?_⟩
  simp only[EA,Int.lt_irrefl,if_false]
  exact .succ (by simp only[Ed,Bool.false_eq_true,if_false,AJ];exact h)
 ·intro i hi ih a ha
  obtain⟨x,hx,hm,hr⟩:=hl.get hi
  obtain⟨d,hd1,hd2⟩:=hd x hm
  obtain⟨a',h1,h2⟩:=ih (max a d) (by omega)
  refine⟨a',h1,fun R h=>.succ ?_⟩
  have h3:=gE (a:=a) hr hd2
  obtain⟨b0,b1,b2,b3,b4,b5,b6,b7,b8,b9,b10,b11,b12,b13,b14,rfl,_⟩:=Hx hr
  simp only[EA,if_pos (Cn hi)]
  refine .succ ?_
  simp only[Ed,if_true,AH hx,BJ]
  refine Ev.bO1 h3 ?_
  simp only[AJ,AG hi hl.1]
  exact h2 R h
theorem kZ (h14:AD AI 95 l14) (hd:∀(s1 s2:ByteArray) (m:List D),.agg [.str s1,.str s2,.list true 15 m]∈l14→dR c m):∀i:Nat,i≤l14.length→∀a:Nat,5*(a:Int)≤c→∃a':Nat,5*(a':Int)≤c∧Ev (fun n=>Dr n z1 s2 s3 l4 z5 s6 l7 z8 s9 l10 l11 l12 l13 l14 z15 (l14.length:Int) (i:Int) (a:Int)) ((a':Int),z1,s2,s3,l4,z5,s6,l7,z8,s9,l10,l11,l12,l13,l14,z15):=by
 refine down l14.length ?_ ?_
 ·intro a ha
  refine⟨a,ha,.succ ?_⟩
  simp only[Dr,Int.lt_irrefl,if_false]
  exact .succ (by simp only[Ec,Bool.false_eq_true,if_false];exact .ret)
 ·intro i hi ih a ha
  obtain⟨x,hx,hm,hr⟩:=h14.get hi
  obtain⟨t1,t2,m,rfl,_,_,w2⟩:=J0 hr
  obtain⟨a1,k1,k2⟩:=dY (z1:=z1) (s2:=s2) (s3:=s3) (l4:=l4) (z5:=z5) (s6:=s6) (l7:=l7) (z8:=z8) (s9:=s9) (l10:=l10) (l11:=l11) (l12:=l12) (l13:=l13) (l14:=l14) (z15:=z15) (z45:=(l14.length:Int)) (z46:=(i:Int)) w2 (hd _ _ _ hm) 0 (Nat.zero_le _) a ha
  obtain⟨a',h1,h2⟩:=ih a1 k1
  refine⟨a',h1,.succ ?_⟩
  simp only[Dr,if_pos (Cn hi)]
  refine .succ ?_
  simp only[Ec,if_true,AH hx,Bf,AE]
  refine k2 _ ?_
  rw[AG hi h14.1]
  exact h2
theorem lA (hc0:0≤c) (hc:c≤100000) (ht:∃t:Nat,5*(t:Int)≤c∧Ev (fun n=>V8 n z5 s6 l7) (t:Int)) (h11:AD AI 39 l11) (he:eR c l11) (h12:AD AI 50 l12) (hd12:dR c l12) (h13:AD AI 50 l13) (hd13:dR c l13)
  (h14:AD AI 95 l14) (hd:∀(s1 s2:ByteArray) (m:List D),.agg [.str s1,.str s2,.list true 15 m]∈l14→dR c m):∃d:Nat,5*(d:Int)≤c+5∧Ev (fun n=>TH n z1 s2 s3 l4 z5 s6 l7 z8 s9 l10 l11 l12 l13 l14 z15) (d:Int):=by
 have h138:∀a:Nat,5*(a:Int)≤c→∃a':Nat,5*(a':Int)≤c∧Ev (fun n=>TG n (a:Int) z1 s2 s3 l4 z5 s6 l7 z8 s9 l10 l11 l12 l13 l14 z15) ((a':Int),z1,s2,s3,l4,z5,s6,l7,z8,s9,l10,l11,l12,l13,l14,z15):=by
  intro a ha
  obtain⟨a1,k1,k2⟩:=Zr (z1:=z1) (s2:=s2) (s3:=s3) (l4:=l4) (z5:=z5) (s6:=s6) (l7:=l7) (z8:=z8) (s9:=s9) (l10:=l10) (l11:=l11) (l12:=l12) (l13:=l13) (l14:=l14) (z15:=z15) h12 hd12 0 0 (Nat.zero_le _) a ha
  obtain⟨a2,k3,k4⟩:=Zr (z1:=z1) (s2:=s2) (s3:=s3) (l4:=l4) (z5:=z5) (s6:=s6) (l7:=l7) (z8:=z8) (s9:=s9) (l10:=l10) (l11:=l11) (l12:=l12) (l13:=l13) (l14:=l14) (z15:=z15) h13 hd13 1 0 (Nat.zero_le _) a1 k1
  obtain⟨a3,k5,k6⟩:=kZ (z1:=z1) (s2:=s2) (s3:=s3) (l4:=l4) (z5:=z5) (s6:=s6) (l7:=l7) (z8:=z8) (s9:=s9) (l10:=l10) (l11:=l11) (l12:=l12) (l13:=l13) (l14:=l14) (z15:=z15) h14 hd 0 (Nat.zero_le _) a2 k3
  refine⟨a3,k5,.succ ?_⟩
  simp only[TG]
  refine .succ ?_
  simp only[Dq,show (0:Int)<2 by decide,if_true]
  refine .succ ?_
  simp only[D8,if_true,LC,Bd,AE]
  refine k2 _ ?_
  rw[show IntKind.wrap .i64 ((0:Int)+1)=1 from rfl]
  refine .succ ?_
  simp only[Dq,show (1:Int)<2 by decide,if_true]
  refine .succ ?_
  have g1:∀{γ:Type} (k:D→Option γ),Ap [.list true 15 l12,.list true 15 l13] (1:Int) k=k (.list true 15 l13):=fun k=>AH (i:=1) rfl
  simp only[D8,if_true,g1,Bd,AE]
  refine k4 _ ?_
  rw[show IntKind.wrap .i64 ((1:Int)+1)=2 from rfl]
  refine .succ ?_
  simp only[Dq,Int.lt_irrefl,if_false]
  refine .succ ?_
  simp only[D8,Bool.false_eq_true,if_false,AE]
  exact k6
 have hex:∀i:Nat,i≤l11.length→∀a:Nat,5*(a:Int)≤c→∃d:Nat,5*(d:Int)≤c+5∧Ev (fun n=>GS n z1 s2 s3 l4 z5 s6 l7 z8 s9 l10 l11 l12 l13 l14 z15 (l11.length:Int) (i:Int) (a:Int)) (d:Int):=by
  refine down l11.length ?_ ?_
  ·intro a ha
   obtain⟨a',k1,k2⟩:=h138 a ha
   refine⟨a'+1,by omega,.succ ?_⟩
   simp only[GS,Int.lt_irrefl,if_false]
   refine .succ ?_
   simp only[HV,Bool.false_eq_true,if_false]
   refine Ev.bO15 (A:=fun n=>cX n z1 s2 s3 l4 z5 s6 l7 z8 s9 l10 l11 l12 l13 l14 z15) (.of fun n=>rfl) ?_
   refine Ev.bO16 k2 ?_
   simp only[AJ]
   rw[iw (by omega) (by omega),show (a':Int)+1=((a'+1:Nat):Int)by omega]
   exact .ret
  ·intro i hi ih a ha
   obtain⟨x,hx,hm,hr⟩:=h11.get hi
   obtain⟨d,hd1,hd2⟩:=he x hm
   obtain⟨a',h1,h2⟩:=ih (max a d) (by omega)
   refine⟨a',h1,.succ ?_⟩
   obtain⟨b0,b1,b2,b3,b4,b5,b6,b7,rfl,_⟩:=Jz hr
   simp only[GS,if_pos (Cn hi)]
   refine .succ ?_
   simp only[HV,if_true,AH hx,BD]
   refine Ev.bO1 hd2 ?_
   simp only[AJ,mx,AG hi h11.1]
   exact h2
 by_cases e:z1=12
 ·obtain⟨t,t1,t2⟩:=ht
  obtain⟨d,d1,d2⟩:=hex 0 (Nat.zero_le _) t t1
  refine⟨d,d1,.succ ?_⟩
  simp only[TH,if_pos e]
  refine .succ ?_
  simp only[HT,if_true]
  refine Ev.bO1 t2 ?_
  exact .succ (by simp only[HU,AE];exact d2)
 ·obtain⟨d,d1,d2⟩:=hex 0 (Nat.zero_le _) 0 (by omega)
  refine⟨d,d1,.succ ?_⟩
  simp only[TH,if_neg e]
  refine .succ ?_
  simp only[HT,Bool.false_eq_true,if_false]
  exact .succ (by simp only[HU,AE];exact d2)
end
def sG (m:List D):Prop:=∀z:Int,-6≤z→z≤20000→∃r,Ev (fun n=>cB n m z) r∧ -6≤r∧r≤20000∧(0≤r→r≤z∧dR (z - r) m)
theorem dZ {l18:List D}(h:AD AI 39 l18) (l1:List D) (z3:Int) (l19 l20 l21:List D):∀i:Nat,i≤l18.length→∀z:Int,-6≤z→z≤20000→∃r,-6≤r∧r≤20000∧(0≤r→r≤z∧∀j x,i≤j→l18[j]?=some x→∃d:Nat,5*(d:Int)≤z - r∧Ev (fun n=>BD x (T2 n)) (d:Int))∧
  ∀R,Ev (fun n=>if r<(0:Int)then FI n l1 z3 l19 l20 l21 r true else FI n l1 z3 l19 l20 l21 r false) R→Ev (fun n=>H0 n l1 z3 l18 l19 l20 l21 (i:Int) z) R:=by
 refine down l18.length ?_ ?_
 ·intro z h1 h2
  refine⟨z,h1,h2,fun _=>⟨by omega,fun j x hj hx=>absurd (List.getElem?_eq_some_iff.1 hx).1 (by omega)⟩,fun R hR=>.succ ?_⟩
  simp only[H0,AE,Int.lt_irrefl,if_false]
  exact .succ (by simp only[Iv,Bool.false_eq_true,if_false];exact hR)
 ·intro i hi ih z h1 h2
  by_cases c:(0:Int)≤z
  ·obtain⟨x,hx,hm,hr⟩:=h.get hi
   obtain⟨a0,a1,a2,a3,a4,a5,a6,a7,rfl,w0,w1,w2,w3,w4,w5,w6,w7⟩:=Jz hr
   obtain⟨m,m1,m2⟩:=gD a6 w6
   obtain⟨y,y1,y2,y3,y4⟩:=m2 a0 a1 a2 a3 a4 a5 a7 z w5 h1 h2
   obtain⟨r,r1,r2,r3,r4⟩:=ih y y2 y3
   refine⟨r,r1,r2,fun hr0=>⟨by have:=(r3 hr0).1;have:=y4 (by omega);omega,fun j x hj hx'=>?_⟩,fun R hR=>.succ ?_⟩
   ·have hy:=y4 (by have:=(r3 hr0).1;omega)
    by_cases e:j=i
    ·subst e
     rw[hx]at hx'
     cases hx'
     exact⟨m+1,by have:=(r3 hr0).1;omega,m1 (by omega) _ _ _ _ _ _ _⟩
    ·obtain⟨d,d1,d2⟩:=(r3 hr0).2 j x (by omega) hx'
     exact⟨d,by omega,d2⟩
   ·simp only[H0,AE,if_pos (Cn hi),if_pos c]
    refine .succ ?_
    simp only[Iv,if_true,AH hx,BD]
    refine Ev.bO1 y1 ?_
    simp only[AJ,AG hi h.1]
    exact r4 R hR
  ·refine⟨z,h1,h2,fun h=>absurd h c,fun R hR=>.succ ?_⟩
   simp only[H0,AE,if_pos (Cn hi),if_neg c]
   exact .succ (by simp only[Iv,Bool.false_eq_true,if_false];exact hR)
theorem Zs {l21:List D}(h:AD AI 95 l21) (hin:∀(s1 s2:ByteArray) (m:List D),.agg [.str s1,.str s2,.list true 15 m]∈l21→sG m) (l1:List D) (z3:Int):∀i:Nat,i≤l21.length→∀z:Int,-6≤z→z≤20000→∃r,-6≤r∧r≤20000∧
  (0≤r→r≤z∧∀j s1 s2 m,i≤j→l21[j]?=some (.agg [.str s1,.str s2,.list true 15 m])→dR (z - r) m)∧∀R,Ev (fun n=>FH n l1 (IntKind.wrap .i64 (z3+1)) r) R→Ev (fun n=>H3 n l1 z3 l21 (i:Int) z) R:=by
 refine down l21.length ?_ ?_
 ·intro z h1 h2
  refine⟨z,h1,h2,fun _=>⟨by omega,fun j s1 s2 m hj hx=>absurd (List.getElem?_eq_some_iff.1 hx).1 (by omega)⟩,fun R hR=>.succ ?_⟩
  simp only[H3,AE,Int.lt_irrefl,if_false]
  exact .succ (by simp only[Iw,Bool.false_eq_true,if_false,AJ];exact hR)
 ·intro i hi ih z h1 h2
  by_cases c:(0:Int)≤z
  ·obtain⟨x,hx,hm,hr⟩:=h.get hi
   obtain⟨t1,t2,m,rfl,w0,w1,w2⟩:=J0 hr
   obtain⟨a,a1,a2,a3,a4⟩:=FP t1 z h1 h2
   obtain⟨b,b1,b2,b3,b4⟩:=FP t2 a (by omega) a3
   obtain⟨y,y1,y2,y3,y4⟩:=hin t1 t2 m hm b (by omega) b3
   obtain⟨r,r1,r2,r3,r4⟩:=ih y y2 y3
   refine⟨r,r1,r2,fun hr0=>?_,fun R hR=>.succ ?_⟩
   ·obtain⟨r5,r6⟩:=r3 hr0
    obtain⟨y5,y6⟩:=y4 (by omega)
    have:=b4 (by omega)
    have:=a4 (by omega)
    refine⟨by omega,fun j s1 s2 m' hj hx'=>?_⟩
    by_cases e:j=i
    ·subst e
     rw[hx]at hx'
     cases hx'
     exact y6.mono (by omega)
    ·exact (r6 j s1 s2 m' (by omega) hx').mono (by omega)
   ·simp only[H3,AE,if_pos (Cn hi),if_pos c]
    refine .succ ?_
    simp only[Iw,if_true,AH hx,Bf]
    refine Ev.bO1 a1 (Ev.bO1 b1 (Ev.bO1 y1 ?_))
    simp only[AJ,AG hi h.1]
    exact r4 R hR
  ·refine⟨z,h1,h2,fun h=>absurd h c,fun R hR=>.succ ?_⟩
   simp only[H3,AE,if_pos (Cn hi),if_neg c]
   exact .succ (by simp only[Iw,Bool.false_eq_true,if_false,AJ];exact hR)
theorem eA (l:List D):AD AI 50 l→sG l:=by
 refine Ba (P:=fun l=>AD AI 50 l→sG l) (fun l ih h=>?_) l
 have loop:∀i:Nat,i≤l.length→∀z:Int,-6≤z→z≤20000→∃r,Ev (fun n=>FH n l (i:Int) z) r∧ -6≤r∧r≤20000∧(0≤r→r≤z∧∀j x,i≤j→l[j]?=some x→∃d:Nat,5*(d:Int)≤z - r∧Ev (fun n=>BJ x (TH n)) (d:Int)):=by
  refine down l.length ?_ ?_
  ·intro z h1 h2
   refine⟨z,.succ ?_,h1,h2,fun _=>⟨by omega,fun j x hj hx=>absurd (List.getElem?_eq_some_iff.1 hx).1 (by omega)⟩⟩
   simp only[FH,AE,Int.lt_irrefl,if_false]
   exact .succ (by simp only[Iu,Bool.false_eq_true,if_false];exact .ret)
  ·intro i hi ihl z h1 h2
   by_cases c:(0:Int)≤z
   ·obtain⟨x,hx,hm,hr⟩:=h.get hi
    obtain⟨a0,a1,a2,a3,a4,a5,a6,a7,a8,a9,a10,a11,a12,a13,a14,rfl,w0,w1,w2,w3,w4,w5,w6,w7,w8,w9,w10,w11,w12,w13,w14⟩:=Hx hr
    obtain⟨p1,p2,p3,p4,p5⟩:=FP a1 z h1 h2
    obtain⟨q1,q2,q3,q4,q5⟩:=FP a2 p1 (by omega) p4
    obtain⟨t1,t2,t3,t4,t5⟩:=Zo w3 q1 (by omega) q4
    obtain⟨m,m1,m2⟩:=Zq a6 w6
    obtain⟨u1,u2,u3,u4,u5⟩:=m2 a4 a5 t1 t3 t4
    obtain⟨v1,v2,v3,v4,v5⟩:=Zp w9 a8 u1 u3 u4
    obtain⟨e1,e2,e3,e4,e5⟩:=dZ w10 l (i:Int) a11 a12 a13 0 (Nat.zero_le _) v1 v3 v4
    have pre:∀R,Ev (fun n=>if e1<(0:Int)then FI n l (i:Int) a11 a12 a13 e1 true else FI n l (i:Int) a11 a12 a13 e1 false) R→Ev (fun n=>FH n l (i:Int) z) R:=by
     intro R hR
     refine .succ ?_
     simp only[FH,AE,if_pos (Cn hi),if_pos c]
     refine .succ ?_
     simp only[Iu,if_true,AH hx,BJ]
     exact Ev.bO1 p2 (Ev.bO1 q2 (Ev.bO1 t2 (Ev.bO1 u2 (Ev.bO1 v2 (e5 R hR)))))
    by_cases ce:e1<0
    ·refine⟨e1,pre _ ?_,e2,e3,fun h=>absurd h (by omega)⟩
     simp only[if_pos ce]
     exact .succ (by simp only[FI,if_true];exact .ret)
    ·have s11:=ih a11 (Af (ag:=true) (sz:=15) hm (by simp)) w11
     have s12:=ih a12 (Af (ag:=true) (sz:=15) hm (by simp)) w12
     have s13:∀(s1 s2:ByteArray) (m:List D),.agg [.str s1,.str s2,.list true 15 m]∈a13→sG m:=fun s1 s2 m hm2=>ih m (Nat.lt_trans (Af (ag:=true) (sz:=15) hm2 (by simp)) (Af (ag:=true) (sz:=3) hm (by simp))) (by obtain⟨b0,b1,b2,e,_,_,w⟩:=J0 (w13.2 _ hm2);cases e;exact w)
     obtain⟨f1,f2,f3,f4,f5⟩:=s11 e1 e2 e3
     obtain⟨g1,g2,g3,g4,g5⟩:=s12 f1 f3 f4
     obtain⟨k1,k2,k3,k4,k5⟩:=Zs w13 s13 l (i:Int) 0 (Nat.zero_le _) g1 g3 g4
     obtain⟨r,r1,r2,r3,r4⟩:=ihl k1 k2 k3
     refine⟨r,pre _ ?_,r2,r3,fun hr0=>?_⟩
     ·simp only[if_neg ce]
      refine .succ ?_
      simp only[FI,Bool.false_eq_true,if_false]
      refine Ev.bO1 f2 (Ev.bO1 g2 (k5 _ ?_))
      rw[AG hi h.1]
      exact r1
     ·obtain⟨x1,x2⟩:=r4 hr0
      obtain⟨x3,x4⟩:=k4 (by omega)
      obtain⟨x5,x6⟩:=g5 (by omega)
      obtain⟨x7,x8⟩:=f5 (by omega)
      obtain⟨x9,x10⟩:=e4 (by omega)
      have y1:=v5 (by omega)
      have y2:=u5 (by omega)
      have y3:=t5 (by omega)
      have y4:=q5 (by omega)
      have y5:=p5 (by omega)
      refine⟨by omega,fun j x hj hx'=>?_⟩
      by_cases e:j=i
      ·subst e
       rw[hx]at hx'
       cases hx'
       have eX:eR (z - r - 5) a10:=fun x hx=>by
        obtain⟨j,hj⟩:=List.getElem?_of_mem hx
        obtain⟨d,d1,d2⟩:=x10 j x (Nat.zero_le _) hj
        exact⟨d,by omega,d2⟩
       obtain⟨d,d1,d2⟩:=lA (z1:=a0) (s2:=a1) (s3:=a2) (l4:=a3) (z5:=a4) (s6:=a5) (l7:=a6) (z8:=a7) (s9:=a8) (l10:=a9) (l11:=a10) (l12:=a11) (l13:=a12) (l14:=a13) (z15:=a14) (c:=z - r - 5) (by omega) (by omega) ⟨m+1,by omega,m1 (by omega) _ _⟩ w10 eX w11 (x8.mono (by omega)) w12 (x6.mono (by omega)) w13
        (fun s1 s2 m hm2=>by
         obtain⟨j,hj⟩:=List.getElem?_of_mem hm2
         exact (x4 j s1 s2 m (Nat.zero_le _) hj).mono (by omega))
       exact⟨d,by omega,d2⟩
      ·obtain⟨d,d1,d2⟩:=x2 j x (by omega) hx'
       exact⟨d,by omega,d2⟩
   ·refine⟨z,.succ ?_,h1,h2,fun h=>absurd h c⟩
    simp only[FH,AE,if_pos (Cn hi),if_neg c]
    exact .succ (by simp only[Iu,Bool.false_eq_true,if_false];exact .ret)
 intro z h1 h2
 obtain⟨r,r1,r2,r3,r4⟩:=loop 0 (Nat.zero_le _) z h1 h2
 refine⟨r,.succ (by simp only[cB];exact r1),r2,r3,fun hr=>⟨(r4 hr).1,fun x hx=>?_⟩⟩
 obtain⟨j,hj⟩:=List.getElem?_of_mem hx
 exact (r4 hr).2 j x (Nat.zero_le _) hj
end Go.Proofs.YtjmofeakajdbiaaGreatDoor
end
