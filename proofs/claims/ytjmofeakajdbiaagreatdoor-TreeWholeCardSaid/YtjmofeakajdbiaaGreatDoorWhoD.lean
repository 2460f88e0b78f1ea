/- Part of a proof. No condition. (Part 4.) -/
import Derived.Test.YtjmofeakajdbiaaGreatDoorWhoC
set_option linter.unusedVariables false
set_option linter.unusedSimpArgs false
set_option maxRecDepth 100000
set_option maxHeartbeats 40000000
set_option linter.unusedVariables false
noncomputable section
namespace Go.Proofs.YtjmofeakajdbiaaGreatDoor
open Go Go.AM
def YC (n:Nat) (z1:Int):Option (Bool):=
 (if (97:Int)<=z1 then (if z1<=(122:Int)then some true else some false)else some false)
noncomputable def nU:BS:=⟨123,Tryz.f123,[.y],[],⟨.one (.b),[],[]⟩,Bool,inferInstance,YC,[]⟩
noncomputable def iY:Kz:=sg nU [] Tryz.func123 (by kernel_rfl) (by kernel_rfl) (by kernel_rfl)
def Za (n:Nat) (z1:Int):Option (Bool):=
 (if (48:Int)<=z1 then (if z1<=(57:Int)then some true else some false)else some false)
noncomputable def nV:BS:=⟨150,Tryz.f150,[.y],[],⟨.one (.b),[],[]⟩,Bool,inferInstance,Za,[]⟩
noncomputable def nW:Kz:=sg nV [] Tryz.func150 (by kernel_rfl) (by kernel_rfl) (by kernel_rfl)
def Zb (n:Nat) (z1:Int):Option (Bool):=
 bO1 (YC n z1) fun b2=>(if b2=true then some true else bO1 (YB n z1) fun b3=>(if b3=true then some true else bO1 (Za n z1) fun b4=>(if b4=true then some true else (if z1=(95:Int)then some true else some false))))
noncomputable def nX:BS:=⟨143,Tryz.f143,[.y],[],⟨.one (.b),[],[]⟩,Bool,inferInstance,Zb,[]⟩
noncomputable def nY:Kz:=sg nX [iX,iY,nW] Tryz.func143 (by kernel_rfl) (by kernel_rfl) (by kernel_rfl)
mutual
def Ih:Nat->BA->Int->Option (Int)
 | 0,_,_=>none
 | n+1,s1,z2=>
  Ns s1 fun z3=>(if z2<z3 then Tu s1 z2 fun z4=>bO1 (Zb n z4) fun b5=>KV n s1 z2 b5 else KV n s1 z2 false)
def KV:Nat->BA->Int->Bool->Option (Int)
 | 0,_,_,_=>none
 | n+1,s1,z2,b6=>
  (if b6=true then AE (IntKind.wrap .i64 (z2+1)) fun z7=>Ih n s1 z7 else some z2)
end
def Sp (n:Nat) (s1:BA):Option (Int):=
 Ih n s1 (0:Int)
noncomputable def nZ:BS:=⟨142,Tryz.f142,[.s,.one (.fn 143 [])],[],⟨.one (.z),[],[]⟩,Int,inferInstance,Sp,[⟨28,[0,1,4,5],[],64,[.s,.one (.fn 143 []),.k 0,.z],[],fun n s1 z2=>Ih n s1 z2⟩,
 ⟨225,[0,1,4,5,16],[],416,[.s,.one (.fn 143 []),.k 0,.z,.b],[],fun n s1 z2 b6=>KV n s1 z2 b6⟩]⟩
noncomputable def iZ:Kz:=sg nZ [nY] Tryz.func142 (by kernel_rfl) (by kernel_rfl) (by kernel_rfl)
mutual
def FJ:Nat->LD->Int->Int->LD->Option LD
 | 0,_,_,_,_=>none
 | n+1,l1,z2,z3,l4=>
  (if z3<z2 then GH n l1 z2 z3 l4 true else GH n l1 z2 z3 l4 false)
def GH:Nat->LD->Int->Int->LD->Bool->Option LD
 | 0,_,_,_,_,_=>none
 | n+1,l1,z2,z3,l4,b5=>
  (if b5=true then Ae l1 z3 fun x6=>Bc x6 fun s7=>AE (IntKind.wrap .i64 (z3+1)) fun z8=>ZH (.str s7) [.int .i64 z8] l4 fun l9=>AE (IntKind.wrap .i64 (z3+1)) fun z10=>FJ n l1 z2 z10 l9 else some l4)
end
def YD (n:Nat):Option LD:=
 bO1 (Xe n BR) fun l1=>AB l1 fun z2=>FJ n l1 z2 (0:Int) ([]:LD)
theorem oA (n:Nat):∀⦃r1⦄,YD n=some r1->
    BB Tryz.prog inv 151 [] [] (.v (.c (.ow (.loc 0)))) [] [.tree (.fmap false) true 2 r1 none]:=by
 intro r1 h
 unfold YD at h
 refine BB.of BU BK Ht Tryz.func151 rfl (by kernel_rfl) rfl rfl rfl (fun M hM hI=>?_)
 try cbv
 refine AD ?_
 try cbv
 refine AD ?_
 try cbv
 refine AD ?_
 try cbv
 refine AD ?_
 try cbv
 replace h:=Ai h
 obtain⟨l1,hr,h⟩:=h
 refine An rfl rfl ?_
 try cbv
 refine AU hM hI (nL _ hr) rfl ?_
 clear hr
 try cbv
 replace h:=BQ M h
 obtain⟨z2,hz,h⟩:=h
 refine⟨z2,hz,?_⟩
 clear hz
 try cbv
 refine Wa (T:=Nat×Int×LD) [] [] [0,1,5,6,7] [.loc 32] 192 (fun t=>⟨[(0,.v (.c (.nilm))),(1,.v (.c (.ow (.loc 32)))),sF 5 1 l1,sI 6 z2,sI 7 t.2.1],[(.loc 32,.tree (.fmap false) true 2 t.2.2 none)],192⟩)
   (fun t=>t.1<=n/\FJ t.1 l1 z2 t.2.1 t.2.2=some r1) (fun t=>t.1) (n,((0:Int),([]:LD))) ⟨Nat.le_refl _,h⟩ (by cbv) ?_
 clear h
 rintro⟨m1,z3,l4⟩ ⟨hm1,h⟩
 replace hm1:m1<=n:=hm1
 obtain _ | m1:=m1
 ·replace h:FJ 0 l1 z2 z3 l4=some r1:=h
  rw[FJ]at h
  cases h
 replace h:FJ (m1+1) l1 z2 z3 l4=some r1:=h
 rw[FJ]at h
 try cbv
 refine AJ 8 [0,1,5,6,7,8] [.loc 32] 224 (fun m b=>m<=m1/\GH m l1 z2 z3 l4 b=some r1) ?_ ?_
 ·try cbv
  refine B1 (fun e=>?_) (fun e=>?_)
  ·replace h:=Ag e h
   clear e
   try cbv
   exact AA (m1,true) [0,1,5,6,7,8] [.loc 32] 224 ⟨by omega,h⟩ (by cbv)
  replace h:=Ah (Int.not_lt.2 e) h
  clear e
  try cbv
  exact AA (m1,false) [0,1,5,6,7,8] [.loc 32] 224 ⟨by omega,h⟩ (by cbv)
 clear h
 rintro⟨m2,b5⟩ ⟨hm2,h⟩
 try cbv
 replace hm2:m2<=m1:=hm2
 obtain _ | m2:=m2
 ·replace h:GH 0 l1 z2 z3 l4 b5=some r1:=h
  rw[GH]at h
  cases h
 replace h:GH (m2+1) l1 z2 z3 l4 b5=some r1:=h
 rw[GH]at h
 try cbv
 refine AD ?_
 try cbv
 cases b5
 ·replace h:=Bz h
  try cbv
  refine AD ?_
  try cbv
  obtain rfl:=Option.some.inj h
  refine AZ ?_
  try cbv
  exact⟨[.loc 32],rfl,rfl,trivial,⟨rfl,trivial⟩,trivial⟩
 replace h:=Bx h
 try cbv
 refine AD ?_
 try cbv
 refine AD ?_
 try cbv
 replace h:=Az h
 obtain⟨x6,⟨hx0,hx⟩,h⟩:=h
 refine⟨x6,hx0,hx,?_⟩
 clear hx0 hx
 replace h:=Eh h
 obtain⟨s7,rfl,h⟩:=h
 try cbv
 replace h:=Aa h
 obtain⟨z8,hz,h⟩:=h
 refine⟨z8,hz,?_⟩
 clear hz
 try cbv
 replace h:=Xa h
 obtain⟨l9,hz,h⟩:=h
 refine⟨l9,(M.lock_iff _).2 hz,?_⟩
 clear hz
 try cbv
 replace h:=Aa h
 obtain⟨z10,hz,h⟩:=h
 refine⟨z10,hz,?_⟩
 clear hz
 try cbv
 refine UW (m2,(z10,l9)) [] [] [0,1,5,6,7] [.loc 32] 192 ⟨by omega,h⟩ (Nat.lt_succ_of_le (by omega)) ?_
 try cbv
def M8 (n:Nat) (s1:BA):Option (Bool):=
 bO1 (YD n) fun l2=>(findF false (.str s1) l2 (fun x3=>Mv x3 fun z4=>(if (0:Int)<z4 then some true else some false)) (some false))
theorem oB (n:Nat):∀⦃s1 r1⦄,M8 n s1=some r1->
    BB Tryz.prog inv 144 [.d (.str s1)] [] (.v (.d (.bool r1))) [] []:=by
 intro s1 r1 h
 unfold M8 at h
 refine BB.of BU BK Ht Tryz.func144 rfl (by kernel_rfl) rfl rfl rfl (fun M hM hI=>?_)
 try cbv
 refine AD ?_
 try cbv
 refine AD ?_
 try cbv
 replace h:=Ai h
 obtain⟨l2,hr,h⟩:=h
 refine An rfl rfl ?_
 try cbv
 refine Cs hM hI [] (oA _ hr) rfl (by simp) trivial trivial (by simp) ?_
 clear hr
 try cbv
 replace h:=Wc h
 rcases h with⟨x3,hz,h⟩ | ⟨hz,h⟩
 ·replace h:=Mw h
  obtain⟨z4,rfl,h⟩:=h
  refine⟨some _,(M.lock_iff _).2 hz,?_⟩
  clear hz
  try cbv
  refine B1 (fun e=>?_) (fun e=>?_)
  ·replace h:=Ag e h
   clear e
   try cbv
   obtain rfl:=Option.some.inj h
   refine AZ ?_
   try cbv
   exact⟨[],by trivial⟩
  replace h:=Ah (Int.not_lt.2 e) h
  clear e
  try cbv
  obtain rfl:=Option.some.inj h
  refine AZ ?_
  try cbv
  exact⟨[],by trivial⟩
 refine⟨none,(M.lock_iff _).2 hz,?_⟩
 clear hz
 try cbv
 refine XR (by decide) ?_
 try cbv
 obtain rfl:=Option.some.inj h
 refine AZ ?_
 try cbv
 exact⟨[],by trivial⟩
noncomputable def oC:BW:=⟨144,[.s],[],[⟨.one (.b),[],[]⟩],Bool,inferInstance,M8⟩
noncomputable def jA:Kz:=⟨oC,fun n=>Di fun s1 p h w1 w2 w4 w3 l1 l2 e1 e2 e5 e3 xs e4=>by cases e1;cases e2;cases e4;cases e5;cases e3;exact oB n h⟩
def dB (n:Nat) (s1:BA):Option (Bool):=
 (if s1=ByteArray.empty then some false else Ns s1 fun z2=>(if z2<=(16:Int)then Tu s1 (0:Int) fun z3=>bO1 (YB n z3) fun b4=>(if b4=true then bO1 (Sp n s1) fun z5=>Ns s1 fun z6=>(if z5=z6 then bO1 (M8 n s1) fun b7=>AI (!b7) fun b8=>some b8 else some false)else some false)else some false))
noncomputable def oD:BS:=⟨121,Tryz.f121,[.s,.one (.fn 122 [])],[],⟨.one (.b),[],[]⟩,Bool,inferInstance,dB,[]⟩
noncomputable def oE:Kz:=sg oD [iX,iZ,jA] Tryz.func121 (by kernel_rfl) (by kernel_rfl) (by kernel_rfl)
def Wv (n:Nat) (s1:BA):Option (Bool):=
 bO1 (dB n s1) fun b2=>some b2
noncomputable def uJ:BS:=⟨73,Tryz.f73,[.s],[],⟨.one (.b),[],[]⟩,Bool,inferInstance,Wv,[]⟩
noncomputable def oG:Kz:=sg uJ [oE] Tryz.func73 (by kernel_rfl) (by kernel_rfl) (by kernel_rfl)
theorem oH (n:Nat):∀⦃s1 r1⦄,Wv n s1=some r1->
  BB Tryz.prog inv 73 [.d (.str s1)] [] (.v (.d (.bool r1))) [] []:=fun s1 r1 h=>oG.ok n [.S s1] _ h _ _ _ _ _ _ rfl rfl rfl rfl _ rfl
mutual
def Zc:Nat->Int->BA->LD->Int->Option (Bool×Int)
 | 0,_,_,_,_=>none
 | n+1,z1,s2,l3,z4=>
  AE (IntKind.wrap .i64 (z4 - 1)) fun z5=>bO1 (N4 n z1 s2 l3 z5) fun b6=>some (b6,z4)
def FK:Nat->LD->Int->Int->Int->Option (Bool×Int)
 | 0,_,_,_,_=>none
 | n+1,l1,z2,z4,z5=>
  AB l1 fun z6=>(if z4<z6 then (if z4<z2 then Ej n l1 z2 z4 z5 true else Ej n l1 z2 z4 z5 false)else Ej n l1 z2 z4 z5 false)
def Ej:Nat->LD->Int->Int->Int->Bool->Option (Bool×Int)
 | 0,_,_,_,_,_=>none
 | n+1,l1,z2,z4,z5,b7=>
  (if b7=true then Ae l1 z4 fun x8=>CM x8 fun z9 s10 l11=>bO2 (Zc n z9 s10 l11 z5) fun b12 z13=>AI (!b12) fun b14=>(if b14=true then some (false,z13)else AE (IntKind.wrap .i64 (z4+1)) fun z15=>FK n l1 z2 z15 z13)else AB l1 fun z16=>(if z16<=z2 then some (true,z5)else some (false,z5)))
def YE:Nat->LD->Int->Int->Option (Bool×Int)
 | 0,_,_,_=>none
 | n+1,l1,z2,z3=>
  FK n l1 z2 (0:Int) z3
def Hv:Nat->Int->BA->LD->Int->Bool->Option (Bool)
 | 0,_,_,_,_,_=>none
 | n+1,z1,s2,l3,z4,b5=>
  (if z1=(1:Int)then Hw n z1 s2 l3 z4 b5 true else Hw n z1 s2 l3 z4 b5 false)
def Hw:Nat->Int->BA->LD->Int->Bool->Bool->Option (Bool)
 | 0,_,_,_,_,_,_=>none
 | n+1,z1,s2,l3,z4,b5,b6=>
  (if b6=true then FA n z1 s2 l3 z4 b5 true else (if z1=(2:Int)then Hx n z1 s2 l3 z4 b5 true else Hx n z1 s2 l3 z4 b5 false))
def Hx:Nat->Int->BA->LD->Int->Bool->Bool->Option (Bool)
 | 0,_,_,_,_,_,_=>none
 | n+1,z1,s2,l3,z4,b5,b7=>
  (if b7=true then FA n z1 s2 l3 z4 b5 true else (if z1=(3:Int)then Hy n z1 s2 l3 z4 b5 true else Hy n z1 s2 l3 z4 b5 false))
def Hy:Nat->Int->BA->LD->Int->Bool->Bool->Option (Bool)
 | 0,_,_,_,_,_,_=>none
 | n+1,z1,s2,l3,z4,b5,b8=>
  (if b8=true then FA n z1 s2 l3 z4 b5 true else (if z1=(10:Int)then FA n z1 s2 l3 z4 b5 true else FA n z1 s2 l3 z4 b5 false))
def FA:Nat->Int->BA->LD->Int->Bool->Bool->Option (Bool)
 | 0,_,_,_,_,_,_=>none
 | n+1,z1,s2,l3,z4,b5,b9=>
  (if b9=true then C6 n z1 l3 z4 (0:Int) b5 else (if z1=(4:Int)then JN n z1 s2 l3 z4 b5 true else JN n z1 s2 l3 z4 b5 false))
def JN:Nat->Int->BA->LD->Int->Bool->Bool->Option (Bool)
 | 0,_,_,_,_,_,_=>none
 | n+1,z1,s2,l3,z4,b5,b10=>
  (if b10=true then bO1 (Wv n s2) fun b11=>C6 n z1 l3 z4 (0:Int) b11 else C6 n z1 l3 z4 (1:Int) b5)
def C6:Nat->Int->LD->Int->Int->Bool->Option (Bool)
 | 0,_,_,_,_,_=>none
 | n+1,z1,l3,z4,z12,b13=>
  (if (0:Int)<z4 then (if (1:Int)<=z1 then (if z1<=(14:Int)then (if b13=true then AB l3 fun z14=>(if z14=z12 then bO2 (YE n l3 (1:Int) z4) fun b15 z16=>some b15 else some false)else some false)else some false)else some false)else some false)
def N4:Nat->Int->BA->LD->Int->Option (Bool)
 | 0,_,_,_,_=>none
 | n+1,z1,s2,l3,z4=>
  (if s2=ByteArray.empty then Hv n z1 s2 l3 z4 true else Hv n z1 s2 l3 z4 false)
end
theorem oI (n:Nat):(∀⦃z1 s2 l3 z4 r1 r2⦄,Zc n z1 s2 l3 z4=some (r1,r2)->
    BB Tryz.prog inv 101 [.d (.agg [.int .u8 z1,.str s2,.list true 3 l3]),.c (.ptr (.ext 0) 0)] [.cells [.d (.int .i64 z4)]] (.v (.d (.bool r1))) [.cells [.d (.int .i64 r2)]] [])/\
    (∀⦃l1 z2 z3 r1 r2⦄,YE n l1 z2 z3=some (r1,r2)->
    BB Tryz.prog inv 100 [.d (.list true 3 l1),.d (.int .i64 z2),.c (.fn 101 [.ext 0])] [.cells [.d (.int .i64 z3)]] (.v (.d (.bool r1))) [.cells [.d (.int .i64 r2)]] [])/\
    (∀⦃z1 s2 l3 z4 r1⦄,N4 n z1 s2 l3 z4=some r1->
    BB Tryz.prog inv 55 [.d (.agg [.int .u8 z1,.str s2,.list true 3 l3]),.d (.int .i64 z4)] [] (.v (.d (.bool r1))) [] []):=by
 induction n using Nat.strongRecOn with | _ n ih=>
 obtain _ | n:=n
 ·refine⟨?_,?_,?_⟩
  ·intro z1 s2 l3 z4 r1 r2 h
   cases (show (none:Option _)=some _ from h)
  ·intro l1 z2 z3 r1 r2 h
   cases (show (none:Option _)=some _ from h)
  intro z1 s2 l3 z4 r1 h
  cases (show (none:Option _)=some _ from h)
 refine⟨?_,?_,?_⟩
 ·intro z1 s2 l3 z4 r1 r2 h
  rw[Zc]at h
  refine BB.of BU BK Ht Tryz.func101 rfl (by kernel_rfl) rfl rfl rfl (fun M hM hI=>?_)
  try cbv
  refine AD ?_
  try cbv
  refine AD ?_
  try cbv
  replace h:=Aa h
  obtain⟨z5,hz,h⟩:=h
  refine⟨z5,hz,?_⟩
  clear hz
  try cbv
  replace h:=Ai h
  obtain⟨b6,hr,h⟩:=h
  refine An rfl rfl ?_
  try cbv
  refine AU hM hI ((ih _ (by omega)).2.2 hr) rfl ?_
  clear hr
  try cbv
  obtain⟨rfl,rfl⟩:=XZ h
  refine AZ ?_
  try cbv
  exact⟨[],rfl,rfl,⟨rfl,trivial⟩,trivial,trivial⟩
 ·intro l1 z2 z3 r1 r2 h
  rw[YE]at h
  refine BB.of BU BK Ht Tryz.func100 rfl (by kernel_rfl) rfl rfl rfl (fun M hM hI=>?_)
  try cbv
  refine AD ?_
  try cbv
  refine AD ?_
  try cbv
  refine AD ?_
  try cbv
  refine CO (T:=Nat×Int×Int) [0,1,2,6,7] [.ext 0] 64 (fun t=>⟨[sT 0 3 l1,sI 1 z2,(2,.v (.c (.fn 101 [.ext 0]))),sB 6 false,sI 7 t.2.1],[(.ext 0,.cells [.d (.int .i64 t.2.2)])],64⟩)
    (fun t=>t.1<=n/\FK t.1 l1 z2 t.2.1 t.2.2=some (r1,r2)) (fun t=>t.1) (n,((0:Int),z3)) ⟨Nat.le_refl _,h⟩ (by cbv) ?_
  clear h
  rintro⟨m1,z4,z5⟩ ⟨hm1,h⟩
  replace hm1:m1<=n:=hm1
  obtain _ | m1:=m1
  ·replace h:FK 0 l1 z2 z4 z5=some (r1,r2):=h
   rw[FK]at h
   cases h
  replace h:FK (m1+1) l1 z2 z4 z5=some (r1,r2):=h
  rw[FK]at h
  try cbv
  refine AD ?_
  try cbv
  refine CJ (T:=Nat×Bool) (fun t=>⟨[sT 0 3 l1,sI 1 z2,(2,.v (.c (.fn 101 [.ext 0]))),sB 6 false,sI 7 z4,sB 16 t.2],[(.ext 0,.cells [.d (.int .i64 z5)])],352⟩) (fun t=>t.1<=m1/\Ej t.1 l1 z2 z4 z5 t.2=some (r1,r2)) ?_ ?_
  ·try cbv
   replace h:=BQ M h
   obtain⟨z6,hz,h⟩:=h
   refine⟨z6,hz,?_⟩
   clear hz
   try cbv
   refine B1 (fun e=>?_) (fun e=>?_)
   ·replace h:=Ag e h
    clear e
    try cbv
    refine B1 (fun e=>?_) (fun e=>?_)
    ·replace h:=Ag e h
     clear e
     try cbv
     exact AA (m1,true) [0,1,2,6,7,16] [.ext 0] 352 ⟨by omega,h⟩ (by cbv)
    replace h:=Ah (Int.not_lt.2 e) h
    clear e
    try cbv
    exact AA (m1,false) [0,1,2,6,7,16] [.ext 0] 352 ⟨by omega,h⟩ (by cbv)
   replace h:=Ah (Int.not_lt.2 e) h
   clear e
   try cbv
   exact AA (m1,false) [0,1,2,6,7,16] [.ext 0] 352 ⟨by omega,h⟩ (by cbv)
  clear h
  rintro⟨m2,b7⟩ ⟨hm2,h⟩
  replace hm2:m2<=m1:=hm2
  obtain _ | m2:=m2
  ·replace h:Ej 0 l1 z2 z4 z5 b7=some (r1,r2):=h
   rw[Ej]at h
   cases h
  replace h:Ej (m2+1) l1 z2 z4 z5 b7=some (r1,r2):=h
  rw[Ej]at h
  try cbv
  cases b7
  ·replace h:=Bz h
   try cbv
   refine AD ?_
   try cbv
   replace h:=BQ M h
   obtain⟨z16,hz,h⟩:=h
   refine⟨z16,hz,?_⟩
   clear hz
   try cbv
   refine GC (fun e=>?_) (fun e=>?_)
   ·replace h:=Ag e h
    clear e
    try cbv
    obtain⟨rfl,rfl⟩:=XZ h
    refine AZ ?_
    try cbv
    exact⟨[],rfl,rfl,⟨rfl,trivial⟩,trivial,trivial⟩
   replace h:=Ah (Int.not_le.2 e) h
   clear e
   try cbv
   obtain⟨rfl,rfl⟩:=XZ h
   refine AZ ?_
   try cbv
   exact⟨[],rfl,rfl,⟨rfl,trivial⟩,trivial,trivial⟩
  replace h:=Bx h
  try cbv
  refine AD ?_
  try cbv
  refine AD ?_
  try cbv
  replace h:=Az h
  obtain⟨x8,⟨hx0,hx⟩,h⟩:=h
  refine⟨x8,hx0,hx,?_⟩
  clear hx0 hx
  replace h:=IZ h
  obtain⟨z9,s10,l11,rfl,h⟩:=h
  try cbv
  replace h:=JC h
  obtain⟨b12,z13,hr,h⟩:=h
  refine An rfl rfl ?_
  try cbv
  refine Cs hM hI [.ext 0] ((ih _ (by omega)).1 hr) rfl (by simp) ⟨rfl,trivial⟩ ⟨trivial,trivial⟩ (by simp) ?_
  clear hr
  try cbv
  replace h:=C5 h
  obtain⟨b14,hz,h⟩:=h
  refine⟨b14,D0 hz,?_⟩
  clear hz
  try cbv
  cases b14
  ·replace h:=Bz h
   try cbv
   replace h:=Aa h
   obtain⟨z15,hz,h⟩:=h
   refine⟨z15,hz,?_⟩
   clear hz
   try cbv
   exact BT (m2,(z15,z13)) [0,1,2,6,7] [.ext 0] 64 ⟨by omega,h⟩ (Nat.lt_succ_of_le (by omega)) (by cbv)
  replace h:=Bx h
  try cbv
  refine AD ?_
  try cbv
  obtain⟨rfl,rfl⟩:=XZ h
  refine AZ ?_
  try cbv
  exact⟨[],rfl,rfl,⟨rfl,trivial⟩,trivial,trivial⟩
 intro z1 s2 l3 z4 r1 h
 rw[N4]at h
 refine BB.of BU BK Ht Tryz.func55 rfl (by kernel_rfl) rfl rfl rfl (fun M hM hI=>?_)
 try cbv
 refine AD ?_
 try cbv
 refine CJ (T:=Nat×Bool) (fun t=>⟨[sL 2 0,sL 3 32,sB 4 false,sI 5 1,sB 6 t.2],[(.loc 0,.cells [.d (.int .u8 z1),.d (.str s2),.d (.list true 3 l3)]),(.loc 32,.cells [.d (.int .i64 z4)])],256⟩) (fun t=>t.1<=n/\Hv t.1 z1 s2 l3 z4 t.2=some r1) ?_ ?_
 ·try cbv
  refine XS (fun e=>?_) (fun e=>?_)
  ·replace h:=Ag (EA.1 e) h
   clear e
   try cbv
   refine drawn ?_ ?_
   ·show _=true
    kernel_rfl
   try cbv
   exact AA (n,true) [2,3,4,5,6] [.loc 0,.loc 32] 256 ⟨by omega,h⟩ (by cbv)
  replace h:=Ah (SO.1 e) h
  clear e
  try cbv
  refine drawn ?_ ?_
  ·show _=true
   kernel_rfl
  try cbv
  exact AA (n,false) [2,3,4,5,6] [.loc 0,.loc 32] 256 ⟨by omega,h⟩ (by cbv)
 clear h
 rintro⟨m1,b5⟩ ⟨hm1,h⟩
 replace hm1:m1<=n:=hm1
 obtain _ | m1:=m1
 ·replace h:Hv 0 z1 s2 l3 z4 b5=some r1:=h
  rw[Hv]at h
  cases h
 replace h:Hv (m1+1) z1 s2 l3 z4 b5=some r1:=h
 rw[Hv]at h
 try cbv
 refine CJ (T:=Nat×Int×Bool) (fun t=>⟨[sL 2 0,sL 3 32,sB 4 false,sI 5 t.2.1,sB 6 t.2.2],[(.loc 0,.cells [.d (.int .u8 z1),.d (.str s2),.d (.list true 3 l3)]),(.loc 32,.cells [.d (.int .i64 z4)])],800⟩) (fun t=>t.1<=m1/\C6 t.1 z1 l3 z4 t.2.1 t.2.2=some r1) ?_ ?_
 rotate_left
 ·clear h
  rintro⟨m7,z12,b13⟩ ⟨hm7,h⟩
  replace hm7:m7<=m1:=hm7
  obtain _ | m7:=m7
  ·replace h:C6 0 z1 l3 z4 z12 b13=some r1:=h
   rw[C6]at h
   cases h
  replace h:C6 (m7+1) z1 l3 z4 z12 b13=some r1:=h
  rw[C6]at h
  try cbv
  refine AD ?_
  try cbv
  refine B1 (fun e=>?_) (fun e=>?_)
  rotate_left
  ·replace h:=Ah (Int.not_lt.2 e) h
   clear e
   try cbv
   obtain rfl:=Option.some.inj h
   refine AZ ?_
   try cbv
   exact⟨[],by trivial⟩
  replace h:=Ag e h
  clear e
  try cbv
  refine GC (fun e=>?_) (fun e=>?_)
  rotate_left
  ·replace h:=Ah (Int.not_le.2 e) h
   clear e
   try cbv
   obtain rfl:=Option.some.inj h
   refine AZ ?_
   try cbv
   exact⟨[],by trivial⟩
  replace h:=Ag e h
  clear e
  try cbv
  refine GC (fun e=>?_) (fun e=>?_)
  rotate_left
  ·replace h:=Ah (Int.not_le.2 e) h
   clear e
   try cbv
   obtain rfl:=Option.some.inj h
   refine AZ ?_
   try cbv
   exact⟨[],by trivial⟩
  replace h:=Ag e h
  clear e
  try cbv
  cases b13
  ·replace h:=Bz h
   try cbv
   obtain rfl:=Option.some.inj h
   refine AZ ?_
   try cbv
   exact⟨[],by trivial⟩
  replace h:=Bx h
  try cbv
  replace h:=BQ M h
  obtain⟨z14,hz,h⟩:=h
  refine⟨z14,hz,?_⟩
  clear hz
  try cbv
  refine Ay (fun e=>?_) (fun e=>?_)
  ·replace h:=Ag e h
   clear e
   try cbv
   replace h:=JC h
   obtain⟨b15,z16,hr,h⟩:=h
   refine An rfl rfl ?_
   try cbv
   refine Cs hM hI [.loc 32] ((ih _ (by omega)).2.1 hr) rfl (by simp) ⟨rfl,trivial⟩ ⟨trivial,trivial⟩ (by simp) ?_
   clear hr
   try cbv
   obtain rfl:=Option.some.inj h
   refine AZ ?_
   try cbv
   exact⟨[],by trivial⟩
  replace h:=Ah e h
  clear e
  try cbv
  obtain rfl:=Option.some.inj h
  refine AZ ?_
  try cbv
  exact⟨[],by trivial⟩
 try cbv
 refine AD ?_
 try cbv
 refine CJ (T:=Nat×Bool) (fun t=>⟨[sL 2 0,sL 3 32,sB 4 false,sI 5 1,sB 6 b5,sU 11 z1,sB 12 t.2],[(.loc 0,.cells [.d (.int .u8 z1),.d (.str s2),.d (.list true 3 l3)]),(.loc 32,.cells [.d (.int .i64 z4)])],576⟩) (fun t=>t.1<=m1/\FA t.1 z1 s2 l3 z4 b5 t.2=some r1) ?_ ?_
 rotate_left
 ·clear h
  rintro⟨m5,b9⟩ ⟨hm5,h⟩
  replace hm5:m5<=m1:=hm5
  obtain _ | m5:=m5
  ·replace h:FA 0 z1 s2 l3 z4 b5 b9=some r1:=h
   rw[FA]at h
   cases h
  replace h:FA (m5+1) z1 s2 l3 z4 b5 b9=some r1:=h
  rw[FA]at h
  try cbv
  cases b9
  rotate_left
  ·replace h:=Bx h
   try cbv
   exact AA (m5,((0:Int),b5)) [2,3,4,5,6] [.loc 0,.loc 32] 800 ⟨by omega,h⟩ (by cbv)
  replace h:=Bz h
  try cbv
  refine CJ (T:=Nat×Bool) (fun t=>⟨[sL 2 0,sL 3 32,sB 4 false,sI 5 1,sB 6 b5,sB 17 t.2],[(.loc 0,.cells [.d (.int .u8 z1),.d (.str s2),.d (.list true 3 l3)]),(.loc 32,.cells [.d (.int .i64 z4)])],640⟩) (fun t=>t.1<=m5/\JN t.1 z1 s2 l3 z4 b5 t.2=some r1) ?_ ?_
  ·try cbv
   refine Ay (fun e=>?_) (fun e=>?_)
   ·replace h:=Ag e h
    clear e
    try cbv
    exact AA (m5,true) [2,3,4,5,6,17] [.loc 0,.loc 32] 640 ⟨by omega,h⟩ (by cbv)
   replace h:=Ah e h
   clear e
   try cbv
   exact AA (m5,false) [2,3,4,5,6,17] [.loc 0,.loc 32] 640 ⟨by omega,h⟩ (by cbv)
  clear h
  rintro⟨m6,b10⟩ ⟨hm6,h⟩
  replace hm6:m6<=m5:=hm6
  obtain _ | m6:=m6
  ·replace h:JN 0 z1 s2 l3 z4 b5 b10=some r1:=h
   rw[JN]at h
   cases h
  replace h:JN (m6+1) z1 s2 l3 z4 b5 b10=some r1:=h
  rw[JN]at h
  try cbv
  cases b10
  ·replace h:=Bz h
   try cbv
   exact AA (m6,((1:Int),b5)) [2,3,4,5,6] [.loc 0,.loc 32] 800 ⟨by omega,h⟩ (by cbv)
  replace h:=Bx h
  try cbv
  replace h:=Ai h
  obtain⟨b11,hr,h⟩:=h
  refine An rfl rfl ?_
  try cbv
  refine AU hM hI (oH _ hr) rfl ?_
  clear hr
  try cbv
  exact AA (m6,((0:Int),b11)) [2,3,4,5,6] [.loc 0,.loc 32] 800 ⟨by omega,h⟩ (by cbv)
 try cbv
 refine CJ (T:=Nat×Bool) (fun t=>⟨[sL 2 0,sL 3 32,sB 4 false,sI 5 1,sB 6 b5,sU 11 z1,sB 12 t.2],[(.loc 0,.cells [.d (.int .u8 z1),.d (.str s2),.d (.list true 3 l3)]),(.loc 32,.cells [.d (.int .i64 z4)])],384⟩) (fun t=>t.1<=m1/\Hw t.1 z1 s2 l3 z4 b5 t.2=some r1) ?_ ?_
 ·try cbv
  refine Ay (fun e=>?_) (fun e=>?_)
  ·replace h:=Ag e h
   clear e
   try cbv
   exact AA (m1,true) [2,3,4,5,6,11,12] [.loc 0,.loc 32] 384 ⟨by omega,h⟩ (by cbv)
  replace h:=Ah e h
  clear e
  try cbv
  exact AA (m1,false) [2,3,4,5,6,11,12] [.loc 0,.loc 32] 384 ⟨by omega,h⟩ (by cbv)
 clear h
 rintro⟨m2,b6⟩ ⟨hm2,h⟩
 replace hm2:m2<=m1:=hm2
 obtain _ | m2:=m2
 ·replace h:Hw 0 z1 s2 l3 z4 b5 b6=some r1:=h
  rw[Hw]at h
  cases h
 replace h:Hw (m2+1) z1 s2 l3 z4 b5 b6=some r1:=h
 rw[Hw]at h
 try cbv
 cases b6
 rotate_left
 ·replace h:=Bx h
  try cbv
  exact AA (m2,true) [2,3,4,5,6,11,12] [.loc 0,.loc 32] 576 ⟨by omega,h⟩ (by cbv)
 replace h:=Bz h
 try cbv
 refine CJ (T:=Nat×Bool) (fun t=>⟨[sL 2 0,sL 3 32,sB 4 false,sI 5 1,sB 6 b5,sU 11 z1,sB 12 t.2],[(.loc 0,.cells [.d (.int .u8 z1),.d (.str s2),.d (.list true 3 l3)]),(.loc 32,.cells [.d (.int .i64 z4)])],448⟩) (fun t=>t.1<=m2/\Hx t.1 z1 s2 l3 z4 b5 t.2=some r1) ?_ ?_
 ·try cbv
  refine Ay (fun e=>?_) (fun e=>?_)
  ·replace h:=Ag e h
   clear e
   try cbv
   exact AA (m2,true) [2,3,4,5,6,11,12] [.loc 0,.loc 32] 448 ⟨by omega,h⟩ (by cbv)
  replace h:=Ah e h
  clear e
  try cbv
  exact AA (m2,false) [2,3,4,5,6,11,12] [.loc 0,.loc 32] 448 ⟨by omega,h⟩ (by cbv)
 clear h
 rintro⟨m3,b7⟩ ⟨hm3,h⟩
 replace hm3:m3<=m2:=hm3
 obtain _ | m3:=m3
 ·replace h:Hx 0 z1 s2 l3 z4 b5 b7=some r1:=h
  rw[Hx]at h
  cases h
 replace h:Hx (m3+1) z1 s2 l3 z4 b5 b7=some r1:=h
 rw[Hx]at h
 try cbv
 cases b7
 rotate_left
 ·replace h:=Bx h
  try cbv
  exact AA (m3,true) [2,3,4,5,6,11,12] [.loc 0,.loc 32] 576 ⟨by omega,h⟩ (by cbv)
 replace h:=Bz h
 try cbv
 refine CJ (T:=Nat×Bool) (fun t=>⟨[sL 2 0,sL 3 32,sB 4 false,sI 5 1,sB 6 b5,sU 11 z1,sB 12 t.2],[(.loc 0,.cells [.d (.int .u8 z1),.d (.str s2),.d (.list true 3 l3)]),(.loc 32,.cells [.d (.int .i64 z4)])],512⟩) (fun t=>t.1<=m3/\Hy t.1 z1 s2 l3 z4 b5 t.2=some r1) ?_ ?_
 ·try cbv
  refine Ay (fun e=>?_) (fun e=>?_)
  ·replace h:=Ag e h
   clear e
   try cbv
   exact AA (m3,true) [2,3,4,5,6,11,12] [.loc 0,.loc 32] 512 ⟨by omega,h⟩ (by cbv)
  replace h:=Ah e h
  clear e
  try cbv
  exact AA (m3,false) [2,3,4,5,6,11,12] [.loc 0,.loc 32] 512 ⟨by omega,h⟩ (by cbv)
 clear h
 rintro⟨m4,b8⟩ ⟨hm4,h⟩
 replace hm4:m4<=m3:=hm4
 obtain _ | m4:=m4
 ·replace h:Hy 0 z1 s2 l3 z4 b5 b8=some r1:=h
  rw[Hy]at h
  cases h
 replace h:Hy (m4+1) z1 s2 l3 z4 b5 b8=some r1:=h
 rw[Hy]at h
 try cbv
 cases b8
 ·replace h:=Bz h
  try cbv
  refine Ay (fun e=>?_) (fun e=>?_)
  ·replace h:=Ag e h
   clear e
   try cbv
   exact AA (m4,true) [2,3,4,5,6,11,12] [.loc 0,.loc 32] 576 ⟨by omega,h⟩ (by cbv)
  replace h:=Ah e h
  clear e
  try cbv
  exact AA (m4,false) [2,3,4,5,6,11,12] [.loc 0,.loc 32] 576 ⟨by omega,h⟩ (by cbv)
 replace h:=Bx h
 try cbv
 exact AA (m4,true) [2,3,4,5,6,11,12] [.loc 0,.loc 32] 576 ⟨by omega,h⟩ (by cbv)
theorem fV (n:Nat):∀⦃z1 s2 l3 z4 r1⦄,N4 n z1 s2 l3 z4=some r1->
  BB Tryz.prog inv 55 [.d (.agg [.int .u8 z1,.str s2,.list true 3 l3]),.d (.int .i64 z4)] [] (.v (.d (.bool r1))) [] []:=(oI n).2.2
noncomputable def uK:BW:=⟨55,[.agg [.y,.str,.q 3],.z],[],[⟨.one (.b),[],[]⟩],Bool,inferInstance,N4⟩
noncomputable def uL:Kz:=⟨uK,fun n=>Di fun z1 s2 l3 z4 p h w1 w2 w4 w3 l1 l2 e1 e2 e5 e3 xs e4=>by cases e1;cases e2;cases e4;cases e5;cases e3;exact fV n h⟩
mutual
def Q2:Nat->LD->LD->Int->Int->Option (Bool)
 | 0,_,_,_,_=>none
 | n+1,l1,l2,z6,z7=>
  (if z7<z6 then Q3 n l1 l2 z6 z7 true else Q3 n l1 l2 z6 z7 false)
def Q3:Nat->LD->LD->Int->Int->Bool->Option (Bool)
 | 0,_,_,_,_,_=>none
 | n+1,l1,l2,z6,z7,b8=>
  (if b8=true then Ae l1 z7 fun x9=>Bc x9 fun s10=>Ae l2 z7 fun x11=>Bc x11 fun s12=>(if s10=s12 then Uj n l1 l2 z6 z7 false else Uj n l1 l2 z6 z7 true)else some true)
def Uj:Nat->LD->LD->Int->Int->Bool->Option (Bool)
 | 0,_,_,_,_,_=>none
 | n+1,l1,l2,z6,z7,b13=>
  (if b13=true then some false else AE (IntKind.wrap .i64 (z7+1)) fun z14=>Q2 n l1 l2 z6 z14)
end
def M9:Nat->LD->LD->Bool->Option (Bool)
 | 0,_,_,_=>none
 | n+1,l1,l2,b5=>
  (if b5=true then some false else AB l1 fun z6=>Q2 n l1 l2 z6 (0:Int))
def Zd (n:Nat) (l1:LD) (l2:LD):Option (Bool):=
 AB l1 fun z3=>AB l2 fun z4=>(if z3=z4 then M9 n l1 l2 false else M9 n l1 l2 true)
noncomputable def oJ:BS:=⟨139,Tryz.f139,[.f 1,.f 1],[],⟨.one (.b),[],[]⟩,Bool,inferInstance,Zd,[⟨13,[0,1,4,10],[],192,[.f 1,.f 1,.one (.cb false),.b],[],fun n l1 l2 b5=>M9 n l1 l2 b5⟩,
 ⟨58,[0,1,4,12,13],[],288,[.f 1,.f 1,.one (.cb false),.z,.z],[],fun n l1 l2 z6 z7=>Q2 n l1 l2 z6 z7⟩,
 ⟨233,[0,1,4,12,13,14],[],320,[.f 1,.f 1,.one (.cb false),.z,.z,.b],[],fun n l1 l2 z6 z7 b8=>Q3 n l1 l2 z6 z7 b8⟩,
 ⟨7475,[0,1,4,12,13,24],[],672,[.f 1,.f 1,.one (.cb false),.z,.z,.b],[],fun n l1 l2 z6 z7 b13=>Uj n l1 l2 z6 z7 b13⟩]⟩
noncomputable def oL:Kz:=sg oJ [] Tryz.func139 (by kernel_rfl) (by kernel_rfl) (by kernel_rfl)
def Ze (n:Nat) (s1:BA) (l2:LD) (s3:BA) (l4:LD):Option (Bool):=
 (if s1=s3 then bO1 (Zd n l2 l4) fun b5=>some b5 else some false)
noncomputable def oM:BS:=⟨117,Tryz.f117,[.agg [.str,.f 1],.agg [.str,.f 1]],[],⟨.one (.b),[],[]⟩,Bool,inferInstance,Ze,[]⟩
noncomputable def oO:Kz:=sg oM [oL] Tryz.func117 (by kernel_rfl) (by kernel_rfl) (by kernel_rfl)
mutual
def NA:Nat->LD->LD->Bool->Option (Bool)
 | 0,_,_,_=>none
 | n+1,l1,l2,b5=>
  (if b5=true then some false else AB l1 fun z6=>Q4 n l1 l2 z6 (0:Int))
def Q4:Nat->LD->LD->Int->Int->Option (Bool)
 | 0,_,_,_,_=>none
 | n+1,l1,l2,z6,z7=>
  (if z7<z6 then Q5 n l1 l2 z6 z7 true else Q5 n l1 l2 z6 z7 false)
def Q5:Nat->LD->LD->Int->Int->Bool->Option (Bool)
 | 0,_,_,_,_,_=>none
 | n+1,l1,l2,z6,z7,b8=>
  (if b8=true then Ae l1 z7 fun x9=>Ao x9 fun z10 z11 s12 s13 s14 l15 l16 z17=>Ae l2 z7 fun x18=>Ao x18 fun z19 z20 s21 s22 s23 l24 l25 z26=>bO1 (fW n z10 z11 s12 s13 s14 l15 l16 z17 z19 z20 s21 s22 s23 l24 l25 z26) fun b27=>AI (!b27) fun b28=>(if b28=true then some false else AE (IntKind.wrap .i64 (z7+1)) fun z29=>Q4 n l1 l2 z6 z29)else some true)
def Zf:Nat->LD->LD->Option (Bool)
 | 0,_,_=>none
 | n+1,l1,l2=>
  AB l1 fun z3=>AB l2 fun z4=>(if z3=z4 then NA n l1 l2 false else NA n l1 l2 true)
def fW:Nat->Int->Int->BA->BA->BA->LD->LD->Int->Int->Int->BA->BA->BA->LD->LD->Int->Option (Bool)
 | 0,_,_,_,_,_,_,_,_,_,_,_,_,_,_,_,_=>none
 | n+1,z1,z2,s3,s4,s5,l6,l7,z8,z9,z10,s11,s12,s13,l14,l15,z16=>
  (if z1=z9 then (if z2=z10 then (if s3=s11 then (if s4=s12 then bO1 (Ze n s5 l6 s13 l14) fun b17=>(if b17=true then bO1 (Zf n l7 l15) fun b18=>some b18 else some false)else some false)else some false)else some false)else some false)
end
noncomputable def oP:BS:=⟨118,Tryz.f118,[.q 8,.q 8,.one (.fn 62 [])],[],⟨.one (.b),[],[]⟩,Bool,inferInstance,Zf,[⟨13,[0,1,2,6,14],[],192,[.q 8,.q 8,.one (.fn 62 []),.one (.cb false),.b],[],fun n l1 l2 b5=>NA n l1 l2 b5⟩,
 ⟨58,[1,2,6,15,16,17],[],288,[.q 8,.one (.fn 62 []),.one (.cb false),.q 8,.z,.z],[],fun n l2 l1 z6 z7=>Q4 n l1 l2 z6 z7⟩,
 ⟨233,[1,2,6,15,16,17,18],[],320,[.q 8,.one (.fn 62 []),.one (.cb false),.q 8,.z,.z,.b],[],fun n l2 l1 z6 z7 b8=>Q5 n l1 l2 z6 z7 b8⟩]⟩
noncomputable def rO:BS:=⟨62,Tryz.f62,[.agg [.y,.z,.str,.str,.str,.f 1,.q 8,.z],.agg [.y,.z,.str,.str,.str,.f 1,.q 8,.z]],[],⟨.one (.b),[],[]⟩,Bool,inferInstance,fW,[]⟩
theorem oQ:CF Tryz.prog inv (KU [oP,rO]):=gr [oO] ⟨⟨Tryz.func118,by kernel_rfl,by kernel_rfl,by kernel_rfl⟩,⟨Tryz.func62,by kernel_rfl,by kernel_rfl,by kernel_rfl⟩,trivial⟩
noncomputable def uM:Kz:=⟨rO.c,oQ.2.1⟩
theorem uN (n:Nat):∀⦃z1 z2 s3 s4 s5 l6 l7 z8 z9 z10 s11 s12 s13 l14 l15 z16 r1⦄,fW n z1 z2 s3 s4 s5 l6 l7 z8 z9 z10 s11 s12 s13 l14 l15 z16=some r1->
  BB Tryz.prog inv 62 [.d (.agg [.int .u8 z1,.int .i64 z2,.str s3,.str s4,.str s5,.list false 1 l6,.list true 8 l7,.int .i64 z8]),.d (.agg [.int .u8 z9,.int .i64 z10,.str s11,.str s12,.str s13,.list false 1 l14,.list true 8 l15,.int .i64 z16])] [] (.v (.d (.bool r1))) [] []:=fun z1 z2 s3 s4 s5 l6 l7 z8 z9 z10 s11 s12 s13 l14 l15 z16 r1 h=>uM.ok n [.I z1,.I z2,.S s3,.S s4,.S s5,.L l6,.L l7,.I z8,.I z9,.I z10,.S s11,.S s12,.S s13,.L l14,.L l15,.I z16] _ h _ _ _ _ _ _ rfl rfl rfl rfl _ rfl
def Wj (n:Nat) (z1:Int) (z2:Int) (s3:BA) (s4:BA) (s5:BA) (l6:LD) (l7:LD) (z8:Int):Option (Bool):=
 (if z1=(5:Int)then some true else (if z1=(6:Int)then some true else some false))
noncomputable def uO:BS:=⟨53,Tryz.f53,[.agg [.y,.z,.str,.str,.str,.f 1,.q 8,.z]],[],⟨.one (.b),[],[]⟩,Bool,inferInstance,Wj,[]⟩
noncomputable def rP:Kz:=sg uO [] Tryz.func53 (by kernel_rfl) (by kernel_rfl) (by kernel_rfl)
theorem fX (n:Nat):∀⦃z1 z2 s3 s4 s5 l6 l7 z8 r1⦄,Wj n z1 z2 s3 s4 s5 l6 l7 z8=some r1->
  BB Tryz.prog inv 53 [.d (.agg [.int .u8 z1,.int .i64 z2,.str s3,.str s4,.str s5,.list false 1 l6,.list true 8 l7,.int .i64 z8])] [] (.v (.d (.bool r1))) [] []:=fun z1 z2 s3 s4 s5 l6 l7 z8 r1 h=>rP.ok n [.I z1,.I z2,.S s3,.S s4,.S s5,.L l6,.L l7,.I z8] _ h _ _ _ _ _ _ rfl rfl rfl rfl _ rfl
def YF (n:Nat) (z1:Int) (s2:BA) (l3:LD):Option (Bool):=
 (if z1=(0:Int)then (if s2=ByteArray.empty then AB l3 fun z4=>(if z4=(0:Int)then some true else some false)else some false)else some false)
noncomputable def uP:BS:=⟨72,Tryz.f72,[.agg [.y,.str,.q 3]],[],⟨.one (.b),[],[]⟩,Bool,inferInstance,YF,[]⟩
noncomputable def rQ:Kz:=sg uP [] Tryz.func72 (by kernel_rfl) (by kernel_rfl) (by kernel_rfl)
theorem oS (n:Nat):∀⦃z1 s2 l3 r1⦄,YF n z1 s2 l3=some r1->
  BB Tryz.prog inv 72 [.d (.agg [.int .u8 z1,.str s2,.list true 3 l3])] [] (.v (.d (.bool r1))) [] []:=fun z1 s2 l3 r1 h=>rQ.ok n [.I z1,.S s2,.L l3] _ h _ _ _ _ _ _ rfl rfl rfl rfl _ rfl
def Uk (n:Nat) (s1:BA):Option (Bool):=
 (if s1=ByteArray.empty then some false else Ns s1 fun z2=>(if z2<=(16:Int)then Tu s1 (0:Int) fun z3=>bO1 (YC n z3) fun b4=>(if b4=true then bO1 (Sp n s1) fun z5=>Ns s1 fun z6=>(if z5=z6 then bO1 (M8 n s1) fun b7=>AI (!b7) fun b8=>some b8 else some false)else some false)else some false))
noncomputable def dC:BS:=⟨121,Tryz.f121,[.s,.one (.fn 123 [])],[],⟨.one (.b),[],[]⟩,Bool,inferInstance,Uk,[]⟩
noncomputable def dD:Kz:=sg dC [iY,iZ,jA] Tryz.func121 (by kernel_rfl) (by kernel_rfl) (by kernel_rfl)
def Vg (n:Nat) (s1:BA):Option (Bool):=
 bO1 (Uk n s1) fun b2=>some b2
noncomputable def uQ:BS:=⟨74,Tryz.f74,[.s],[],⟨.one (.b),[],[]⟩,Bool,inferInstance,Vg,[]⟩
noncomputable def fY:Kz:=sg uQ [dD] Tryz.func74 (by kernel_rfl) (by kernel_rfl) (by kernel_rfl)
theorem rR (n:Nat):∀⦃s1 r1⦄,Vg n s1=some r1->
  BB Tryz.prog inv 74 [.d (.str s1)] [] (.v (.d (.bool r1))) [] []:=fun s1 r1 h=>fY.ok n [.S s1] _ h _ _ _ _ _ _ rfl rfl rfl rfl _ rfl
def fZ (n:Nat) (s1:BA) (z2:Int) (s3:BA) (l4:LD) (b5:Bool) (z6:Int):Option (Bool×Bool×Int):=
 bO1 (Vg n s1) fun b7=>(if b7=true then (if b5=true then bO1 (YF n z2 s3 l4) fun b8=>(if b8=true then some (true,true,z6)else AE (IntKind.wrap .i64 (z6 - 1)) fun z9=>bO1 (N4 n z2 s3 l4 z9) fun b10=>some (b10,true,z6))else AE (IntKind.wrap .i64 (z6 - 1)) fun z11=>bO1 (N4 n z2 s3 l4 z11) fun b12=>some (b12,false,z6))else some (false,b5,z6))
theorem uR (n:Nat):∀⦃s1 z2 s3 l4 b5 z6 r1 r2 r3⦄,fZ n s1 z2 s3 l4 b5 z6=some (r1,r2,r3)->
    BB Tryz.prog inv 71 [.d (.agg [.str s1,.int .u8 z2,.str s3,.list true 3 l4]),.c (.ptr (.ext 0) 0),.c (.ptr (.ext 1) 0),.c (.ptr (.ext 2) 0)] [.cells [.fn 74 []],.cells [.d (.bool b5)],.cells [.d (.int .i64 z6)]] (.v (.d (.bool r1))) [.cells [.fn 74 []],.cells [.d (.bool r2)],.cells [.d (.int .i64 r3)]] []:=by
 intro s1 z2 s3 l4 b5 z6 r1 r2 r3 h
 unfold fZ at h
 refine BB.of BU BK Ht Tryz.func71 rfl (by kernel_rfl) rfl rfl rfl (fun M hM hI=>?_)
 try cbv
 refine AD ?_
 try cbv
 refine AD ?_
 try cbv
 replace h:=Ai h
 obtain⟨b7,hr,h⟩:=h
 refine An rfl rfl ?_
 try cbv
 refine AU hM hI (rR _ hr) rfl ?_
 clear hr
 try cbv
 cases b7
 ·replace h:=Bz h
  try cbv
  obtain⟨rfl,rfl,rfl⟩:=QR h
  refine AZ ?_
  try cbv
  exact⟨[],rfl,rfl,⟨rfl,⟨rfl,⟨rfl,trivial⟩⟩⟩,trivial,trivial⟩
 replace h:=Bx h
 try cbv
 cases b5
 ·replace h:=Bz h
  try cbv
  replace h:=Aa h
  obtain⟨z11,hz,h⟩:=h
  refine⟨z11,hz,?_⟩
  clear hz
  try cbv
  replace h:=Ai h
  obtain⟨b12,hr,h⟩:=h
  refine An rfl rfl ?_
  try cbv
  refine AU hM hI (fV _ hr) rfl ?_
  clear hr
  try cbv
  obtain⟨rfl,rfl,rfl⟩:=QR h
  refine AZ ?_
  try cbv
  exact⟨[],rfl,rfl,⟨rfl,⟨rfl,⟨rfl,trivial⟩⟩⟩,trivial,trivial⟩
 replace h:=Bx h
 try cbv
 replace h:=Ai h
 obtain⟨b8,hr,h⟩:=h
 refine An rfl rfl ?_
 try cbv
 refine AU hM hI (oS _ hr) rfl ?_
 clear hr
 try cbv
 cases b8
 ·replace h:=Bz h
  try cbv
  replace h:=Aa h
  obtain⟨z9,hz,h⟩:=h
  refine⟨z9,hz,?_⟩
  clear hz
  try cbv
  replace h:=Ai h
  obtain⟨b10,hr,h⟩:=h
  refine An rfl rfl ?_
  try cbv
  refine AU hM hI (fV _ hr) rfl ?_
  clear hr
  try cbv
  obtain⟨rfl,rfl,rfl⟩:=QR h
  refine AZ ?_
  try cbv
  exact⟨[],rfl,rfl,⟨rfl,⟨rfl,⟨rfl,trivial⟩⟩⟩,trivial,trivial⟩
 replace h:=Bx h
 try cbv
 obtain⟨rfl,rfl,rfl⟩:=QR h
 refine AZ ?_
 try cbv
 exact⟨[],rfl,rfl,⟨rfl,⟨rfl,⟨rfl,trivial⟩⟩⟩,trivial,trivial⟩
noncomputable def uS:BW:=⟨71,[.agg [.str,.y,.str,.q 3],.p (.ext 0) 0,.p (.ext 1) 0,.p (.ext 2) 0],[[.fn 74 []],[.bool],[.z]],[⟨.one (.b),[[.fn 74 []],[.bool],[.z]],[]⟩],Bool×Bool×Int,inferInstance,fZ⟩
noncomputable def uT:Kz:=⟨uS,fun n=>Di fun s1 z2 s3 l4 b5 z6 p h w1 w2 w4 w3 l1 l2 e1 e2 e5 e3 xs e4=>by cases e1;cases e2;cases e4;cases e5;cases e3;exact uR n h⟩
mutual
def JO:Nat->LD->Int->Int->Bool->Int->Option (Bool×Bool×Int)
 | 0,_,_,_,_,_=>none
 | n+1,l1,z2,z5,b6,z7=>
  AB l1 fun z8=>(if z5<z8 then (if z5<z2 then K4 n l1 z2 z5 b6 z7 true else K4 n l1 z2 z5 b6 z7 false)else K4 n l1 z2 z5 b6 z7 false)
def K4:Nat->LD->Int->Int->Bool->Int->Bool->Option (Bool×Bool×Int)
 | 0,_,_,_,_,_,_=>none
 | n+1,l1,z2,z5,b6,z7,b9=>
  (if b9=true then Ae l1 z5 fun x10=>Bl x10 fun s11 z12 s13 l14=>bO3 (fZ n s11 z12 s13 l14 b6 z7) fun b15 b16 z17=>AI (!b15) fun b18=>(if b18=true then some (false,b16,z17)else AE (IntKind.wrap .i64 (z5+1)) fun z19=>JO n l1 z2 z19 b16 z17)else AB l1 fun z20=>(if z20<=z2 then some (true,b6,z7)else some (false,b6,z7)))
end
def mR (n:Nat) (l1:LD) (z2:Int) (b3:Bool) (z4:Int):Option (Bool×Bool×Int):=
 JO n l1 z2 (0:Int) b3 z4
noncomputable def uU:BS:=⟨70,Tryz.f70,[.q 4,.z,.one (.fn 71 [.ext 0,.ext 1,.ext 2])],[[.fn 74 []],[.bool],[.z]],⟨.one (.b),[[.fn 74 []],[.bool],[.z]],[]⟩,Bool×Bool×Int,inferInstance,mR,[⟨26,[0,1,2,6,7],[.ext 0,.ext 1,.ext 2],64,[.q 4,.z,.one (.fn 71 [.ext 0,.ext 1,.ext 2]),.one (.cb false),.z],[[.fn 74 []],[.bool],[.z]],fun n l1 z2 z5 b6 z7=>JO n l1 z2 z5 b6 z7⟩,
 ⟨209,[0,1,2,6,7,16],[.ext 0,.ext 1,.ext 2],352,[.q 4,.z,.one (.fn 71 [.ext 0,.ext 1,.ext 2]),.one (.cb false),.z,.b],[[.fn 74 []],[.bool],[.z]],fun n l1 z2 z5 b9 b6 z7=>K4 n l1 z2 z5 b6 z7 b9⟩]⟩
noncomputable def uV:Kz:=sg uU [uT] Tryz.func70 (by kernel_rfl) (by kernel_rfl) (by kernel_rfl)
def jB (n:Nat) (b1:Bool) (z2:Int) (s3:BA) (l4:LD) (z5:Int) (s6:BA) (l7:LD) (l8:LD) (z9:Int) (z10:Int) (s11:BA) (s12:BA) (s13:BA) (l14:LD) (l15:LD) (z16:Int) (z17:Int) (z18:Int):Option (Bool×Int×BA×LD×Int×BA×LD×LD×Int×Int×BA×BA×BA×LD×LD×Int×Int×Int):=
 bO3 (mR n l4 (6:Int) b1 z18) fun b19 b20 z21=>some (b19,z2,s3,l4,z5,s6,l7,l8,z9,z10,s11,s12,s13,l14,l15,z16,z17,z21)
noncomputable def uW:BS:=⟨69,Tryz.f69,[.one (.fn 74 []),.b,.p (.ext 0) 0,.p (.ext 1) 0],[[.y,.str,.q 4,.y,.str,.q 3,.q 15,.y,.z,.str,.str,.str,.f 1,.q 8,.z,.z],[.z]],⟨.one (.b),[[.y,.str,.q 4,.y,.str,.q 3,.q 15,.y,.z,.str,.str,.str,.f 1,.q 8,.z,.z],[.z]],[]⟩,Bool×Int×BA×LD×Int×BA×LD×LD×Int×Int×BA×BA×BA×LD×LD×Int×Int×Int,inferInstance,jB,[]⟩
noncomputable def uX:Kz:=sg uW [uV] Tryz.func69 (by kernel_rfl) (by kernel_rfl) (by kernel_rfl)
theorem rS (n:Nat):∀⦃b1 z2 s3 l4 z5 s6 l7 l8 z9 z10 s11 s12 s13 l14 l15 z16 z17 z18 r1 r2 r3 r4 r5 r6 r7 r8 r9 r10 r11 r12 r13 r14 r15 r16 r17 r18⦄,jB n b1 z2 s3 l4 z5 s6 l7 l8 z9 z10 s11 s12 s13 l14 l15 z16 z17 z18=some (r1,r2,r3,r4,r5,r6,r7,r8,r9,r10,r11,r12,r13,r14,r15,r16,r17,r18)->
  BB Tryz.prog inv 69 [.c (.fn 74 []),.d (.bool b1),.c (.ptr (.ext 0) 0),.c (.ptr (.ext 1) 0)] [.cells [.d (.int .u8 z2),.d (.str s3),.d (.list true 4 l4),.d (.int .u8 z5),.d (.str s6),.d (.list true 3 l7),.d (.list true 15 l8),.d (.int .u8 z9),.d (.int .i64 z10),.d (.str s11),.d (.str s12),.d (.str s13),.d (.list false 1 l14),.d (.list true 8 l15),.d (.int .i64 z16),.d (.int .i64 z17)],.cells [.d (.int .i64 z18)]] (.v (.d (.bool r1))) [.cells [.d (.int .u8 r2),.d (.str r3),.d (.list true 4 r4),.d (.int .u8 r5),.d (.str r6),.d (.list true 3 r7),.d (.list true 15 r8),.d (.int .u8 r9),.d (.int .i64 r10),.d (.str r11),.d (.str r12),.d (.str r13),.d (.list false 1 r14),.d (.list true 8 r15),.d (.int .i64 r16),.d (.int .i64 r17)],.cells [.d (.int .i64 r18)]] []:=fun b1 z2 s3 l4 z5 s6 l7 l8 z9 z10 s11 s12 s13 l14 l15 z16 z17 z18 r1 r2 r3 r4 r5 r6 r7 r8 r9 r10 r11 r12 r13 r14 r15 r16 r17 r18 h=>uX.ok n [.B b1,.I z2,.S s3,.L l4,.I z5,.S s6,.L l7,.L l8,.I z9,.I z10,.S s11,.S s12,.S s13,.L l14,.L l15,.I z16,.I z17,.I z18] _ h _ _ _ _ _ _ rfl rfl rfl rfl _ rfl
def O9 (n:Nat) (s1:BA) (z2:Int) (s3:BA) (l4:LD) (b5:Bool) (z6:Int):Option (Bool×Bool×Int):=
 bO1 (Wv n s1) fun b7=>(if b7=true then (if b5=true then bO1 (YF n z2 s3 l4) fun b8=>(if b8=true then some (true,true,z6)else AE (IntKind.wrap .i64 (z6 - 1)) fun z9=>bO1 (N4 n z2 s3 l4 z9) fun b10=>some (b10,true,z6))else AE (IntKind.wrap .i64 (z6 - 1)) fun z11=>bO1 (N4 n z2 s3 l4 z11) fun b12=>some (b12,false,z6))else some (false,b5,z6))
theorem jC (n:Nat):∀⦃s1 z2 s3 l4 b5 z6 r1 r2 r3⦄,O9 n s1 z2 s3 l4 b5 z6=some (r1,r2,r3)->
    BB Tryz.prog inv 71 [.d (.agg [.str s1,.int .u8 z2,.str s3,.list true 3 l4]),.c (.ptr (.ext 0) 0),.c (.ptr (.ext 1) 0),.c (.ptr (.ext 2) 0)] [.cells [.fn 73 []],.cells [.d (.bool b5)],.cells [.d (.int .i64 z6)]] (.v (.d (.bool r1))) [.cells [.fn 73 []],.cells [.d (.bool r2)],.cells [.d (.int .i64 r3)]] []:=by
 intro s1 z2 s3 l4 b5 z6 r1 r2 r3 h
 unfold O9 at h
 refine BB.of BU BK Ht Tryz.func71 rfl (by kernel_rfl) rfl rfl rfl (fun M hM hI=>?_)
 try cbv
 refine AD ?_
 try cbv
 refine AD ?_
 try cbv
 replace h:=Ai h
 obtain⟨b7,hr,h⟩:=h
 refine An rfl rfl ?_
 try cbv
 refine AU hM hI (oH _ hr) rfl ?_
 clear hr
 try cbv
 cases b7
 ·replace h:=Bz h
  try cbv
  obtain⟨rfl,rfl,rfl⟩:=QR h
  refine AZ ?_
  try cbv
  exact⟨[],rfl,rfl,⟨rfl,⟨rfl,⟨rfl,trivial⟩⟩⟩,trivial,trivial⟩
 replace h:=Bx h
 try cbv
 cases b5
 ·replace h:=Bz h
  try cbv
  replace h:=Aa h
  obtain⟨z11,hz,h⟩:=h
  refine⟨z11,hz,?_⟩
  clear hz
  try cbv
  replace h:=Ai h
  obtain⟨b12,hr,h⟩:=h
  refine An rfl rfl ?_
  try cbv
  refine AU hM hI (fV _ hr) rfl ?_
  clear hr
  try cbv
  obtain⟨rfl,rfl,rfl⟩:=QR h
  refine AZ ?_
  try cbv
  exact⟨[],rfl,rfl,⟨rfl,⟨rfl,⟨rfl,trivial⟩⟩⟩,trivial,trivial⟩
 replace h:=Bx h
 try cbv
 replace h:=Ai h
 obtain⟨b8,hr,h⟩:=h
 refine An rfl rfl ?_
 try cbv
 refine AU hM hI (oS _ hr) rfl ?_
 clear hr
 try cbv
 cases b8
 ·replace h:=Bz h
  try cbv
  replace h:=Aa h
  obtain⟨z9,hz,h⟩:=h
  refine⟨z9,hz,?_⟩
  clear hz
  try cbv
  replace h:=Ai h
  obtain⟨b10,hr,h⟩:=h
  refine An rfl rfl ?_
  try cbv
  refine AU hM hI (fV _ hr) rfl ?_
  clear hr
  try cbv
  obtain⟨rfl,rfl,rfl⟩:=QR h
  refine AZ ?_
  try cbv
  exact⟨[],rfl,rfl,⟨rfl,⟨rfl,⟨rfl,trivial⟩⟩⟩,trivial,trivial⟩
 replace h:=Bx h
 try cbv
 obtain⟨rfl,rfl,rfl⟩:=QR h
 refine AZ ?_
 try cbv
 exact⟨[],rfl,rfl,⟨rfl,⟨rfl,⟨rfl,trivial⟩⟩⟩,trivial,trivial⟩
noncomputable def jD:BW:=⟨71,[.agg [.str,.y,.str,.q 3],.p (.ext 0) 0,.p (.ext 1) 0,.p (.ext 2) 0],[[.fn 73 []],[.bool],[.z]],[⟨.one (.b),[[.fn 73 []],[.bool],[.z]],[]⟩],Bool×Bool×Int,inferInstance,O9⟩
noncomputable def jE:Kz:=⟨jD,fun n=>Di fun s1 z2 s3 l4 b5 z6 p h w1 w2 w4 w3 l1 l2 e1 e2 e5 e3 xs e4=>by cases e1;cases e2;cases e4;cases e5;cases e3;exact jC n h⟩
mutual
def EV:Nat->LD->Int->Int->Bool->Int->Option (Bool×Bool×Int)
 | 0,_,_,_,_,_=>none
 | n+1,l1,z2,z5,b6,z7=>
  AB l1 fun z8=>(if z5<z8 then (if z5<z2 then FB n l1 z2 z5 b6 z7 true else FB n l1 z2 z5 b6 z7 false)else FB n l1 z2 z5 b6 z7 false)
def FB:Nat->LD->Int->Int->Bool->Int->Bool->Option (Bool×Bool×Int)
 | 0,_,_,_,_,_,_=>none
 | n+1,l1,z2,z5,b6,z7,b9=>
  (if b9=true then Ae l1 z5 fun x10=>Bl x10 fun s11 z12 s13 l14=>bO3 (O9 n s11 z12 s13 l14 b6 z7) fun b15 b16 z17=>AI (!b15) fun b18=>(if b18=true then some (false,b16,z17)else AE (IntKind.wrap .i64 (z5+1)) fun z19=>EV n l1 z2 z19 b16 z17)else AB l1 fun z20=>(if z20<=z2 then some (true,b6,z7)else some (false,b6,z7)))
end
def Vh (n:Nat) (l1:LD) (z2:Int) (b3:Bool) (z4:Int):Option (Bool×Bool×Int):=
 EV n l1 z2 (0:Int) b3 z4
noncomputable def jF:BS:=⟨70,Tryz.f70,[.q 4,.z,.one (.fn 71 [.ext 0,.ext 1,.ext 2])],[[.fn 73 []],[.bool],[.z]],⟨.one (.b),[[.fn 73 []],[.bool],[.z]],[]⟩,Bool×Bool×Int,inferInstance,Vh,[⟨26,[0,1,2,6,7],[.ext 0,.ext 1,.ext 2],64,[.q 4,.z,.one (.fn 71 [.ext 0,.ext 1,.ext 2]),.one (.cb false),.z],[[.fn 73 []],[.bool],[.z]],fun n l1 z2 z5 b6 z7=>EV n l1 z2 z5 b6 z7⟩,
 ⟨209,[0,1,2,6,7,16],[.ext 0,.ext 1,.ext 2],352,[.q 4,.z,.one (.fn 71 [.ext 0,.ext 1,.ext 2]),.one (.cb false),.z,.b],[[.fn 73 []],[.bool],[.z]],fun n l1 z2 z5 b9 b6 z7=>FB n l1 z2 z5 b6 z7 b9⟩]⟩
noncomputable def jG:Kz:=sg jF [jE] Tryz.func70 (by kernel_rfl) (by kernel_rfl) (by kernel_rfl)
def Vi (n:Nat) (b1:Bool) (z2:Int) (s3:BA) (l4:LD) (z5:Int) (s6:BA) (l7:LD) (l8:LD) (z9:Int) (z10:Int) (s11:BA) (s12:BA) (s13:BA) (l14:LD) (l15:LD) (z16:Int) (z17:Int) (z18:Int):Option (Bool×Int×BA×LD×Int×BA×LD×LD×Int×Int×BA×BA×BA×LD×LD×Int×Int×Int):=
 bO3 (Vh n l4 (6:Int) b1 z18) fun b19 b20 z21=>some (b19,z2,s3,l4,z5,s6,l7,l8,z9,z10,s11,s12,s13,l14,l15,z16,z17,z21)
noncomputable def jH:BS:=⟨69,Tryz.f69,[.one (.fn 73 []),.b,.p (.ext 0) 0,.p (.ext 1) 0],[[.y,.str,.q 4,.y,.str,.q 3,.q 15,.y,.z,.str,.str,.str,.f 1,.q 8,.z,.z],[.z]],⟨.one (.b),[[.y,.str,.q 4,.y,.str,.q 3,.q 15,.y,.z,.str,.str,.str,.f 1,.q 8,.z,.z],[.z]],[]⟩,Bool×Int×BA×LD×Int×BA×LD×LD×Int×Int×BA×BA×BA×LD×LD×Int×Int×Int,inferInstance,Vi,[]⟩
noncomputable def jI:Kz:=sg jH [jG] Tryz.func69 (by kernel_rfl) (by kernel_rfl) (by kernel_rfl)
theorem jJ (n:Nat):∀⦃b1 z2 s3 l4 z5 s6 l7 l8 z9 z10 s11 s12 s13 l14 l15 z16 z17 z18 r1 r2 r3 r4 r5 r6 r7 r8 r9 r10 r11 r12 r13 r14 r15 r16 r17 r18⦄,Vi n b1 z2 s3 l4 z5 s6 l7 l8 z9 z10 s11 s12 s13 l14 l15 z16 z17 z18=some (r1,r2,r3,r4,r5,r6,r7,r8,r9,r10,r11,r12,r13,r14,r15,r16,r17,r18)->
  BB Tryz.prog inv 69 [.c (.fn 73 []),.d (.bool b1),.c (.ptr (.ext 0) 0),.c (.ptr (.ext 1) 0)] [.cells [.d (.int .u8 z2),.d (.str s3),.d (.list true 4 l4),.d (.int .u8 z5),.d (.str s6),.d (.list true 3 l7),.d (.list true 15 l8),.d (.int .u8 z9),.d (.int .i64 z10),.d (.str s11),.d (.str s12),.d (.str s13),.d (.list false 1 l14),.d (.list true 8 l15),.d (.int .i64 z16),.d (.int .i64 z17)],.cells [.d (.int .i64 z18)]] (.v (.d (.bool r1))) [.cells [.d (.int .u8 r2),.d (.str r3),.d (.list true 4 r4),.d (.int .u8 r5),.d (.str r6),.d (.list true 3 r7),.d (.list true 15 r8),.d (.int .u8 r9),.d (.int .i64 r10),.d (.str r11),.d (.str r12),.d (.str r13),.d (.list false 1 r14),.d (.list true 8 r15),.d (.int .i64 r16),.d (.int .i64 r17)],.cells [.d (.int .i64 r18)]] []:=fun b1 z2 s3 l4 z5 s6 l7 l8 z9 z10 s11 s12 s13 l14 l15 z16 z17 z18 r1 r2 r3 r4 r5 r6 r7 r8 r9 r10 r11 r12 r13 r14 r15 r16 r17 r18 h=>jI.ok n [.B b1,.I z2,.S s3,.L l4,.I z5,.S s6,.L l7,.L l8,.I z9,.I z10,.S s11,.S s12,.S s13,.L l14,.L l15,.I z16,.I z17,.I z18] _ h _ _ _ _ _ _ rfl rfl rfl rfl _ rfl
def D3:Nat->Bool->Option (((Int×Int×Bool×Bool×Bool×Bool×Bool) ⊕ ((Int×Bool×Bool×Bool) ⊕ ((Unit) ⊕ ((Unit) ⊕ (Unit))))))
 | 0,_=>none
 | n+1,b29=>
  (if b29=true then some (.inr (.inr (.inr (.inr ()))))else some (.inl ((0:Int),(0:Int),false,false,false,false,false)))
def D4:Nat->Int->Bool->Option (((Int×Int×Bool×Bool×Bool×Bool×Bool) ⊕ ((Int×Bool×Bool×Bool) ⊕ ((Unit) ⊕ ((Unit) ⊕ (Unit))))))
 | 0,_,_=>none
 | n+1,z1,b28=>
  (if b28=true then some (.inr (.inl ((0:Int),true,true,false)))else (if z1=(12:Int)then D3 n true else D3 n false))
def D5:Nat->Int->LD->Bool->Option (((Int×Int×Bool×Bool×Bool×Bool×Bool) ⊕ ((Int×Bool×Bool×Bool) ⊕ ((Unit) ⊕ ((Unit) ⊕ (Unit))))))
 | 0,_,_,_=>none
 | n+1,z1,l4,b26=>
  (if b26=true then AB l4 fun z27=>some (.inl ((6:Int),z27,false,true,false,true,true))else (if z1=(11:Int)then D4 n z1 true else D4 n z1 false))
def Da:Nat->Int->LD->Bool->Option (((Int×Int×Bool×Bool×Bool×Bool×Bool) ⊕ ((Int×Bool×Bool×Bool) ⊕ ((Unit) ⊕ ((Unit) ⊕ (Unit))))))
 | 0,_,_,_=>none
 | n+1,z1,l4,b25=>
  (if b25=true then some (.inl ((0:Int),(0:Int),false,true,false,false,true))else (if z1=(10:Int)then D5 n z1 l4 true else D5 n z1 l4 false))
def FL:Nat->Int->LD->Bool->Option (((Int×Int×Bool×Bool×Bool×Bool×Bool) ⊕ ((Int×Bool×Bool×Bool) ⊕ ((Unit) ⊕ ((Unit) ⊕ (Unit))))))
 | 0,_,_,_=>none
 | n+1,z1,l4,b24=>
  (if b24=true then Da n z1 l4 true else (if z1=(13:Int)then Da n z1 l4 true else Da n z1 l4 false))
def FM:Nat->Int->LD->Bool->Option (((Int×Int×Bool×Bool×Bool×Bool×Bool) ⊕ ((Int×Bool×Bool×Bool) ⊕ ((Unit) ⊕ ((Unit) ⊕ (Unit))))))
 | 0,_,_,_=>none
 | n+1,z1,l4,b23=>
  (if b23=true then some (.inr (.inr (.inr (.inl ()))))else (if z1=(9:Int)then FL n z1 l4 true else FL n z1 l4 false))
def FO:Nat->Int->LD->Bool->Option (((Int×Int×Bool×Bool×Bool×Bool×Bool) ⊕ ((Int×Bool×Bool×Bool) ⊕ ((Unit) ⊕ ((Unit) ⊕ (Unit))))))
 | 0,_,_,_=>none
 | n+1,z1,l4,b22=>
  (if b22=true then some (.inl ((0:Int),(1:Int),false,true,false,false,true))else (if z1=(8:Int)then FM n z1 l4 true else FM n z1 l4 false))
def FP:Nat->Int->LD->Bool->Option (((Int×Int×Bool×Bool×Bool×Bool×Bool) ⊕ ((Int×Bool×Bool×Bool) ⊕ ((Unit) ⊕ ((Unit) ⊕ (Unit))))))
 | 0,_,_,_=>none
 | n+1,z1,l4,b21=>
  (if b21=true then some (.inl ((0:Int),(1:Int),false,true,true,false,true))else (if z1=(7:Int)then FO n z1 l4 true else FO n z1 l4 false))
def FQ:Nat->Int->LD->Bool->Option (((Int×Int×Bool×Bool×Bool×Bool×Bool) ⊕ ((Int×Bool×Bool×Bool) ⊕ ((Unit) ⊕ ((Unit) ⊕ (Unit))))))
 | 0,_,_,_=>none
 | n+1,z1,l4,b20=>
  (if b20=true then some (.inr (.inl ((0:Int),false,false,false)))else (if z1=(6:Int)then FP n z1 l4 true else FP n z1 l4 false))
def FR:Nat->Int->LD->Bool->Option (((Int×Int×Bool×Bool×Bool×Bool×Bool) ⊕ ((Int×Bool×Bool×Bool) ⊕ ((Unit) ⊕ ((Unit) ⊕ (Unit))))))
 | 0,_,_,_=>none
 | n+1,z1,l4,b19=>
  (if b19=true then some (.inl ((0:Int),(1:Int),false,false,false,false,true))else (if z1=(5:Int)then FQ n z1 l4 true else FQ n z1 l4 false))
def FT:Nat->Int->LD->Bool->Option (((Int×Int×Bool×Bool×Bool×Bool×Bool) ⊕ ((Int×Bool×Bool×Bool) ⊕ ((Unit) ⊕ ((Unit) ⊕ (Unit))))))
 | 0,_,_,_=>none
 | n+1,z1,l4,b18=>
  (if b18=true then some (.inl ((0:Int),(1:Int),true,false,false,false,true))else (if z1=(4:Int)then FR n z1 l4 true else FR n z1 l4 false))
def FU:Nat->Int->LD->Bool->Option (((Int×Int×Bool×Bool×Bool×Bool×Bool) ⊕ ((Int×Bool×Bool×Bool) ⊕ ((Unit) ⊕ ((Unit) ⊕ (Unit))))))
 | 0,_,_,_=>none
 | n+1,z1,l4,b17=>
  (if b17=true then some (.inr (.inr (.inl ())))else (if z1=(3:Int)then FT n z1 l4 true else FT n z1 l4 false))
def FV:Nat->Int->LD->Bool->Option (((Int×Int×Bool×Bool×Bool×Bool×Bool) ⊕ ((Int×Bool×Bool×Bool) ⊕ ((Unit) ⊕ ((Unit) ⊕ (Unit))))))
 | 0,_,_,_=>none
 | n+1,z1,l4,b16=>
  (if b16=true then some (.inr (.inl ((1:Int),false,false,true)))else (if z1=(2:Int)then FU n z1 l4 true else FU n z1 l4 false))
def JP (n:Nat) (z1:Int) (s2:BA) (s3:BA) (l4:LD) (z5:Int) (s6:BA) (l7:LD) (z8:Int) (s9:BA) (l10:LD) (l11:LD) (l12:LD) (l13:LD) (l14:LD) (z15:Int):Option (((Int×Int×Bool×Bool×Bool×Bool×Bool) ⊕ ((Int×Bool×Bool×Bool) ⊕ ((Unit) ⊕ ((Unit) ⊕ (Unit)))))):=
 (if z1=(1:Int)then FV n z1 l4 true else FV n z1 l4 false)
theorem oT (n:Nat):∀⦃z1 s2 s3 l4 z5 s6 l7 z8 s9 l10 l11 l12 l13 l14 z15 r⦄,JP n z1 s2 s3 l4 z5 s6 l7 z8 s9 l10 l11 l12 l13 l14 z15=some r->∀Q:AV->List AH->List AH->Prop,(match r with | .inl (r1,r2,r3,r4,r5,r6,r7)=>Q (.t [.agg [.d (.int .i64 r1),.d (.int .i64 r2),.d (.bool false),.d (.bool r3),.d (.bool r4),.d (.bool r5),.d (.bool false),.d (.bool r6),.fn 145 [],.fn 145 []],.d (.bool r7)]) [] [] | .inr (.inl (r1,r2,r3,r4))=>Q (.t [.agg [.d (.int .i64 0),.d (.int .i64 r1),.d (.bool false),.d (.bool r2),.d (.bool r3),.d (.bool false),.d (.bool false),.d (.bool r4),.fn 74 [],.fn 145 []],.d (.bool true)]) [] [] | .inr (.inr (.inl _))=>Q (.t [.agg [.d (.int .i64 6),.d (.int .i64 1),.d (.bool false),.d (.bool false),.d (.bool false),.d (.bool false),.d (.bool false),.d (.bool false),.fn 73 [],.fn 145 []],.d (.bool true)]) [] [] | .inr (.inr (.inr (.inl _)))=>Q (.t [.agg [.d (.int .i64 0),.d (.int .i64 0),.d (.bool false),.d (.bool false),.d (.bool false),.d (.bool false),.d (.bool true),.d (.bool false),.fn 74 [],.fn 73 []],.d (.bool true)]) [] [] | .inr (.inr (.inr (.inr _)))=>Q (.t [.agg [.d (.int .i64 0),.d (.int .i64 0),.d (.bool true),.d (.bool false),.d (.bool false),.d (.bool false),.d (.bool false),.d (.bool false),.fn 74 [],.fn 74 []],.d (.bool true)]) [] [])->
    Dh Tryz.prog inv 124 [.d (.agg [.int .u8 z1,.str s2,.str s3,.list false 1 l4,.int .u8 z5,.str s6,.list true 3 l7,.int .i64 z8,.str s9,.list false 1 l10,.list true 8 l11,.list true 15 l12,.list true 15 l13,.list true 3 l14,.int .i64 z15])] [] Q:=by
 intro z1 s2 s3 l4 z5 s6 l7 z8 s9 l10 l11 l12 l13 l14 z15 r h Q hQ
 unfold JP at h
 refine Dh.of BU BK Ht Tryz.func124 rfl (by kernel_rfl) rfl rfl rfl (fun M hM hI=>?_)
 try cbv
 refine AD ?_
 try cbv
 refine AD ?_
 try cbv
 refine AD ?_
 try cbv
 refine AD ?_
 try cbv
 refine AJ 9 [1,2,3,4,7,9] [.loc 0,.loc 32,.loc 128] 320 (fun m b=>m<=n/\FV m z1 l4 b=some r) ?_ ?_
 ·try cbv
  refine Ay (fun e=>?_) (fun e=>?_)
  ·replace h:=Ag e h
   clear e
   try cbv
   exact AA (n,true) [1,2,3,4,7,9] [.loc 0,.loc 32,.loc 128] 320 ⟨by omega,h⟩ (by cbv)
  replace h:=Ah e h
  clear e
  try cbv
  exact AA (n,false) [1,2,3,4,7,9] [.loc 0,.loc 32,.loc 128] 320 ⟨by omega,h⟩ (by cbv)
 clear h
 rintro⟨m1,b16⟩ ⟨hm1,h⟩
 try cbv
 replace hm1:m1<=n:=hm1
 obtain _ | m1:=m1
 ·replace h:FV 0 z1 l4 b16=some r:=h
  rw[FV]at h
  cases h
 replace h:FV (m1+1) z1 l4 b16=some r:=h
 rw[FV]at h
 try cbv
 cases b16
 rotate_left
 ·replace h:=Bx h
  try cbv
  refine AD ?_
  try cbv
  obtain rfl:=Option.some.inj h
  refine Ct hQ ?_
  try cbv
  exact⟨[],by trivial⟩
 replace h:=Bz h
 try cbv
 refine AJ 14 [1,2,3,4,7,14] [.loc 0,.loc 32,.loc 128] 384 (fun m b=>m<=m1/\FU m z1 l4 b=some r) ?_ ?_
 ·try cbv
  refine Ay (fun e=>?_) (fun e=>?_)
  ·replace h:=Ag e h
   clear e
   try cbv
   exact AA (m1,true) [1,2,3,4,7,14] [.loc 0,.loc 32,.loc 128] 384 ⟨by omega,h⟩ (by cbv)
  replace h:=Ah e h
  clear e
  try cbv
  exact AA (m1,false) [1,2,3,4,7,14] [.loc 0,.loc 32,.loc 128] 384 ⟨by omega,h⟩ (by cbv)
 clear h
 rintro⟨m2,b17⟩ ⟨hm2,h⟩
 try cbv
 replace hm2:m2<=m1:=hm2
 obtain _ | m2:=m2
 ·replace h:FU 0 z1 l4 b17=some r:=h
  rw[FU]at h
  cases h
 replace h:FU (m2+1) z1 l4 b17=some r:=h
 rw[FU]at h
 try cbv
 cases b17
 rotate_left
 ·replace h:=Bx h
  try cbv
  refine AD ?_
  try cbv
  obtain rfl:=Option.some.inj h
  refine Ct hQ ?_
  try cbv
  exact⟨[],by trivial⟩
 replace h:=Bz h
 try cbv
 refine AJ 19 [1,2,3,4,7,19] [.loc 0,.loc 32,.loc 128] 448 (fun m b=>m<=m2/\FT m z1 l4 b=some r) ?_ ?_
 ·try cbv
  refine Ay (fun e=>?_) (fun e=>?_)
  ·replace h:=Ag e h
   clear e
   try cbv
   exact AA (m2,true) [1,2,3,4,7,19] [.loc 0,.loc 32,.loc 128] 448 ⟨by omega,h⟩ (by cbv)
  replace h:=Ah e h
  clear e
  try cbv
  exact AA (m2,false) [1,2,3,4,7,19] [.loc 0,.loc 32,.loc 128] 448 ⟨by omega,h⟩ (by cbv)
 clear h
 rintro⟨m3,b18⟩ ⟨hm3,h⟩
 try cbv
 replace hm3:m3<=m2:=hm3
 obtain _ | m3:=m3
 ·replace h:FT 0 z1 l4 b18=some r:=h
  rw[FT]at h
  cases h
 replace h:FT (m3+1) z1 l4 b18=some r:=h
 rw[FT]at h
 try cbv
 cases b18
 rotate_left
 ·replace h:=Bx h
  try cbv
  refine AD ?_
  try cbv
  obtain rfl:=Option.some.inj h
  refine Ct hQ ?_
  try cbv
  exact⟨[],by trivial⟩
 replace h:=Bz h
 try cbv
 refine AJ 23 [1,2,3,4,7,23] [.loc 0,.loc 32,.loc 128] 512 (fun m b=>m<=m3/\FR m z1 l4 b=some r) ?_ ?_
 ·try cbv
  refine Ay (fun e=>?_) (fun e=>?_)
  ·replace h:=Ag e h
   clear e
   try cbv
   exact AA (m3,true) [1,2,3,4,7,23] [.loc 0,.loc 32,.loc 128] 512 ⟨by omega,h⟩ (by cbv)
  replace h:=Ah e h
  clear e
  try cbv
  exact AA (m3,false) [1,2,3,4,7,23] [.loc 0,.loc 32,.loc 128] 512 ⟨by omega,h⟩ (by cbv)
 clear h
 rintro⟨m4,b19⟩ ⟨hm4,h⟩
 try cbv
 replace hm4:m4<=m3:=hm4
 obtain _ | m4:=m4
 ·replace h:FR 0 z1 l4 b19=some r:=h
  rw[FR]at h
  cases h
 replace h:FR (m4+1) z1 l4 b19=some r:=h
 rw[FR]at h
 try cbv
 cases b19
 rotate_left
 ·replace h:=Bx h
  try cbv
  refine AD ?_
  try cbv
  obtain rfl:=Option.some.inj h
  refine Ct hQ ?_
  try cbv
  exact⟨[],by trivial⟩
 replace h:=Bz h
 try cbv
 refine AJ 26 [1,2,3,4,7,26] [.loc 0,.loc 32,.loc 128] 576 (fun m b=>m<=m4/\FQ m z1 l4 b=some r) ?_ ?_
 ·try cbv
  refine Ay (fun e=>?_) (fun e=>?_)
  ·replace h:=Ag e h
   clear e
   try cbv
   exact AA (m4,true) [1,2,3,4,7,26] [.loc 0,.loc 32,.loc 128] 576 ⟨by omega,h⟩ (by cbv)
  replace h:=Ah e h
  clear e
  try cbv
  exact AA (m4,false) [1,2,3,4,7,26] [.loc 0,.loc 32,.loc 128] 576 ⟨by omega,h⟩ (by cbv)
 clear h
 rintro⟨m5,b20⟩ ⟨hm5,h⟩
 try cbv
 replace hm5:m5<=m4:=hm5
 obtain _ | m5:=m5
 ·replace h:FQ 0 z1 l4 b20=some r:=h
  rw[FQ]at h
  cases h
 replace h:FQ (m5+1) z1 l4 b20=some r:=h
 rw[FQ]at h
 try cbv
 cases b20
 rotate_left
 ·replace h:=Bx h
  try cbv
  refine AD ?_
  try cbv
  obtain rfl:=Option.some.inj h
  refine Ct hQ ?_
  try cbv
  exact⟨[],by trivial⟩
 replace h:=Bz h
 try cbv
 refine AJ 29 [1,2,3,4,7,29] [.loc 0,.loc 32,.loc 128] 640 (fun m b=>m<=m5/\FP m z1 l4 b=some r) ?_ ?_
 ·try cbv
  refine Ay (fun e=>?_) (fun e=>?_)
  ·replace h:=Ag e h
   clear e
   try cbv
   exact AA (m5,true) [1,2,3,4,7,29] [.loc 0,.loc 32,.loc 128] 640 ⟨by omega,h⟩ (by cbv)
  replace h:=Ah e h
  clear e
  try cbv
  exact AA (m5,false) [1,2,3,4,7,29] [.loc 0,.loc 32,.loc 128] 640 ⟨by omega,h⟩ (by cbv)
 clear h
 rintro⟨m6,b21⟩ ⟨hm6,h⟩
 try cbv
 replace hm6:m6<=m5:=hm6
 obtain _ | m6:=m6
 ·replace h:FP 0 z1 l4 b21=some r:=h
  rw[FP]at h
  cases h
 replace h:FP (m6+1) z1 l4 b21=some r:=h
 rw[FP]at h
 try cbv
 cases b21
 rotate_left
 ·replace h:=Bx h
  try cbv
  refine AD ?_
  try cbv
  obtain rfl:=Option.some.inj h
  refine Ct hQ ?_
  try cbv
  exact⟨[],by trivial⟩
 replace h:=Bz h
 try cbv
 refine AJ 34 [1,2,3,4,7,34] [.loc 0,.loc 32,.loc 128] 704 (fun m b=>m<=m6/\FO m z1 l4 b=some r) ?_ ?_
 ·try cbv
  refine Ay (fun e=>?_) (fun e=>?_)
  ·replace h:=Ag e h
   clear e
   try cbv
   exact AA (m6,true) [1,2,3,4,7,34] [.loc 0,.loc 32,.loc 128] 704 ⟨by omega,h⟩ (by cbv)
  replace h:=Ah e h
  clear e
  try cbv
  exact AA (m6,false) [1,2,3,4,7,34] [.loc 0,.loc 32,.loc 128] 704 ⟨by omega,h⟩ (by cbv)
 clear h
 rintro⟨m7,b22⟩ ⟨hm7,h⟩
 try cbv
 replace hm7:m7<=m6:=hm7
 obtain _ | m7:=m7
 ·replace h:FO 0 z1 l4 b22=some r:=h
  rw[FO]at h
  cases h
 replace h:FO (m7+1) z1 l4 b22=some r:=h
 rw[FO]at h
 try cbv
 cases b22
 rotate_left
 ·replace h:=Bx h
  try cbv
  refine AD ?_
  try cbv
  obtain rfl:=Option.some.inj h
  refine Ct hQ ?_
  try cbv
  exact⟨[],by trivial⟩
 replace h:=Bz h
 try cbv
 refine AJ 38 [1,2,3,4,7,38] [.loc 0,.loc 32,.loc 128] 768 (fun m b=>m<=m7/\FM m z1 l4 b=some r) ?_ ?_
 ·try cbv
  refine Ay (fun e=>?_) (fun e=>?_)
  ·replace h:=Ag e h
   clear e
   try cbv
   exact AA (m7,true) [1,2,3,4,7,38] [.loc 0,.loc 32,.loc 128] 768 ⟨by omega,h⟩ (by cbv)
  replace h:=Ah e h
  clear e
  try cbv
  exact AA (m7,false) [1,2,3,4,7,38] [.loc 0,.loc 32,.loc 128] 768 ⟨by omega,h⟩ (by cbv)
 clear h
 rintro⟨m8,b23⟩ ⟨hm8,h⟩
 try cbv
 replace hm8:m8<=m7:=hm8
 obtain _ | m8:=m8
 ·replace h:FM 0 z1 l4 b23=some r:=h
  rw[FM]at h
  cases h
 replace h:FM (m8+1) z1 l4 b23=some r:=h
 rw[FM]at h
 try cbv
 cases b23
 rotate_left
 ·replace h:=Bx h
  try cbv
  refine AD ?_
  try cbv
  obtain rfl:=Option.some.inj h
  refine Ct hQ ?_
  try cbv
  exact⟨[],by trivial⟩
 replace h:=Bz h
 try cbv
 refine AJ 43 [1,2,3,4,7,43] [.loc 0,.loc 32,.loc 128] 896 (fun m b=>m<=m8/\Da m z1 l4 b=some r) ?_ ?_
 ·try cbv
  refine AJ 43 [1,2,3,4,7,43] [.loc 0,.loc 32,.loc 128] 832 (fun m b=>m<=m8/\FL m z1 l4 b=some r) ?_ ?_
  ·try cbv
   refine Ay (fun e=>?_) (fun e=>?_)
   ·replace h:=Ag e h
    clear e
    try cbv
    exact AA (m8,true) [1,2,3,4,7,43] [.loc 0,.loc 32,.loc 128] 832 ⟨by omega,h⟩ (by cbv)
   replace h:=Ah e h
   clear e
   try cbv
   exact AA (m8,false) [1,2,3,4,7,43] [.loc 0,.loc 32,.loc 128] 832 ⟨by omega,h⟩ (by cbv)
  clear h
  rintro⟨m9,b24⟩ ⟨hm9,h⟩
  try cbv
  replace hm9:m9<=m8:=hm9
  obtain _ | m9:=m9
  ·replace h:FL 0 z1 l4 b24=some r:=h
   rw[FL]at h
   cases h
  replace h:FL (m9+1) z1 l4 b24=some r:=h
  rw[FL]at h
  try cbv
  cases b24
  ·replace h:=Bz h
   try cbv
   refine Ay (fun e=>?_) (fun e=>?_)
   ·replace h:=Ag e h
    clear e
    try cbv
    exact AA (m9,true) [1,2,3,4,7,43] [.loc 0,.loc 32,.loc 128] 896 ⟨by omega,h⟩ (by cbv)
   replace h:=Ah e h
   clear e
   try cbv
   exact AA (m9,false) [1,2,3,4,7,43] [.loc 0,.loc 32,.loc 128] 896 ⟨by omega,h⟩ (by cbv)
  replace h:=Bx h
  try cbv
  exact AA (m9,true) [1,2,3,4,7,43] [.loc 0,.loc 32,.loc 128] 896 ⟨by omega,h⟩ (by cbv)
 clear h
 rintro⟨m10,b25⟩ ⟨hm10,h⟩
 try cbv
 replace hm10:m10<=m8:=hm10
 obtain _ | m10:=m10
 ·replace h:Da 0 z1 l4 b25=some r:=h
  rw[Da]at h
  cases h
 replace h:Da (m10+1) z1 l4 b25=some r:=h
 rw[Da]at h
 try cbv
 cases b25
 rotate_left
 ·replace h:=Bx h
  try cbv
  refine AD ?_
  try cbv
  obtain rfl:=Option.some.inj h
  refine Ct hQ ?_
  try cbv
  exact⟨[],by trivial⟩
 replace h:=Bz h
 try cbv
 refine AJ 47 [1,2,3,4,7,47] [.loc 0,.loc 32,.loc 128] 960 (fun m b=>m<=m10/\D5 m z1 l4 b=some r) ?_ ?_
 ·try cbv
  refine Ay (fun e=>?_) (fun e=>?_)
  ·replace h:=Ag e h
   clear e
   try cbv
   exact AA (m10,true) [1,2,3,4,7,47] [.loc 0,.loc 32,.loc 128] 960 ⟨by omega,h⟩ (by cbv)
  replace h:=Ah e h
  clear e
  try cbv
  exact AA (m10,false) [1,2,3,4,7,47] [.loc 0,.loc 32,.loc 128] 960 ⟨by omega,h⟩ (by cbv)
 clear h
 rintro⟨m11,b26⟩ ⟨hm11,h⟩
 try cbv
 replace hm11:m11<=m10:=hm11
 obtain _ | m11:=m11
 ·replace h:D5 0 z1 l4 b26=some r:=h
  rw[D5]at h
  cases h
 replace h:D5 (m11+1) z1 l4 b26=some r:=h
 rw[D5]at h
 try cbv
 cases b26
 rotate_left
 ·replace h:=Bx h
  try cbv
  replace h:=BQ M h
  obtain⟨z27,hz,h⟩:=h
  refine⟨z27,hz,?_⟩
  clear hz
  try cbv
  refine drawn ?_ ?_
  ·show _=true
   kernel_rfl
  try cbv
  refine AD ?_
  try cbv
  obtain rfl:=Option.some.inj h
  refine Ct hQ ?_
  try cbv
  exact⟨[],by trivial⟩
 replace h:=Bz h
 try cbv
 refine AJ 56 [2,3,4,7,56] [.loc 32,.loc 128] 1024 (fun m b=>m<=m11/\D4 m z1 b=some r) ?_ ?_
 ·try cbv
  refine Ay (fun e=>?_) (fun e=>?_)
  ·replace h:=Ag e h
   clear e
   try cbv
   exact AA (m11,true) [2,3,4,7,56] [.loc 32,.loc 128] 1024 ⟨by omega,h⟩ (by cbv)
  replace h:=Ah e h
  clear e
  try cbv
  exact AA (m11,false) [2,3,4,7,56] [.loc 32,.loc 128] 1024 ⟨by omega,h⟩ (by cbv)
 clear h
 rintro⟨m12,b28⟩ ⟨hm12,h⟩
 try cbv
 replace hm12:m12<=m11:=hm12
 obtain _ | m12:=m12
 ·replace h:D4 0 z1 b28=some r:=h
  rw[D4]at h
  cases h
 replace h:D4 (m12+1) z1 b28=some r:=h
 rw[D4]at h
 try cbv
 cases b28
 rotate_left
 ·replace h:=Bx h
  try cbv
  refine AD ?_
  try cbv
  obtain rfl:=Option.some.inj h
  refine Ct hQ ?_
  try cbv
  exact⟨[],by trivial⟩
 replace h:=Bz h
 try cbv
 refine AJ 61 [2,3,4,61] [.loc 32,.loc 128] 1088 (fun m b=>m<=m12/\D3 m b=some r) ?_ ?_
 ·try cbv
  refine Ay (fun e=>?_) (fun e=>?_)
  ·replace h:=Ag e h
   clear e
   try cbv
   exact AA (m12,true) [2,3,4,61] [.loc 32,.loc 128] 1088 ⟨by omega,h⟩ (by cbv)
  replace h:=Ah e h
  clear e
  try cbv
  exact AA (m12,false) [2,3,4,61] [.loc 32,.loc 128] 1088 ⟨by omega,h⟩ (by cbv)
 clear h
 rintro⟨m13,b29⟩ ⟨hm13,h⟩
 try cbv
 replace hm13:m13<=m12:=hm13
 obtain _ | m13:=m13
 ·replace h:D3 0 b29=some r:=h
  rw[D3]at h
  cases h
 replace h:D3 (m13+1) b29=some r:=h
 rw[D3]at h
 try cbv
 cases b29
 ·replace h:=Bz h
  try cbv
  refine AD ?_
  try cbv
  obtain rfl:=Option.some.inj h
  refine Ct hQ ?_
  try cbv
  exact⟨[],by trivial⟩
 replace h:=Bx h
 try cbv
 refine AD ?_
 try cbv
 obtain rfl:=Option.some.inj h
 refine Ct hQ ?_
 try cbv
 exact⟨[],by trivial⟩
noncomputable def oU:BW:=⟨124,[.agg [.y,.str,.str,.f 1,.y,.str,.q 3,.z,.str,.f 1,.q 8,.q 15,.q 15,.q 3,.z]],[],[⟨.tup [.mix [.z,.z,.cb false,.bool,.bool,.bool,.cb false,.bool,.fn 145 [],.fn 145 []],.b],[],[]⟩,⟨.tup [.mix [.k 0,.z,.cb false,.bool,.bool,.cb false,.cb false,.bool,.fn 74 [],.fn 145 []],.one (.cb true)],[],[]⟩,⟨.tup [.mix [.k 6,.k 1,.cb false,.cb false,.cb false,.cb false,.cb false,.cb false,.fn 73 [],.fn 145 []],.one (.cb true)],[],[]⟩,⟨.tup [.mix [.k 0,.k 0,.cb false,.cb false,.cb false,.cb false,.cb true,.cb false,.fn 74 [],.fn 73 []],.one (.cb true)],[],[]⟩,⟨.tup [.mix [.k 0,.k 0,.cb true,.cb false,.cb false,.cb false,.cb false,.cb false,.fn 74 [],.fn 74 []],.one (.cb true)],[],[]⟩],((Int×Int×Bool×Bool×Bool×Bool×Bool) ⊕ ((Int×Bool×Bool×Bool) ⊕ ((Unit) ⊕ ((Unit) ⊕ (Unit))))),inferInstance,JP⟩
noncomputable def oV:Kz:=⟨oU,fun n=>Di fun z1 s2 s3 l4 z5 s6 l7 z8 s9 l10 l11 l12 l13 l14 z15 p h w1 w2 w4 w3 l1 l2 e1 e2 e5 e3 xs e4=>by cases e1;cases e2;cases e4;rcases p with⟨r1,r2,r3,r4,r5,r6,r7⟩ | ⟨r1,r2,r3,r4⟩ | _ | _ | _<;>(cases e5;cases e3;exact oT n h _ ⟨rfl,rfl,rfl⟩)⟩
def NB:Nat->Int->Bool->Option (Bool)
 | 0,_,_=>none
 | n+1,z8,b16=>
  (if b16=true then (if (1:Int)<=z8 then (if z8<=(8:Int)then some true else some false)else some false)else (if z8=(0:Int)then some true else some false))
def KW (n:Nat) (z1:Int) (s2:BA) (s3:BA) (l4:LD) (z5:Int) (s6:BA) (l7:LD) (z8:Int) (s9:BA) (l10:LD) (l11:LD) (l12:LD) (l13:LD) (l14:LD) (z15:Int):Option (Bool):=
 (if z1=(12:Int)then NB n z8 true else NB n z8 false)
noncomputable def oW:BS:=⟨125,Tryz.f125,[.agg [.y,.str,.str,.f 1,.y,.str,.q 3,.z,.str,.f 1,.q 8,.q 15,.q 15,.q 3,.z]],[],⟨.one (.b),[],[]⟩,Bool,inferInstance,KW,[⟨13,[1,2,5],[.loc 0],160,[.p (.loc 0) 0,.one (.cb false),.b],[[.y,.str,.str,.f 1,.y,.str,.q 3,.z,.str,.f 1,.q 8,.q 15,.q 15,.q 3,.z]],fun n b16 _ _ _ _ _ _ _ z8 _ _ _ _ _ _ _=>NB n z8 b16⟩]⟩
noncomputable def oX:Kz:=sg oW [] Tryz.func125 (by kernel_rfl) (by kernel_rfl) (by kernel_rfl)
def N5 (n:Nat) (s1:BA) (l2:LD):Option (Bool):=
 (if s1=ByteArray.empty then AB l2 fun z3=>(if z3=(0:Int)then some true else some false)else some false)
noncomputable def oY:BS:=⟨126,Tryz.f126,[.agg [.str,.f 1]],[],⟨.one (.b),[],[]⟩,Bool,inferInstance,N5,[]⟩
noncomputable def jK:Kz:=sg oY [] Tryz.func126 (by kernel_rfl) (by kernel_rfl) (by kernel_rfl)
def Ul (n:Nat) (s1:BA):Option (Bool):=
 (if s1=ByteArray.empty then some true else some false)
noncomputable def oZ:BS:=⟨145,Tryz.f145,[.s],[],⟨.one (.b),[],[]⟩,Bool,inferInstance,Ul,[]⟩
noncomputable def pA:Kz:=sg oZ [] Tryz.func145 (by kernel_rfl) (by kernel_rfl) (by kernel_rfl)
def mS (n:Nat) (s1:BA):Option (Bool):=
 (if s1=iK then some true else bO1 (Vg n s1) fun b2=>some b2)
noncomputable def uY:BS:=⟨94,Tryz.f94,[.s],[],⟨.one (.b),[],[]⟩,Bool,inferInstance,mS,[]⟩
noncomputable def uZ:Kz:=sg uY [fY] Tryz.func94 (by kernel_rfl) (by kernel_rfl) (by kernel_rfl)
mutual
def JQ:Nat->LD->Int->Int->Option (Bool)
 | 0,_,_,_=>none
 | n+1,l1,z2,z3=>
  AB l1 fun z4=>(if z3<z4 then (if z3<z2 then K5 n l1 z2 z3 true else K5 n l1 z2 z3 false)else K5 n l1 z2 z3 false)
def K5:Nat->LD->Int->Int->Bool->Option (Bool)
 | 0,_,_,_,_=>none
 | n+1,l1,z2,z3,b5=>
  (if b5=true then Ae l1 z3 fun x6=>Bc x6 fun s7=>bO1 (mS n s7) fun b8=>AI (!b8) fun b9=>(if b9=true then some false else AE (IntKind.wrap .i64 (z3+1)) fun z10=>JQ n l1 z2 z10)else AB l1 fun z11=>(if z11<=z2 then some true else some false))
end
def jL (n:Nat) (l1:LD) (z2:Int):Option (Bool):=
 JQ n l1 z2 (0:Int)
noncomputable def vA:BS:=⟨93,Tryz.f93,[.f 1,.z,.one (.fn 94 [])],[],⟨.one (.b),[],[]⟩,Bool,inferInstance,jL,[⟨26,[0,1,2,6,7],[],64,[.f 1,.z,.one (.fn 94 []),.one (.cb false),.z],[],fun n l1 z2 z3=>JQ n l1 z2 z3⟩,
 ⟨209,[0,1,2,6,7,16],[],352,[.f 1,.z,.one (.fn 94 []),.one (.cb false),.z,.b],[],fun n l1 z2 z3 b5=>K5 n l1 z2 z3 b5⟩]⟩
noncomputable def vB:Kz:=sg vA [uZ] Tryz.func93 (by kernel_rfl) (by kernel_rfl) (by kernel_rfl)
def Yo (n:Nat) (s1:BA) (l2:LD):Option (Bool):=
 bO1 (Vg n s1) fun b3=>(if b3=true then bO1 (jL n l2 (40:Int)) fun b4=>some b4 else some false)
noncomputable def vC:BS:=⟨52,Tryz.f52,[.agg [.str,.f 1]],[],⟨.one (.b),[],[]⟩,Bool,inferInstance,Yo,[]⟩
noncomputable def rT:Kz:=sg vC [fY,vB] Tryz.func52 (by kernel_rfl) (by kernel_rfl) (by kernel_rfl)
mutual
def EW:Nat->LD->Int->Int->Option (Bool)
 | 0,_,_,_=>none
 | n+1,l1,z2,z3=>
  AB l1 fun z4=>(if z3<z4 then (if z3<z2 then FC n l1 z2 z3 true else FC n l1 z2 z3 false)else FC n l1 z2 z3 false)
def FC:Nat->LD->Int->Int->Bool->Option (Bool)
 | 0,_,_,_,_=>none
 | n+1,l1,z2,z3,b5=>
  (if b5=true then Ae l1 z3 fun x6=>Bc x6 fun s7=>bO1 (Vg n s7) fun b8=>AI (!b8) fun b9=>(if b9=true then some false else AE (IntKind.wrap .i64 (z3+1)) fun z10=>EW n l1 z2 z10)else AB l1 fun z11=>(if z11<=z2 then some true else some false))
end
def K6 (n:Nat) (l1:LD) (z2:Int):Option (Bool):=
 EW n l1 z2 (0:Int)
noncomputable def jM:BS:=⟨93,Tryz.f93,[.f 1,.z,.one (.fn 74 [])],[],⟨.one (.b),[],[]⟩,Bool,inferInstance,K6,[⟨26,[0,1,2,6,7],[],64,[.f 1,.z,.one (.fn 74 []),.one (.cb false),.z],[],fun n l1 z2 z3=>EW n l1 z2 z3⟩,
 ⟨209,[0,1,2,6,7,16],[],352,[.f 1,.z,.one (.fn 74 []),.one (.cb false),.z,.b],[],fun n l1 z2 z3 b5=>FC n l1 z2 z3 b5⟩]⟩
noncomputable def bK:Kz:=sg jM [fY] Tryz.func93 (by kernel_rfl) (by kernel_rfl) (by kernel_rfl)
def Cv:Nat->Int->Bool->Option (Bool×Int×Int×Bool)
 | 0,_,_=>none
 | n+1,z1,b27=>
  (if b27=true then some (false,(2:Int),(2:Int),true)else (if (1:Int)<=z1 then (if z1<=(36:Int)then some (false,(1:Int),(1:Int),true)else some (false,(1:Int),(1:Int),false))else some (false,(1:Int),(1:Int),false)))
def G7:Nat->Int->Bool->Option (Bool×Int×Int×Bool)
 | 0,_,_=>none
 | n+1,z1,b26=>
  (if b26=true then Cv n z1 true else (if z1=(17:Int)then Cv n z1 true else Cv n z1 false))
def G8:Nat->Int->Bool->Option (Bool×Int×Int×Bool)
 | 0,_,_=>none
 | n+1,z1,b25=>
  (if b25=true then Cv n z1 true else (if z1=(16:Int)then G7 n z1 true else G7 n z1 false))
def G9:Nat->Int->Bool->Option (Bool×Int×Int×Bool)
 | 0,_,_=>none
 | n+1,z1,b24=>
  (if b24=true then Cv n z1 true else (if z1=(15:Int)then G8 n z1 true else G8 n z1 false))
def HA:Nat->Int->Bool->Option (Bool×Int×Int×Bool)
 | 0,_,_=>none
 | n+1,z1,b23=>
  (if b23=true then Cv n z1 true else (if z1=(14:Int)then G9 n z1 true else G9 n z1 false))
def HB:Nat->Int->Bool->Option (Bool×Int×Int×Bool)
 | 0,_,_=>none
 | n+1,z1,b22=>
  (if b22=true then Cv n z1 true else (if z1=(13:Int)then HA n z1 true else HA n z1 false))
def HC:Nat->Int->Bool->Option (Bool×Int×Int×Bool)
 | 0,_,_=>none
 | n+1,z1,b21=>
  (if b21=true then Cv n z1 true else (if z1=(12:Int)then HB n z1 true else HB n z1 false))
def HD:Nat->Int->Bool->Option (Bool×Int×Int×Bool)
 | 0,_,_=>none
 | n+1,z1,b20=>
  (if b20=true then Cv n z1 true else (if z1=(11:Int)then HC n z1 true else HC n z1 false))
def HE:Nat->Int->Bool->Option (Bool×Int×Int×Bool)
 | 0,_,_=>none
 | n+1,z1,b19=>
  (if b19=true then Cv n z1 true else (if z1=(10:Int)then HD n z1 true else HD n z1 false))
def HF:Nat->Int->Bool->Option (Bool×Int×Int×Bool)
 | 0,_,_=>none
 | n+1,z1,b18=>
  (if b18=true then some (false,(0:Int),(1:Int),true)else (if z1=(9:Int)then HE n z1 true else HE n z1 false))
def GI:Nat->Int->Bool->Option (Bool×Int×Int×Bool)
 | 0,_,_=>none
 | n+1,z1,b17=>
  (if b17=true then some (false,(0:Int),(6:Int),true)else (if z1=(20:Int)then HF n z1 true else HF n z1 false))
def HG:Nat->Int->Bool->Option (Bool×Int×Int×Bool)
 | 0,_,_=>none
 | n+1,z1,b16=>
  (if b16=true then GI n z1 true else (if z1=(19:Int)then GI n z1 true else GI n z1 false))
def Ek:Nat->Int->Bool->Option (Bool×Int×Int×Bool)
 | 0,_,_=>none
 | n+1,z1,b15=>
  (if b15=true then some (true,(1:Int),(1:Int),true)else (if z1=(18:Int)then HG n z1 true else HG n z1 false))
def HH:Nat->Int->Bool->Option (Bool×Int×Int×Bool)
 | 0,_,_=>none
 | n+1,z1,b14=>
  (if b14=true then Ek n z1 true else (if z1=(35:Int)then Ek n z1 true else Ek n z1 false))
def HI:Nat->Int->Bool->Option (Bool×Int×Int×Bool)
 | 0,_,_=>none
 | n+1,z1,b13=>
  (if b13=true then Ek n z1 true else (if z1=(34:Int)then HH n z1 true else HH n z1 false))
def HJ:Nat->Int->Bool->Option (Bool×Int×Int×Bool)
 | 0,_,_=>none
 | n+1,z1,b12=>
  (if b12=true then Ek n z1 true else (if z1=(33:Int)then HI n z1 true else HI n z1 false))
def Db:Nat->Int->Bool->Option (Bool×Int×Int×Bool)
 | 0,_,_=>none
 | n+1,z1,b11=>
  (if b11=true then some (true,(0:Int),(0:Int),true)else (if z1=(25:Int)then HJ n z1 true else HJ n z1 false))
def K7:Nat->Int->Bool->Option (Bool×Int×Int×Bool)
 | 0,_,_=>none
 | n+1,z1,b10=>
  (if b10=true then Db n z1 true else (if z1=(36:Int)then Db n z1 true else Db n z1 false))
def K8:Nat->Int->Bool->Option (Bool×Int×Int×Bool)
 | 0,_,_=>none
 | n+1,z1,b9=>
  (if b9=true then Db n z1 true else (if z1=(32:Int)then K7 n z1 true else K7 n z1 false))
def K9:Nat->Int->Bool->Option (Bool×Int×Int×Bool)
 | 0,_,_=>none
 | n+1,z1,b8=>
  (if b8=true then Db n z1 true else (if z1=(28:Int)then K8 n z1 true else K8 n z1 false))
def LA:Nat->Int->Bool->Option (Bool×Int×Int×Bool)
 | 0,_,_=>none
 | n+1,z1,b7=>
  (if b7=true then Db n z1 true else (if z1=(24:Int)then K9 n z1 true else K9 n z1 false))
def LB:Nat->Int->Bool->Option (Bool×Int×Int×Bool)
 | 0,_,_=>none
 | n+1,z1,b6=>
  (if b6=true then Db n z1 true else (if z1=(6:Int)then LA n z1 true else LA n z1 false))
def LC:Nat->Int->Bool->Option (Bool×Int×Int×Bool)
 | 0,_,_=>none
 | n+1,z1,b5=>
  (if b5=true then Db n z1 true else (if z1=(5:Int)then LB n z1 true else LB n z1 false))
def Hz:Nat->Int->Bool->Option (Bool×Int×Int×Bool)
 | 0,_,_=>none
 | n+1,z1,b4=>
  (if b4=true then some (false,(0:Int),(0:Int),true)else (if z1=(4:Int)then LC n z1 true else LC n z1 false))
def LF:Nat->Int->Bool->Option (Bool×Int×Int×Bool)
 | 0,_,_=>none
 | n+1,z1,b3=>
  (if b3=true then Hz n z1 true else (if z1=(3:Int)then Hz n z1 true else Hz n z1 false))
def LG:Nat->Int->Bool->Option (Bool×Int×Int×Bool)
 | 0,_,_=>none
 | n+1,z1,b2=>
  (if b2=true then Hz n z1 true else (if z1=(2:Int)then LF n z1 true else LF n z1 false))
def bL (n:Nat) (z1:Int):Option (Bool×Int×Int×Bool):=
 (if z1=(1:Int)then LG n z1 true else LG n z1 false)
theorem vD (n:Nat):∀⦃z1 r1 r2 r3 r4⦄,bL n z1=some (r1,r2,r3,r4)->
    BB Tryz.prog inv 95 [.d (.int .u8 z1)] [] (.t [.d (.agg [.bool r1,.int .i64 r2,.int .i64 r3]),.d (.bool r4)]) [] []:=by
 intro z1 r1 r2 r3 r4 h
 unfold bL at h
 refine BB.of BU BK Ht Tryz.func95 rfl (by kernel_rfl) rfl rfl rfl (fun M hM hI=>?_)
 try cbv
 refine AD ?_
 try cbv
 refine AD ?_
 try cbv
 refine AD ?_
 try cbv
 refine AJ 5 [0,2,3,4,5] [.loc 0] 288 (fun m b=>m<=n/\Hz m z1 b=some (r1,r2,r3,r4)) ?_ ?_
 ·try cbv
  refine AJ 5 [0,2,3,4,5] [.loc 0] 160 (fun m b=>m<=n/\LG m z1 b=some (r1,r2,r3,r4)) ?_ ?_
  ·try cbv
   refine Ay (fun e=>?_) (fun e=>?_)
   ·replace h:=Ag e h
    clear e
    try cbv
    exact AA (n,true) [0,2,3,4,5] [.loc 0] 160 ⟨by omega,h⟩ (by cbv)
   replace h:=Ah e h
   clear e
   try cbv
   exact AA (n,false) [0,2,3,4,5] [.loc 0] 160 ⟨by omega,h⟩ (by cbv)
  clear h
  rintro⟨m1,b2⟩ ⟨hm1,h⟩
  try cbv
  replace hm1:m1<=n:=hm1
  obtain _ | m1:=m1
  ·replace h:LG 0 z1 b2=some (r1,r2,r3,r4):=h
   rw[LG]at h
   cases h
  replace h:LG (m1+1) z1 b2=some (r1,r2,r3,r4):=h
  rw[LG]at h
  try cbv
  cases b2
  rotate_left
  ·replace h:=Bx h
   try cbv
   exact AA (m1,true) [0,2,3,4,5] [.loc 0] 288 ⟨by omega,h⟩ (by cbv)
  replace h:=Bz h
  try cbv
  refine AJ 5 [0,2,3,4,5] [.loc 0] 224 (fun m b=>m<=m1/\LF m z1 b=some (r1,r2,r3,r4)) ?_ ?_
  ·try cbv
   refine Ay (fun e=>?_) (fun e=>?_)
   ·replace h:=Ag e h
    clear e
    try cbv
    exact AA (m1,true) [0,2,3,4,5] [.loc 0] 224 ⟨by omega,h⟩ (by cbv)
   replace h:=Ah e h
   clear e
   try cbv
   exact AA (m1,false) [0,2,3,4,5] [.loc 0] 224 ⟨by omega,h⟩ (by cbv)
  clear h
  rintro⟨m2,b3⟩ ⟨hm2,h⟩
  try cbv
  replace hm2:m2<=m1:=hm2
  obtain _ | m2:=m2
  ·replace h:LF 0 z1 b3=some (r1,r2,r3,r4):=h
   rw[LF]at h
   cases h
  replace h:LF (m2+1) z1 b3=some (r1,r2,r3,r4):=h
  rw[LF]at h
  try cbv
  cases b3
  ·replace h:=Bz h
   try cbv
   refine Ay (fun e=>?_) (fun e=>?_)
   ·replace h:=Ag e h
    clear e
    try cbv
    exact AA (m2,true) [0,2,3,4,5] [.loc 0] 288 ⟨by omega,h⟩ (by cbv)
   replace h:=Ah e h
   clear e
   try cbv
   exact AA (m2,false) [0,2,3,4,5] [.loc 0] 288 ⟨by omega,h⟩ (by cbv)
  replace h:=Bx h
  try cbv
  exact AA (m2,true) [0,2,3,4,5] [.loc 0] 288 ⟨by omega,h⟩ (by cbv)
 clear h
 rintro⟨m3,b4⟩ ⟨hm3,h⟩
 try cbv
 replace hm3:m3<=n:=hm3
 obtain _ | m3:=m3
 ·replace h:Hz 0 z1 b4=some (r1,r2,r3,r4):=h
  rw[Hz]at h
  cases h
 replace h:Hz (m3+1) z1 b4=some (r1,r2,r3,r4):=h
 rw[Hz]at h
 try cbv
 cases b4
 rotate_left
 ·replace h:=Bx h
  try cbv
  refine AD ?_
  try cbv
  obtain⟨rfl,rfl,rfl,rfl⟩:=QS h
  refine AZ ?_
  try cbv
  exact⟨[],by trivial⟩
 replace h:=Bz h
 try cbv
 refine AJ 10 [0,2,3,4,10] [.loc 0] 736 (fun m b=>m<=m3/\Db m z1 b=some (r1,r2,r3,r4)) ?_ ?_
 ·try cbv
  refine AJ 10 [0,2,3,4,10] [.loc 0] 352 (fun m b=>m<=m3/\LC m z1 b=some (r1,r2,r3,r4)) ?_ ?_
  ·try cbv
   refine Ay (fun e=>?_) (fun e=>?_)
   ·replace h:=Ag e h
    clear e
    try cbv
    exact AA (m3,true) [0,2,3,4,10] [.loc 0] 352 ⟨by omega,h⟩ (by cbv)
   replace h:=Ah e h
   clear e
   try cbv
   exact AA (m3,false) [0,2,3,4,10] [.loc 0] 352 ⟨by omega,h⟩ (by cbv)
  clear h
  rintro⟨m4,b5⟩ ⟨hm4,h⟩
  try cbv
  replace hm4:m4<=m3:=hm4
  obtain _ | m4:=m4
  ·replace h:LC 0 z1 b5=some (r1,r2,r3,r4):=h
   rw[LC]at h
   cases h
  replace h:LC (m4+1) z1 b5=some (r1,r2,r3,r4):=h
  rw[LC]at h
  try cbv
  cases b5
  rotate_left
  ·replace h:=Bx h
   try cbv
   exact AA (m4,true) [0,2,3,4,10] [.loc 0] 736 ⟨by omega,h⟩ (by cbv)
  replace h:=Bz h
  try cbv
  refine AJ 10 [0,2,3,4,10] [.loc 0] 416 (fun m b=>m<=m4/\LB m z1 b=some (r1,r2,r3,r4)) ?_ ?_
  ·try cbv
   refine Ay (fun e=>?_) (fun e=>?_)
   ·replace h:=Ag e h
    clear e
    try cbv
    exact AA (m4,true) [0,2,3,4,10] [.loc 0] 416 ⟨by omega,h⟩ (by cbv)
   replace h:=Ah e h
   clear e
   try cbv
   exact AA (m4,false) [0,2,3,4,10] [.loc 0] 416 ⟨by omega,h⟩ (by cbv)
  clear h
  rintro⟨m5,b6⟩ ⟨hm5,h⟩
  try cbv
  replace hm5:m5<=m4:=hm5
  obtain _ | m5:=m5
  ·replace h:LB 0 z1 b6=some (r1,r2,r3,r4):=h
   rw[LB]at h
   cases h
  replace h:LB (m5+1) z1 b6=some (r1,r2,r3,r4):=h
  rw[LB]at h
  try cbv
  cases b6
  rotate_left
  ·replace h:=Bx h
   try cbv
   exact AA (m5,true) [0,2,3,4,10] [.loc 0] 736 ⟨by omega,h⟩ (by cbv)
  replace h:=Bz h
  try cbv
  refine AJ 10 [0,2,3,4,10] [.loc 0] 480 (fun m b=>m<=m5/\LA m z1 b=some (r1,r2,r3,r4)) ?_ ?_
  ·try cbv
   refine Ay (fun e=>?_) (fun e=>?_)
   ·replace h:=Ag e h
    clear e
    try cbv
    exact AA (m5,true) [0,2,3,4,10] [.loc 0] 480 ⟨by omega,h⟩ (by cbv)
   replace h:=Ah e h
   clear e
   try cbv
   exact AA (m5,false) [0,2,3,4,10] [.loc 0] 480 ⟨by omega,h⟩ (by cbv)
  clear h
  rintro⟨m6,b7⟩ ⟨hm6,h⟩
  try cbv
  replace hm6:m6<=m5:=hm6
  obtain _ | m6:=m6
  ·replace h:LA 0 z1 b7=some (r1,r2,r3,r4):=h
   rw[LA]at h
   cases h
  replace h:LA (m6+1) z1 b7=some (r1,r2,r3,r4):=h
  rw[LA]at h
  try cbv
  cases b7
  rotate_left
  ·replace h:=Bx h
   try cbv
   exact AA (m6,true) [0,2,3,4,10] [.loc 0] 736 ⟨by omega,h⟩ (by cbv)
  replace h:=Bz h
  try cbv
  refine AJ 10 [0,2,3,4,10] [.loc 0] 544 (fun m b=>m<=m6/\K9 m z1 b=some (r1,r2,r3,r4)) ?_ ?_
  ·try cbv
   refine Ay (fun e=>?_) (fun e=>?_)
   ·replace h:=Ag e h
    clear e
    try cbv
    exact AA (m6,true) [0,2,3,4,10] [.loc 0] 544 ⟨by omega,h⟩ (by cbv)
   replace h:=Ah e h
   clear e
   try cbv
   exact AA (m6,false) [0,2,3,4,10] [.loc 0] 544 ⟨by omega,h⟩ (by cbv)
  clear h
  rintro⟨m7,b8⟩ ⟨hm7,h⟩
  try cbv
  replace hm7:m7<=m6:=hm7
  obtain _ | m7:=m7
  ·replace h:K9 0 z1 b8=some (r1,r2,r3,r4):=h
   rw[K9]at h
   cases h
  replace h:K9 (m7+1) z1 b8=some (r1,r2,r3,r4):=h
  rw[K9]at h
  try cbv
  cases b8
  rotate_left
  ·replace h:=Bx h
   try cbv
   exact AA (m7,true) [0,2,3,4,10] [.loc 0] 736 ⟨by omega,h⟩ (by cbv)
  replace h:=Bz h
  try cbv
  refine AJ 10 [0,2,3,4,10] [.loc 0] 608 (fun m b=>m<=m7/\K8 m z1 b=some (r1,r2,r3,r4)) ?_ ?_
  ·try cbv
   refine Ay (fun e=>?_) (fun e=>?_)
   ·replace h:=Ag e h
    clear e
    try cbv
    exact AA (m7,true) [0,2,3,4,10] [.loc 0] 608 ⟨by omega,h⟩ (by cbv)
   replace h:=Ah e h
   clear e
   try cbv
   exact AA (m7,false) [0,2,3,4,10] [.loc 0] 608 ⟨by omega,h⟩ (by cbv)
  clear h
  rintro⟨m8,b9⟩ ⟨hm8,h⟩
  try cbv
  replace hm8:m8<=m7:=hm8
  obtain _ | m8:=m8
  ·replace h:K8 0 z1 b9=some (r1,r2,r3,r4):=h
   rw[K8]at h
   cases h
  replace h:K8 (m8+1) z1 b9=some (r1,r2,r3,r4):=h
  rw[K8]at h
  try cbv
  cases b9
  rotate_left
  ·replace h:=Bx h
   try cbv
   exact AA (m8,true) [0,2,3,4,10] [.loc 0] 736 ⟨by omega,h⟩ (by cbv)
  replace h:=Bz h
  try cbv
  refine AJ 10 [0,2,3,4,10] [.loc 0] 672 (fun m b=>m<=m8/\K7 m z1 b=some (r1,r2,r3,r4)) ?_ ?_
  ·try cbv
   refine Ay (fun e=>?_) (fun e=>?_)
   ·replace h:=Ag e h
    clear e
    try cbv
    exact AA (m8,true) [0,2,3,4,10] [.loc 0] 672 ⟨by omega,h⟩ (by cbv)
   replace h:=Ah e h
   clear e
   try cbv
   exact AA (m8,false) [0,2,3,4,10] [.loc 0] 672 ⟨by omega,h⟩ (by cbv)
  clear h
  rintro⟨m9,b10⟩ ⟨hm9,h⟩
  try cbv
  replace hm9:m9<=m8:=hm9
  obtain _ | m9:=m9
  ·replace h:K7 0 z1 b10=some (r1,r2,r3,r4):=h
   rw[K7]at h
   cases h
  replace h:K7 (m9+1) z1 b10=some (r1,r2,r3,r4):=h
  rw[K7]at h
  try cbv
  cases b10
  ·replace h:=Bz h
   try cbv
   refine Ay (fun e=>?_) (fun e=>?_)
   ·replace h:=Ag e h
    clear e
    try cbv
    exact AA (m9,true) [0,2,3,4,10] [.loc 0] 736 ⟨by omega,h⟩ (by cbv)
   replace h:=Ah e h
   clear e
   try cbv
   exact AA (m9,false) [0,2,3,4,10] [.loc 0] 736 ⟨by omega,h⟩ (by cbv)
  replace h:=Bx h
  try cbv
  exact AA (m9,true) [0,2,3,4,10] [.loc 0] 736 ⟨by omega,h⟩ (by cbv)
 clear h
 rintro⟨m10,b11⟩ ⟨hm10,h⟩
 try cbv
 replace hm10:m10<=m3:=hm10
 obtain _ | m10:=m10
 ·replace h:Db 0 z1 b11=some (r1,r2,r3,r4):=h
  rw[Db]at h
  cases h
 replace h:Db (m10+1) z1 b11=some (r1,r2,r3,r4):=h
 rw[Db]at h
 try cbv
 cases b11
 rotate_left
 ·replace h:=Bx h
  try cbv
  refine AD ?_
  try cbv
  obtain⟨rfl,rfl,rfl,rfl⟩:=QS h
  refine AZ ?_
  try cbv
  exact⟨[],by trivial⟩
 replace h:=Bz h
 try cbv
 refine AJ 19 [0,2,3,4,19] [.loc 0] 992 (fun m b=>m<=m10/\Ek m z1 b=some (r1,r2,r3,r4)) ?_ ?_
 ·try cbv
  refine AJ 19 [0,2,3,4,19] [.loc 0] 800 (fun m b=>m<=m10/\HJ m z1 b=some (r1,r2,r3,r4)) ?_ ?_
  ·try cbv
   refine Ay (fun e=>?_) (fun e=>?_)
   ·replace h:=Ag e h
    clear e
    try cbv
    exact AA (m10,true) [0,2,3,4,19] [.loc 0] 800 ⟨by omega,h⟩ (by cbv)
   replace h:=Ah e h
   clear e
   try cbv
   exact AA (m10,false) [0,2,3,4,19] [.loc 0] 800 ⟨by omega,h⟩ (by cbv)
  clear h
  rintro⟨m11,b12⟩ ⟨hm11,h⟩
  try cbv
  replace hm11:m11<=m10:=hm11
  obtain _ | m11:=m11
  ·replace h:HJ 0 z1 b12=some (r1,r2,r3,r4):=h
   rw[HJ]at h
   cases h
  replace h:HJ (m11+1) z1 b12=some (r1,r2,r3,r4):=h
  rw[HJ]at h
  try cbv
  cases b12
  rotate_left
  ·replace h:=Bx h
   try cbv
   exact AA (m11,true) [0,2,3,4,19] [.loc 0] 992 ⟨by omega,h⟩ (by cbv)
  replace h:=Bz h
  try cbv
  refine AJ 19 [0,2,3,4,19] [.loc 0] 864 (fun m b=>m<=m11/\HI m z1 b=some (r1,r2,r3,r4)) ?_ ?_
  ·try cbv
   refine Ay (fun e=>?_) (fun e=>?_)
   ·replace h:=Ag e h
    clear e
    try cbv
    exact AA (m11,true) [0,2,3,4,19] [.loc 0] 864 ⟨by omega,h⟩ (by cbv)
   replace h:=Ah e h
   clear e
   try cbv
   exact AA (m11,false) [0,2,3,4,19] [.loc 0] 864 ⟨by omega,h⟩ (by cbv)
  clear h
  rintro⟨m12,b13⟩ ⟨hm12,h⟩
  try cbv
  replace hm12:m12<=m11:=hm12
  obtain _ | m12:=m12
  ·replace h:HI 0 z1 b13=some (r1,r2,r3,r4):=h
   rw[HI]at h
   cases h
  replace h:HI (m12+1) z1 b13=some (r1,r2,r3,r4):=h
  rw[HI]at h
  try cbv
  cases b13
  rotate_left
  ·replace h:=Bx h
   try cbv
   exact AA (m12,true) [0,2,3,4,19] [.loc 0] 992 ⟨by omega,h⟩ (by cbv)
  replace h:=Bz h
  try cbv
  refine AJ 19 [0,2,3,4,19] [.loc 0] 928 (fun m b=>m<=m12/\HH m z1 b=some (r1,r2,r3,r4)) ?_ ?_
  ·try cbv
   refine Ay (fun e=>?_) (fun e=>?_)
   ·replace h:=Ag e h
    clear e
    try cbv
    exact AA (m12,true) [0,2,3,4,19] [.loc 0] 928 ⟨by omega,h⟩ (by cbv)
   replace h:=Ah e h
   clear e
   try cbv
   exact AA (m12,false) [0,2,3,4,19] [.loc 0] 928 ⟨by omega,h⟩ (by cbv)
  clear h
  rintro⟨m13,b14⟩ ⟨hm13,h⟩
  try cbv
  replace hm13:m13<=m12:=hm13
  obtain _ | m13:=m13
  ·replace h:HH 0 z1 b14=some (r1,r2,r3,r4):=h
   rw[HH]at h
   cases h
  replace h:HH (m13+1) z1 b14=some (r1,r2,r3,r4):=h
  rw[HH]at h
  try cbv
  cases b14
  ·replace h:=Bz h
   try cbv
   refine Ay (fun e=>?_) (fun e=>?_)
   ·replace h:=Ag e h
    clear e
    try cbv
    exact AA (m13,true) [0,2,3,4,19] [.loc 0] 992 ⟨by omega,h⟩ (by cbv)
   replace h:=Ah e h
   clear e
   try cbv
   exact AA (m13,false) [0,2,3,4,19] [.loc 0] 992 ⟨by omega,h⟩ (by cbv)
  replace h:=Bx h
  try cbv
  exact AA (m13,true) [0,2,3,4,19] [.loc 0] 992 ⟨by omega,h⟩ (by cbv)
 clear h
 rintro⟨m14,b15⟩ ⟨hm14,h⟩
 try cbv
 replace hm14:m14<=m10:=hm14
 obtain _ | m14:=m14
 ·replace h:Ek 0 z1 b15=some (r1,r2,r3,r4):=h
  rw[Ek]at h
  cases h
 replace h:Ek (m14+1) z1 b15=some (r1,r2,r3,r4):=h
 rw[Ek]at h
 try cbv
 cases b15
 rotate_left
 ·replace h:=Bx h
  try cbv
  refine AD ?_
  try cbv
  obtain⟨rfl,rfl,rfl,rfl⟩:=QS h
  refine AZ ?_
  try cbv
  exact⟨[],by trivial⟩
 replace h:=Bz h
 try cbv
 refine AJ 25 [0,2,3,4,25] [.loc 0] 1120 (fun m b=>m<=m14/\GI m z1 b=some (r1,r2,r3,r4)) ?_ ?_
 ·try cbv
  refine AJ 25 [0,2,3,4,25] [.loc 0] 1056 (fun m b=>m<=m14/\HG m z1 b=some (r1,r2,r3,r4)) ?_ ?_
  ·try cbv
   refine Ay (fun e=>?_) (fun e=>?_)
   ·replace h:=Ag e h
    clear e
    try cbv
    exact AA (m14,true) [0,2,3,4,25] [.loc 0] 1056 ⟨by omega,h⟩ (by cbv)
   replace h:=Ah e h
   clear e
   try cbv
   exact AA (m14,false) [0,2,3,4,25] [.loc 0] 1056 ⟨by omega,h⟩ (by cbv)
  clear h
  rintro⟨m15,b16⟩ ⟨hm15,h⟩
  try cbv
  replace hm15:m15<=m14:=hm15
  obtain _ | m15:=m15
  ·replace h:HG 0 z1 b16=some (r1,r2,r3,r4):=h
   rw[HG]at h
   cases h
  replace h:HG (m15+1) z1 b16=some (r1,r2,r3,r4):=h
  rw[HG]at h
  try cbv
  cases b16
  ·replace h:=Bz h
   try cbv
   refine Ay (fun e=>?_) (fun e=>?_)
   ·replace h:=Ag e h
    clear e
    try cbv
    exact AA (m15,true) [0,2,3,4,25] [.loc 0] 1120 ⟨by omega,h⟩ (by cbv)
   replace h:=Ah e h
   clear e
   try cbv
   exact AA (m15,false) [0,2,3,4,25] [.loc 0] 1120 ⟨by omega,h⟩ (by cbv)
  replace h:=Bx h
  try cbv
  exact AA (m15,true) [0,2,3,4,25] [.loc 0] 1120 ⟨by omega,h⟩ (by cbv)
 clear h
 rintro⟨m16,b17⟩ ⟨hm16,h⟩
 try cbv
 replace hm16:m16<=m14:=hm16
 obtain _ | m16:=m16
 ·replace h:GI 0 z1 b17=some (r1,r2,r3,r4):=h
  rw[GI]at h
  cases h
 replace h:GI (m16+1) z1 b17=some (r1,r2,r3,r4):=h
 rw[GI]at h
 try cbv
 cases b17
 rotate_left
 ·replace h:=Bx h
  try cbv
  refine AD ?_
  try cbv
  obtain⟨rfl,rfl,rfl,rfl⟩:=QS h
  refine AZ ?_
  try cbv
  exact⟨[],by trivial⟩
 replace h:=Bz h
 try cbv
 refine AJ 29 [0,2,3,4,29] [.loc 0] 1184 (fun m b=>m<=m16/\HF m z1 b=some (r1,r2,r3,r4)) ?_ ?_
 ·try cbv
  refine Ay (fun e=>?_) (fun e=>?_)
  ·replace h:=Ag e h
   clear e
   try cbv
   exact AA (m16,true) [0,2,3,4,29] [.loc 0] 1184 ⟨by omega,h⟩ (by cbv)
  replace h:=Ah e h
  clear e
  try cbv
  exact AA (m16,false) [0,2,3,4,29] [.loc 0] 1184 ⟨by omega,h⟩ (by cbv)
 clear h
 rintro⟨m17,b18⟩ ⟨hm17,h⟩
 try cbv
 replace hm17:m17<=m16:=hm17
 obtain _ | m17:=m17
 ·replace h:HF 0 z1 b18=some (r1,r2,r3,r4):=h
  rw[HF]at h
  cases h
 replace h:HF (m17+1) z1 b18=some (r1,r2,r3,r4):=h
 rw[HF]at h
 try cbv
 cases b18
 rotate_left
 ·replace h:=Bx h
  try cbv
  refine AD ?_
  try cbv
  obtain⟨rfl,rfl,rfl,rfl⟩:=QS h
  refine AZ ?_
  try cbv
  exact⟨[],by trivial⟩
 replace h:=Bz h
 try cbv
 refine AJ 32 [0,2,3,32] [.loc 0] 1760 (fun m b=>m<=m17/\Cv m z1 b=some (r1,r2,r3,r4)) ?_ ?_
 rotate_left
 ·clear h
  rintro⟨m26,b27⟩ ⟨hm26,h⟩
  try cbv
  replace hm26:m26<=m17:=hm26
  obtain _ | m26:=m26
  ·replace h:Cv 0 z1 b27=some (r1,r2,r3,r4):=h
   rw[Cv]at h
   cases h
  replace h:Cv (m26+1) z1 b27=some (r1,r2,r3,r4):=h
  rw[Cv]at h
  try cbv
  cases b27
  rotate_left
  ·replace h:=Bx h
   try cbv
   refine AD ?_
   try cbv
   obtain⟨rfl,rfl,rfl,rfl⟩:=QS h
   refine AZ ?_
   try cbv
   exact⟨[],by trivial⟩
  replace h:=Bz h
  try cbv
  refine AD ?_
  try cbv
  refine GC (fun e=>?_) (fun e=>?_)
  ·replace h:=Ag e h
   clear e
   try cbv
   refine GC (fun e=>?_) (fun e=>?_)
   ·replace h:=Ag e h
    clear e
    try cbv
    obtain⟨rfl,rfl,rfl,rfl⟩:=QS h
    refine AZ ?_
    try cbv
    exact⟨[],by trivial⟩
   replace h:=Ah (Int.not_le.2 e) h
   clear e
   try cbv
   obtain⟨rfl,rfl,rfl,rfl⟩:=QS h
   refine AZ ?_
   try cbv
   exact⟨[],by trivial⟩
  replace h:=Ah (Int.not_le.2 e) h
  clear e
  try cbv
  obtain⟨rfl,rfl,rfl,rfl⟩:=QS h
  refine AZ ?_
  try cbv
  exact⟨[],by trivial⟩
 try cbv
 refine AJ 32 [0,2,3,4,32] [.loc 0] 1248 (fun m b=>m<=m17/\HE m z1 b=some (r1,r2,r3,r4)) ?_ ?_
 ·try cbv
  refine Ay (fun e=>?_) (fun e=>?_)
  ·replace h:=Ag e h
   clear e
   try cbv
   exact AA (m17,true) [0,2,3,4,32] [.loc 0] 1248 ⟨by omega,h⟩ (by cbv)
  replace h:=Ah e h
  clear e
  try cbv
  exact AA (m17,false) [0,2,3,4,32] [.loc 0] 1248 ⟨by omega,h⟩ (by cbv)
 clear h
 rintro⟨m18,b19⟩ ⟨hm18,h⟩
 try cbv
 replace hm18:m18<=m17:=hm18
 obtain _ | m18:=m18
 ·replace h:HE 0 z1 b19=some (r1,r2,r3,r4):=h
  rw[HE]at h
  cases h
 replace h:HE (m18+1) z1 b19=some (r1,r2,r3,r4):=h
 rw[HE]at h
 try cbv
 cases b19
 rotate_left
 ·replace h:=Bx h
  try cbv
  exact AA (m18,true) [0,2,3,32] [.loc 0] 1760 ⟨by omega,h⟩ (by cbv)
 replace h:=Bz h
 try cbv
 refine AJ 32 [0,2,3,4,32] [.loc 0] 1312 (fun m b=>m<=m18/\HD m z1 b=some (r1,r2,r3,r4)) ?_ ?_
 ·try cbv
  refine Ay (fun e=>?_) (fun e=>?_)
  ·replace h:=Ag e h
   clear e
   try cbv
   exact AA (m18,true) [0,2,3,4,32] [.loc 0] 1312 ⟨by omega,h⟩ (by cbv)
  replace h:=Ah e h
  clear e
  try cbv
  exact AA (m18,false) [0,2,3,4,32] [.loc 0] 1312 ⟨by omega,h⟩ (by cbv)
 clear h
 rintro⟨m19,b20⟩ ⟨hm19,h⟩
 try cbv
 replace hm19:m19<=m18:=hm19
 obtain _ | m19:=m19
 ·replace h:HD 0 z1 b20=some (r1,r2,r3,r4):=h
  rw[HD]at h
  cases h
 replace h:HD (m19+1) z1 b20=some (r1,r2,r3,r4):=h
 rw[HD]at h
 try cbv
 cases b20
 rotate_left
 ·replace h:=Bx h
  try cbv
  exact AA (m19,true) [0,2,3,32] [.loc 0] 1760 ⟨by omega,h⟩ (by cbv)
 replace h:=Bz h
 try cbv
 refine AJ 32 [0,2,3,4,32] [.loc 0] 1376 (fun m b=>m<=m19/\HC m z1 b=some (r1,r2,r3,r4)) ?_ ?_
 ·try cbv
  refine Ay (fun e=>?_) (fun e=>?_)
  ·replace h:=Ag e h
   clear e
   try cbv
   exact AA (m19,true) [0,2,3,4,32] [.loc 0] 1376 ⟨by omega,h⟩ (by cbv)
  replace h:=Ah e h
  clear e
  try cbv
  exact AA (m19,false) [0,2,3,4,32] [.loc 0] 1376 ⟨by omega,h⟩ (by cbv)
 clear h
 rintro⟨m20,b21⟩ ⟨hm20,h⟩
 try cbv
 replace hm20:m20<=m19:=hm20
 obtain _ | m20:=m20
 ·replace h:HC 0 z1 b21=some (r1,r2,r3,r4):=h
  rw[HC]at h
  cases h
 replace h:HC (m20+1) z1 b21=some (r1,r2,r3,r4):=h
 rw[HC]at h
 try cbv
 cases b21
 rotate_left
 ·replace h:=Bx h
  try cbv
  exact AA (m20,true) [0,2,3,32] [.loc 0] 1760 ⟨by omega,h⟩ (by cbv)
 replace h:=Bz h
 try cbv
 refine AJ 32 [0,2,3,4,32] [.loc 0] 1440 (fun m b=>m<=m20/\HB m z1 b=some (r1,r2,r3,r4)) ?_ ?_
 ·try cbv
  refine Ay (fun e=>?_) (fun e=>?_)
  ·replace h:=Ag e h
   clear e
   try cbv
   exact AA (m20,true) [0,2,3,4,32] [.loc 0] 1440 ⟨by omega,h⟩ (by cbv)
  replace h:=Ah e h
  clear e
  try cbv
  exact AA (m20,false) [0,2,3,4,32] [.loc 0] 1440 ⟨by omega,h⟩ (by cbv)
 clear h
 rintro⟨m21,b22⟩ ⟨hm21,h⟩
 try cbv
 replace hm21:m21<=m20:=hm21
 obtain _ | m21:=m21
 ·replace h:HB 0 z1 b22=some (r1,r2,r3,r4):=h
  rw[HB]at h
  cases h
 replace h:HB (m21+1) z1 b22=some (r1,r2,r3,r4):=h
 rw[HB]at h
 try cbv
 cases b22
 rotate_left
 ·replace h:=Bx h
  try cbv
  exact AA (m21,true) [0,2,3,32] [.loc 0] 1760 ⟨by omega,h⟩ (by cbv)
 replace h:=Bz h
 try cbv
 refine AJ 32 [0,2,3,4,32] [.loc 0] 1504 (fun m b=>m<=m21/\HA m z1 b=some (r1,r2,r3,r4)) ?_ ?_
 ·try cbv
  refine Ay (fun e=>?_) (fun e=>?_)
  ·replace h:=Ag e h
   clear e
   try cbv
   exact AA (m21,true) [0,2,3,4,32] [.loc 0] 1504 ⟨by omega,h⟩ (by cbv)
  replace h:=Ah e h
  clear e
  try cbv
  exact AA (m21,false) [0,2,3,4,32] [.loc 0] 1504 ⟨by omega,h⟩ (by cbv)
 clear h
 rintro⟨m22,b23⟩ ⟨hm22,h⟩
 try cbv
 replace hm22:m22<=m21:=hm22
 obtain _ | m22:=m22
 ·replace h:HA 0 z1 b23=some (r1,r2,r3,r4):=h
  rw[HA]at h
  cases h
 replace h:HA (m22+1) z1 b23=some (r1,r2,r3,r4):=h
 rw[HA]at h
 try cbv
 cases b23
 rotate_left
 ·replace h:=Bx h
  try cbv
  exact AA (m22,true) [0,2,3,32] [.loc 0] 1760 ⟨by omega,h⟩ (by cbv)
 replace h:=Bz h
 try cbv
 refine AJ 32 [0,2,3,4,32] [.loc 0] 1568 (fun m b=>m<=m22/\G9 m z1 b=some (r1,r2,r3,r4)) ?_ ?_
 ·try cbv
  refine Ay (fun e=>?_) (fun e=>?_)
  ·replace h:=Ag e h
   clear e
   try cbv
   exact AA (m22,true) [0,2,3,4,32] [.loc 0] 1568 ⟨by omega,h⟩ (by cbv)
  replace h:=Ah e h
  clear e
  try cbv
  exact AA (m22,false) [0,2,3,4,32] [.loc 0] 1568 ⟨by omega,h⟩ (by cbv)
 clear h
 rintro⟨m23,b24⟩ ⟨hm23,h⟩
 try cbv
 replace hm23:m23<=m22:=hm23
 obtain _ | m23:=m23
 ·replace h:G9 0 z1 b24=some (r1,r2,r3,r4):=h
  rw[G9]at h
  cases h
 replace h:G9 (m23+1) z1 b24=some (r1,r2,r3,r4):=h
 rw[G9]at h
 try cbv
 cases b24
 rotate_left
 ·replace h:=Bx h
  try cbv
  exact AA (m23,true) [0,2,3,32] [.loc 0] 1760 ⟨by omega,h⟩ (by cbv)
 replace h:=Bz h
 try cbv
 refine AJ 32 [0,2,3,4,32] [.loc 0] 1632 (fun m b=>m<=m23/\G8 m z1 b=some (r1,r2,r3,r4)) ?_ ?_
 ·try cbv
  refine Ay (fun e=>?_) (fun e=>?_)
  ·replace h:=Ag e h
   clear e
   try cbv
   exact AA (m23,true) [0,2,3,4,32] [.loc 0] 1632 ⟨by omega,h⟩ (by cbv)
  replace h:=Ah e h
  clear e
  try cbv
  exact AA (m23,false) [0,2,3,4,32] [.loc 0] 1632 ⟨by omega,h⟩ (by cbv)
 clear h
 rintro⟨m24,b25⟩ ⟨hm24,h⟩
 try cbv
 replace hm24:m24<=m23:=hm24
 obtain _ | m24:=m24
 ·replace h:G8 0 z1 b25=some (r1,r2,r3,r4):=h
  rw[G8]at h
  cases h
 replace h:G8 (m24+1) z1 b25=some (r1,r2,r3,r4):=h
 rw[G8]at h
 try cbv
 cases b25
 rotate_left
 ·replace h:=Bx h
  try cbv
  exact AA (m24,true) [0,2,3,32] [.loc 0] 1760 ⟨by omega,h⟩ (by cbv)
 replace h:=Bz h
 try cbv
 refine AJ 32 [0,2,3,4,32] [.loc 0] 1696 (fun m b=>m<=m24/\G7 m z1 b=some (r1,r2,r3,r4)) ?_ ?_
 ·try cbv
  refine Ay (fun e=>?_) (fun e=>?_)
  ·replace h:=Ag e h
   clear e
   try cbv
   exact AA (m24,true) [0,2,3,4,32] [.loc 0] 1696 ⟨by omega,h⟩ (by cbv)
  replace h:=Ah e h
  clear e
  try cbv
  exact AA (m24,false) [0,2,3,4,32] [.loc 0] 1696 ⟨by omega,h⟩ (by cbv)
 clear h
 rintro⟨m25,b26⟩ ⟨hm25,h⟩
 try cbv
 replace hm25:m25<=m24:=hm25
 obtain _ | m25:=m25
 ·replace h:G7 0 z1 b26=some (r1,r2,r3,r4):=h
  rw[G7]at h
  cases h
 replace h:G7 (m25+1) z1 b26=some (r1,r2,r3,r4):=h
 rw[G7]at h
 try cbv
 cases b26
 ·replace h:=Bz h
  try cbv
  refine Ay (fun e=>?_) (fun e=>?_)
  ·replace h:=Ag e h
   clear e
   try cbv
   exact AA (m25,true) [0,2,3,32] [.loc 0] 1760 ⟨by omega,h⟩ (by cbv)
  replace h:=Ah e h
  clear e
  try cbv
  exact AA (m25,false) [0,2,3,32] [.loc 0] 1760 ⟨by omega,h⟩ (by cbv)
 replace h:=Bx h
 try cbv
 exact AA (m25,true) [0,2,3,32] [.loc 0] 1760 ⟨by omega,h⟩ (by cbv)
noncomputable def vE:BW:=⟨95,[.y],[],[⟨.tup [.agg [.bool,.z,.z],.b],[],[]⟩],Bool×Int×Int×Bool,inferInstance,bL⟩
noncomputable def vF:Kz:=⟨vE,fun n=>Di fun z1 p h w1 w2 w4 w3 l1 l2 e1 e2 e5 e3 xs e4=>by cases e1;cases e2;cases e4;cases e5;cases e3;exact vD n h⟩
def Ga:Nat->Bool->Bool->Bool->Option (Bool)
 | 0,_,_,_=>none
 | n+1,b21,b22,b23=>
  (if b21=true then (if b22=true then some b23 else some false)else some false)
def Sq:Nat->BA->BA->Bool->Bool->Bool->Bool->Option (Bool)
 | 0,_,_,_,_,_,_=>none
 | n+1,s3,s4,b9,b10,b11,b18=>
  (if b18=true then bO1 (Wv n s3) fun b19=>bO1 (Wv n s4) fun b20=>Ga n b19 b20 b11 else Ga n b9 b10 b11)
def PA:Nat->Int->BA->BA->Bool->Bool->Bool->Bool->Option (Bool)
 | 0,_,_,_,_,_,_,_=>none
 | n+1,z1,s3,s4,b9,b10,b11,b16=>
  (if b16=true then bO1 (Wv n s3) fun b17=>Ga n b17 b10 b11 else (if z1=(20:Int)then Sq n s3 s4 b9 b10 b11 true else Sq n s3 s4 b9 b10 b11 false))
def PB:Nat->Int->BA->BA->Bool->Bool->Bool->Bool->Option (Bool)
 | 0,_,_,_,_,_,_,_=>none
 | n+1,z1,s3,s4,b9,b10,b11,b14=>
  (if b14=true then bO1 (Vg n s3) fun b15=>Ga n b15 b10 b11 else (if z1=(19:Int)then PA n z1 s3 s4 b9 b10 b11 true else PA n z1 s3 s4 b9 b10 b11 false))
def PC:Nat->Int->Int->BA->BA->Bool->Bool->Bool->Bool->Option (Bool)
 | 0,_,_,_,_,_,_,_,_=>none
 | n+1,z1,z2,s3,s4,b9,b10,b11,b13=>
  (if b13=true then (if z2=(0:Int)then Ga n b9 b10 true else (if z2=(1:Int)then Ga n b9 b10 true else Ga n b9 b10 false))else (if z1=(18:Int)then PB n z1 s3 s4 b9 b10 b11 true else PB n z1 s3 s4 b9 b10 b11 false))
def PD:Nat->Int->Int->BA->BA->Bool->Bool->Bool->Bool->Option (Bool)
 | 0,_,_,_,_,_,_,_,_=>none
 | n+1,z1,z2,s3,s4,b9,b10,b11,b12=>
  (if b12=true then (if (0:Int)<=z2 then Ga n b9 b10 true else Ga n b9 b10 false)else (if z1=(2:Int)then PC n z1 z2 s3 s4 b9 b10 b11 true else PC n z1 z2 s3 s4 b9 b10 b11 false))
def Gb:Nat->Int->Int->BA->BA->Bool->Bool->Bool->Option (Bool)
 | 0,_,_,_,_,_,_,_=>none
 | n+1,z1,z2,s3,s4,b9,b10,b11=>
  (if z1=(1:Int)then PD n z1 z2 s3 s4 b9 b10 b11 true else PD n z1 z2 s3 s4 b9 b10 b11 false)
def mT (n:Nat) (z1:Int) (z2:Int) (s3:BA) (s4:BA) (s5:BA) (l6:LD) (l7:LD) (z8:Int):Option (Bool):=
 (if s3=ByteArray.empty then (if s4=ByteArray.empty then (if z2=(0:Int)then Gb n z1 z2 s3 s4 true true true else Gb n z1 z2 s3 s4 true true false)else (if z2=(0:Int)then Gb n z1 z2 s3 s4 true false true else Gb n z1 z2 s3 s4 true false false))else (if s4=ByteArray.empty then (if z2=(0:Int)then Gb n z1 z2 s3 s4 false true true else Gb n z1 z2 s3 s4 false true false)else (if z2=(0:Int)then Gb n z1 z2 s3 s4 false false true else Gb n z1 z2 s3 s4 false false false)))
noncomputable def vG:BS:=⟨96,Tryz.f96,[.agg [.y,.z,.str,.str,.str,.f 1,.q 8,.z]],[],⟨.one (.b),[],[]⟩,Bool,inferInstance,mT,[⟨7,[1,2,3,4,5],[.loc 0],448,[.p (.loc 0) 0,.one (.cb false),.b,.b,.b],[[.y,.z,.str,.str,.str,.f 1,.q 8,.z]],fun n b9 b10 b11 z1 z2 s3 s4 _ _ _ _=>Gb n z1 z2 s3 s4 b9 b10 b11⟩,
 ⟨117,[1,2,3,4,5,16,17],[.loc 0],576,[.p (.loc 0) 0,.one (.cb false),.b,.b,.b,.y,.b],[[.y,.z,.str,.str,.str,.f 1,.q 8,.z]],fun n b9 b10 b11 z1 b12 _ z2 s3 s4 _ _ _ _=>PD n z1 z2 s3 s4 b9 b10 b11 b12⟩,
 ⟨471,[1,2,3,4,5,16,22],[.loc 0],640,[.p (.loc 0) 0,.one (.cb false),.b,.b,.b,.y,.b],[[.y,.z,.str,.str,.str,.f 1,.q 8,.z]],fun n b9 b10 b11 z1 b13 _ z2 s3 s4 _ _ _ _=>PC n z1 z2 s3 s4 b9 b10 b11 b13⟩,
 ⟨1887,[1,2,3,4,5,16,32],[.loc 0],704,[.p (.loc 0) 0,.one (.cb false),.b,.b,.b,.y,.b],[[.y,.z,.str,.str,.str,.f 1,.q 8,.z]],fun n b9 b10 b11 z1 b14 _ _ s3 s4 _ _ _ _=>PB n z1 s3 s4 b9 b10 b11 b14⟩,
 ⟨7551,[1,2,3,4,5,16,37],[.loc 0],768,[.p (.loc 0) 0,.one (.cb false),.b,.b,.b,.y,.b],[[.y,.z,.str,.str,.str,.f 1,.q 8,.z]],fun n b9 b10 b11 z1 b16 _ _ s3 s4 _ _ _ _=>PA n z1 s3 s4 b9 b10 b11 b16⟩,
 ⟨30207,[1,2,3,4,5,42],[.loc 0],832,[.p (.loc 0) 0,.one (.cb false),.b,.b,.b,.b],[[.y,.z,.str,.str,.str,.f 1,.q 8,.z]],fun n b9 b10 b11 b18 _ _ s3 s4 _ _ _ _=>Sq n s3 s4 b9 b10 b11 b18⟩,
 ⟨15,[2,3,4,5],[],1088,[.one (.cb false),.b,.b,.b],[],fun n b21 b22 b23=>Ga n b21 b22 b23⟩]⟩
noncomputable def vH:Kz:=sg vG [oG,fY] Tryz.func96 (by kernel_rfl) (by kernel_rfl) (by kernel_rfl)
def Sr:Nat->BA->LD->LD->Bool->Option (Bool)
 | 0,_,_,_,_=>none
 | n+1,s5,l6,l7,b11=>
  (if b11=true then (if s5=ByteArray.empty then AB l6 fun z12=>AB l7 fun z13=>(if z12=z13 then bO1 (K6 n l6 (6:Int)) fun b14=>some b14 else some false)else some false)else bO1 (N5 n s5 l6) fun b15=>some b15)
def mU (n:Nat) (z1:Int) (z2:Int) (s3:BA) (s4:BA) (s5:BA) (l6:LD) (l7:LD) (z8:Int) (b9:Bool):Option (Bool):=
 (if b9=true then bO1 (Yo n s5 l6) fun b10=>some b10 else (if z1=(19:Int)then Sr n s5 l6 l7 true else Sr n s5 l6 l7 false))
noncomputable def vI:BS:=⟨97,Tryz.f97,[.agg [.y,.z,.str,.str,.str,.f 1,.q 8,.z],.b],[],⟨.one (.b),[],[]⟩,Bool,inferInstance,mU,[⟨103,[2,4,10],[.loc 0],256,[.p (.loc 0) 0,.one (.cb false),.b],[[.y,.z,.str,.str,.str,.f 1,.q 8,.z]],fun n b11 _ _ _ _ s5 l6 l7 _=>Sr n s5 l6 l7 b11⟩]⟩
noncomputable def vJ:Kz:=sg vI [jK,rT,bK] Tryz.func97 (by kernel_rfl) (by kernel_rfl) (by kernel_rfl)
mutual
def jN:Nat->Int->Int->BA->BA->BA->LD->LD->Int->Int->Int->BA->BA->BA->LD->LD->Int->Int->Option (Bool×Int×Int×BA×BA×BA×LD×LD×Int×Int)
 | 0,_,_,_,_,_,_,_,_,_,_,_,_,_,_,_,_,_=>none
 | n+1,z1,z2,s3,s4,s5,l6,l7,z8,z9,z10,s11,s12,s13,l14,l15,z16,z17=>
  (if z9=(18:Int)then AE (IntKind.wrap .i64 (z17 - 1)) fun z18=>bO1 (N6 n z1 z2 s3 s4 s5 l6 l7 z8 z18) fun b19=>some (b19,z9,z10,s11,s12,s13,l14,l15,z16,z17)else bO1 (Wj n z1 z2 s3 s4 s5 l6 l7 z8) fun b20=>AI (!b20) fun b21=>(if b21=true then AE (IntKind.wrap .i64 (z17 - 1)) fun z22=>bO1 (N6 n z1 z2 s3 s4 s5 l6 l7 z8 z22) fun b23=>some (b23,z9,z10,s11,s12,s13,l14,l15,z16,z17)else some (false,z9,z10,s11,s12,s13,l14,l15,z16,z17)))
def JR:Nat->LD->Int->Int->Int->Int->BA->BA->BA->LD->LD->Int->Int->Option (Bool×Int×Int×BA×BA×BA×LD×LD×Int×Int)
 | 0,_,_,_,_,_,_,_,_,_,_,_,_=>none
 | n+1,l1,z2,z12,z13,z14,s15,s16,s17,l18,l19,z20,z21=>
  AB l1 fun z22=>(if z12<z22 then (if z12<z2 then LH n l1 z2 z12 z13 z14 s15 s16 s17 l18 l19 z20 z21 true else LH n l1 z2 z12 z13 z14 s15 s16 s17 l18 l19 z20 z21 false)else LH n l1 z2 z12 z13 z14 s15 s16 s17 l18 l19 z20 z21 false)
def LH:Nat->LD->Int->Int->Int->Int->BA->BA->BA->LD->LD->Int->Int->Bool->Option (Bool×Int×Int×BA×BA×BA×LD×LD×Int×Int)
 | 0,_,_,_,_,_,_,_,_,_,_,_,_,_=>none
 | n+1,l1,z2,z12,z13,z14,s15,s16,s17,l18,l19,z20,z21,b23=>
  (if b23=true then Ae l1 z12 fun x24=>Ao x24 fun z25 z26 s27 s28 s29 l30 l31 z32=>bO10 (jN n z25 z26 s27 s28 s29 l30 l31 z32 z13 z14 s15 s16 s17 l18 l19 z20 z21) fun b33 z34 z35 s36 s37 s38 l39 l40 z41 z42=>AI (!b33) fun b43=>(if b43=true then some (false,z34,z35,s36,s37,s38,l39,l40,z41,z42)else AE (IntKind.wrap .i64 (z12+1)) fun z44=>JR n l1 z2 z44 z34 z35 s36 s37 s38 l39 l40 z41 z42)else AB l1 fun z45=>(if z45<=z2 then some (true,z13,z14,s15,s16,s17,l18,l19,z20,z21)else some (false,z13,z14,s15,s16,s17,l18,l19,z20,z21)))
def gC:Nat->LD->Int->Int->Int->BA->BA->BA->LD->LD->Int->Int->Option (Bool×Int×Int×BA×BA×BA×LD×LD×Int×Int)
 | 0,_,_,_,_,_,_,_,_,_,_,_=>none
 | n+1,l1,z2,z3,z4,s5,s6,s7,l8,l9,z10,z11=>
  JR n l1 z2 (0:Int) z3 z4 s5 s6 s7 l8 l9 z10 z11
def H0:Nat->Int->Int->BA->BA->BA->LD->LD->Int->Int->Int->Bool->Option (Bool)
 | 0,_,_,_,_,_,_,_,_,_,_,_=>none
 | n+1,z1,z2,s3,s4,s5,l6,l7,z8,z9,z12,b20=>
  (if b20=true then some false else bO10 (gC n l7 z12 z1 z2 s3 s4 s5 l6 l7 z8 z9) fun b21 z22 z23 s24 s25 s26 l27 l28 z29 z30=>some b21)
def N6:Nat->Int->Int->BA->BA->BA->LD->LD->Int->Int->Option (Bool)
 | 0,_,_,_,_,_,_,_,_,_=>none
 | n+1,z1,z2,s3,s4,s5,l6,l7,z8,z9=>
  bO4 (bL n z1) fun b10 z11 z12 b13=>(if z9<(1:Int)then H0 n z1 z2 s3 s4 s5 l6 l7 z8 z9 z12 true else AI (!b13) fun b14=>(if b14=true then H0 n z1 z2 s3 s4 s5 l6 l7 z8 z9 z12 true else bO1 (mT n z1 z2 s3 s4 s5 l6 l7 z8) fun b15=>AI (!b15) fun b16=>(if b16=true then H0 n z1 z2 s3 s4 s5 l6 l7 z8 z9 z12 true else AB l7 fun z17=>(if z17<z11 then H0 n z1 z2 s3 s4 s5 l6 l7 z8 z9 z12 true else bO1 (mU n z1 z2 s3 s4 s5 l6 l7 z8 b10) fun b18=>AI (!b18) fun b19=>H0 n z1 z2 s3 s4 s5 l6 l7 z8 z9 z12 b19))))
end
noncomputable def vK:BS:=⟨99,Tryz.f99,[.agg [.y,.z,.str,.str,.str,.f 1,.q 8,.z],.p (.ext 0) 0,.p (.ext 1) 0],[[.y,.z,.str,.str,.str,.f 1,.q 8,.z],[.z]],⟨.one (.b),[[.y,.z,.str,.str,.str,.f 1,.q 8,.z],[.z]],[]⟩,Bool×Int×Int×BA×BA×BA×LD×LD×Int×Int,inferInstance,jN,[]⟩
noncomputable def vL:BS:=⟨98,Tryz.f98,[.q 8,.z,.one (.fn 99 [.ext 0,.ext 1])],[[.y,.z,.str,.str,.str,.f 1,.q 8,.z],[.z]],⟨.one (.b),[[.y,.z,.str,.str,.str,.f 1,.q 8,.z],[.z]],[]⟩,Bool×Int×Int×BA×BA×BA×LD×LD×Int×Int,inferInstance,gC,[⟨26,[0,1,2,6,7],[.ext 0,.ext 1],64,[.q 8,.z,.one (.fn 99 [.ext 0,.ext 1]),.one (.cb false),.z],[[.y,.z,.str,.str,.str,.f 1,.q 8,.z],[.z]],fun n l1 z2 z12 z13 z14 s15 s16 s17 l18 l19 z20 z21=>JR n l1 z2 z12 z13 z14 s15 s16 s17 l18 l19 z20 z21⟩,
 ⟨209,[0,1,2,6,7,16],[.ext 0,.ext 1],352,[.q 8,.z,.one (.fn 99 [.ext 0,.ext 1]),.one (.cb false),.z,.b],[[.y,.z,.str,.str,.str,.f 1,.q 8,.z],[.z]],fun n l1 z2 z12 b23 z13 z14 s15 s16 s17 l18 l19 z20 z21=>LH n l1 z2 z12 z13 z14 s15 s16 s17 l18 l19 z20 z21 b23⟩]⟩
noncomputable def rU:BS:=⟨54,Tryz.f54,[.agg [.y,.z,.str,.str,.str,.f 1,.q 8,.z],.z],[],⟨.one (.b),[],[]⟩,Bool,inferInstance,N6,[⟨29,[2,3,4,5,38],[.loc 0,.loc 32,.loc 288],1216,[.p (.loc 0) 0,.p (.loc 32) 0,.one (.cb false),.p (.loc 288) 0,.b],[[.y,.z,.str,.str,.str,.f 1,.q 8,.z],[.z],[.bool,.z,.z]],fun n b20 z1 z2 s3 s4 s5 l6 l7 z8 z9 _ _ z12=>H0 n z1 z2 s3 s4 s5 l6 l7 z8 z9 z12 b20⟩]⟩
theorem vM:CF Tryz.prog inv (KU [vK,vL,rU]):=gr [rP,vF,vH,vJ] ⟨⟨Tryz.func99,by kernel_rfl,by kernel_rfl,by kernel_rfl⟩,⟨Tryz.func98,by kernel_rfl,by kernel_rfl,by kernel_rfl⟩,⟨Tryz.func54,by kernel_rfl,by kernel_rfl,by kernel_rfl⟩,trivial⟩
noncomputable def vN:Kz:=⟨rU.c,vM.2.2.1⟩
theorem YG (n:Nat):∀⦃z1 z2 s3 s4 s5 l6 l7 z8 z9 r1⦄,N6 n z1 z2 s3 s4 s5 l6 l7 z8 z9=some r1->
  BB Tryz.prog inv 54 [.d (.agg [.int .u8 z1,.int .i64 z2,.str s3,.str s4,.str s5,.list false 1 l6,.list true 8 l7,.int .i64 z8]),.d (.int .i64 z9)] [] (.v (.d (.bool r1))) [] []:=fun z1 z2 s3 s4 s5 l6 l7 z8 z9 r1 h=>vN.ok n [.I z1,.I z2,.S s3,.S s4,.S s5,.L l6,.L l7,.I z8,.I z9] _ h _ _ _ _ _ _ rfl rfl rfl rfl _ rfl
def Lc (n:Nat) (z1:Int) (z2:Int) (s3:BA) (s4:BA) (s5:BA) (l6:LD) (l7:LD) (z8:Int) (z9:Int) (z10:Int) (b11:Bool) (b12:Bool) (b13:Bool) (b14:Bool) (b15:Bool) (b16:Bool) (z17:Int):Option (Bool×Int×Int×Bool×Bool×Bool×Bool×Bool×Bool×Int):=
 (if b16=true then AE (IntKind.wrap .i64 (z17 - 1)) fun z18=>bO1 (N6 n z1 z2 s3 s4 s5 l6 l7 z8 z18) fun b19=>some (b19,z9,z10,b11,b12,b13,b14,b15,true,z17)else bO1 (Wj n z1 z2 s3 s4 s5 l6 l7 z8) fun b20=>AI (!b20) fun b21=>(if b21=true then AE (IntKind.wrap .i64 (z17 - 1)) fun z22=>bO1 (N6 n z1 z2 s3 s4 s5 l6 l7 z8 z22) fun b23=>some (b23,z9,z10,b11,b12,b13,b14,b15,false,z17)else some (false,z9,z10,b11,b12,b13,b14,b15,false,z17)))
theorem pC (n:Nat):∀⦃z1 z2 s3 s4 s5 l6 l7 z8 z9 z10 b11 b12 b13 b14 b15 b16 z17 r1 r2 r3 r4 r5 r6 r7 r8 r9 r10⦄,Lc n z1 z2 s3 s4 s5 l6 l7 z8 z9 z10 b11 b12 b13 b14 b15 b16 z17=some (r1,r2,r3,r4,r5,r6,r7,r8,r9,r10)->
    BB Tryz.prog inv 128 [.d (.agg [.int .u8 z1,.int .i64 z2,.str s3,.str s4,.str s5,.list false 1 l6,.list true 8 l7,.int .i64 z8]),.c (.ptr (.ext 0) 0),.c (.ptr (.ext 1) 0)] [.cells [.d (.int .i64 z9),.d (.int .i64 z10),.d (.bool b11),.d (.bool b12),.d (.bool b13),.d (.bool b14),.d (.bool b15),.d (.bool b16),.fn 145 [],.fn 145 []],.cells [.d (.int .i64 z17)]] (.v (.d (.bool r1))) [.cells [.d (.int .i64 r2),.d (.int .i64 r3),.d (.bool r4),.d (.bool r5),.d (.bool r6),.d (.bool r7),.d (.bool r8),.d (.bool r9),.fn 145 [],.fn 145 []],.cells [.d (.int .i64 r10)]] []:=by
 intro z1 z2 s3 s4 s5 l6 l7 z8 z9 z10 b11 b12 b13 b14 b15 b16 z17 r1 r2 r3 r4 r5 r6 r7 r8 r9 r10 h
 unfold Lc at h
 refine BB.of BU BK Ht Tryz.func128 rfl (by kernel_rfl) rfl rfl rfl (fun M hM hI=>?_)
 try cbv
 refine AD ?_
 try cbv
 refine AD ?_
 try cbv
 cases b16
 rotate_left
 ·replace h:=Bx h
  try cbv
  replace h:=Aa h
  obtain⟨z18,hz,h⟩:=h
  refine⟨z18,hz,?_⟩
  clear hz
  try cbv
  replace h:=Ai h
  obtain⟨b19,hr,h⟩:=h
  refine An rfl rfl ?_
  try cbv
  refine AU hM hI (YG _ hr) rfl ?_
  clear hr
  try cbv
  obtain⟨rfl,rfl,rfl,rfl,rfl,rfl,rfl,rfl,rfl,rfl⟩:=Eg h
  refine AZ ?_
  try cbv
  exact⟨[],rfl,rfl,⟨rfl,⟨rfl,trivial⟩⟩,trivial,trivial⟩
 replace h:=Bz h
 try cbv
 replace h:=Ai h
 obtain⟨b20,hr,h⟩:=h
 refine An rfl rfl ?_
 try cbv
 refine AU hM hI (fX _ hr) rfl ?_
 clear hr
 try cbv
 replace h:=C5 h
 obtain⟨b21,hz,h⟩:=h
 refine⟨b21,D0 hz,?_⟩
 clear hz
 try cbv
 cases b21
 ·replace h:=Bz h
  try cbv
  obtain⟨rfl,rfl,rfl,rfl,rfl,rfl,rfl,rfl,rfl,rfl⟩:=Eg h
  refine AZ ?_
  try cbv
  exact⟨[],rfl,rfl,⟨rfl,⟨rfl,trivial⟩⟩,trivial,trivial⟩
 replace h:=Bx h
 try cbv
 replace h:=Aa h
 obtain⟨z22,hz,h⟩:=h
 refine⟨z22,hz,?_⟩
 clear hz
 try cbv
 replace h:=Ai h
 obtain⟨b23,hr,h⟩:=h
 refine An rfl rfl ?_
 try cbv
 refine AU hM hI (YG _ hr) rfl ?_
 clear hr
 try cbv
 obtain⟨rfl,rfl,rfl,rfl,rfl,rfl,rfl,rfl,rfl,rfl⟩:=Eg h
 refine AZ ?_
 try cbv
 exact⟨[],rfl,rfl,⟨rfl,⟨rfl,trivial⟩⟩,trivial,trivial⟩
noncomputable def pD:BW:=⟨128,[.agg [.y,.z,.str,.str,.str,.f 1,.q 8,.z],.p (.ext 0) 0,.p (.ext 1) 0],[[.z,.z,.bool,.bool,.bool,.bool,.bool,.bool,.fn 145 [],.fn 145 []],[.z]],[⟨.one (.b),[[.z,.z,.bool,.bool,.bool,.bool,.bool,.bool,.fn 145 [],.fn 145 []],[.z]],[]⟩],Bool×Int×Int×Bool×Bool×Bool×Bool×Bool×Bool×Int,inferInstance,Lc⟩
noncomputable def pE:Kz:=⟨pD,fun n=>Di fun z1 z2 s3 s4 s5 l6 l7 z8 z9 z10 b11 b12 b13 b14 b15 b16 z17 p h w1 w2 w4 w3 l1 l2 e1 e2 e5 e3 xs e4=>by cases e1;cases e2;cases e4;cases e5;cases e3;exact pC n h⟩
mutual
def Bp:Nat->LD->Int->Int->Int->Int->Bool->Bool->Bool->Bool->Bool->Bool->Int->Option (Bool×Int×Int×Bool×Bool×Bool×Bool×Bool×Bool×Int)
 | 0,_,_,_,_,_,_,_,_,_,_,_,_=>none
 | n+1,l1,z2,z12,z13,z14,b15,b16,b17,b18,b19,b20,z21=>
  AB l1 fun z22=>(if z12<z22 then (if z12<z2 then CA n l1 z2 z12 z13 z14 b15 b16 b17 b18 b19 b20 z21 true else CA n l1 z2 z12 z13 z14 b15 b16 b17 b18 b19 b20 z21 false)else CA n l1 z2 z12 z13 z14 b15 b16 b17 b18 b19 b20 z21 false)
def CA:Nat->LD->Int->Int->Int->Int->Bool->Bool->Bool->Bool->Bool->Bool->Int->Bool->Option (Bool×Int×Int×Bool×Bool×Bool×Bool×Bool×Bool×Int)
 | 0,_,_,_,_,_,_,_,_,_,_,_,_,_=>none
 | n+1,l1,z2,z12,z13,z14,b15,b16,b17,b18,b19,b20,z21,b23=>
  (if b23=true then Ae l1 z12 fun x24=>Ao x24 fun z25 z26 s27 s28 s29 l30 l31 z32=>bO10 (Lc n z25 z26 s27 s28 s29 l30 l31 z32 z13 z14 b15 b16 b17 b18 b19 b20 z21) fun b33 z34 z35 b36 b37 b38 b39 b40 b41 z42=>AI (!b33) fun b43=>(if b43=true then some (false,z34,z35,b36,b37,b38,b39,b40,b41,z42)else AE (IntKind.wrap .i64 (z12+1)) fun z44=>Bp n l1 z2 z44 z34 z35 b36 b37 b38 b39 b40 b41 z42)else AB l1 fun z45=>(if z45<=z2 then some (true,z13,z14,b15,b16,b17,b18,b19,b20,z21)else some (false,z13,z14,b15,b16,b17,b18,b19,b20,z21)))
end
def FD (n:Nat) (l1:LD) (z2:Int) (z3:Int) (z4:Int) (b5:Bool) (b6:Bool) (b7:Bool) (b8:Bool) (b9:Bool) (b10:Bool) (z11:Int):Option (Bool×Int×Int×Bool×Bool×Bool×Bool×Bool×Bool×Int):=
 Bp n l1 z2 (0:Int) z3 z4 b5 b6 b7 b8 b9 b10 z11
noncomputable def jO:BS:=⟨98,Tryz.f98,[.q 8,.z,.one (.fn 128 [.ext 0,.ext 1])],[[.z,.z,.bool,.bool,.bool,.bool,.bool,.bool,.fn 145 [],.fn 145 []],[.z]],⟨.one (.b),[[.z,.z,.bool,.bool,.bool,.bool,.bool,.bool,.fn 145 [],.fn 145 []],[.z]],[]⟩,Bool×Int×Int×Bool×Bool×Bool×Bool×Bool×Bool×Int,inferInstance,FD,[⟨26,[0,1,2,6,7],[.ext 0,.ext 1],64,[.q 8,.z,.one (.fn 128 [.ext 0,.ext 1]),.one (.cb false),.z],[[.z,.z,.bool,.bool,.bool,.bool,.bool,.bool,.fn 145 [],.fn 145 []],[.z]],fun n l1 z2 z12 z13 z14 b15 b16 b17 b18 b19 b20 z21=>Bp n l1 z2 z12 z13 z14 b15 b16 b17 b18 b19 b20 z21⟩,
 ⟨209,[0,1,2,6,7,16],[.ext 0,.ext 1],352,[.q 8,.z,.one (.fn 128 [.ext 0,.ext 1]),.one (.cb false),.z,.b],[[.z,.z,.bool,.bool,.bool,.bool,.bool,.bool,.fn 145 [],.fn 145 []],[.z]],fun n l1 z2 z12 b23 z13 z14 b15 b16 b17 b18 b19 b20 z21=>CA n l1 z2 z12 z13 z14 b15 b16 b17 b18 b19 b20 z21 b23⟩]⟩
noncomputable def jP:Kz:=sg jO [pE] Tryz.func98 (by kernel_rfl) (by kernel_rfl) (by kernel_rfl)
def NC (n:Nat) (z1:Int) (z2:Int) (s3:BA) (s4:BA) (s5:BA) (l6:LD) (l7:LD) (z8:Int) (z9:Int) (z10:Int) (b11:Bool) (b12:Bool) (b13:Bool) (b14:Bool) (b15:Bool) (b16:Bool) (z17:Int):Option (Bool×Int×Int×Bool×Bool×Bool×Bool×Bool×Bool×Int):=
 (if b16=true then AE (IntKind.wrap .i64 (z17 - 1)) fun z18=>bO1 (N6 n z1 z2 s3 s4 s5 l6 l7 z8 z18) fun b19=>some (b19,z9,z10,b11,b12,b13,b14,b15,true,z17)else bO1 (Wj n z1 z2 s3 s4 s5 l6 l7 z8) fun b20=>AI (!b20) fun b21=>(if b21=true then AE (IntKind.wrap .i64 (z17 - 1)) fun z22=>bO1 (N6 n z1 z2 s3 s4 s5 l6 l7 z8 z22) fun b23=>some (b23,z9,z10,b11,b12,b13,b14,b15,false,z17)else some (false,z9,z10,b11,b12,b13,b14,b15,false,z17)))
theorem dE (n:Nat):∀⦃z1 z2 s3 s4 s5 l6 l7 z8 z9 z10 b11 b12 b13 b14 b15 b16 z17 r1 r2 r3 r4 r5 r6 r7 r8 r9 r10⦄,NC n z1 z2 s3 s4 s5 l6 l7 z8 z9 z10 b11 b12 b13 b14 b15 b16 z17=some (r1,r2,r3,r4,r5,r6,r7,r8,r9,r10)->
    BB Tryz.prog inv 128 [.d (.agg [.int .u8 z1,.int .i64 z2,.str s3,.str s4,.str s5,.list false 1 l6,.list true 8 l7,.int .i64 z8]),.c (.ptr (.ext 0) 0),.c (.ptr (.ext 1) 0)] [.cells [.d (.int .i64 z9),.d (.int .i64 z10),.d (.bool b11),.d (.bool b12),.d (.bool b13),.d (.bool b14),.d (.bool b15),.d (.bool b16),.fn 74 [],.fn 145 []],.cells [.d (.int .i64 z17)]] (.v (.d (.bool r1))) [.cells [.d (.int .i64 r2),.d (.int .i64 r3),.d (.bool r4),.d (.bool r5),.d (.bool r6),.d (.bool r7),.d (.bool r8),.d (.bool r9),.fn 74 [],.fn 145 []],.cells [.d (.int .i64 r10)]] []:=by
 intro z1 z2 s3 s4 s5 l6 l7 z8 z9 z10 b11 b12 b13 b14 b15 b16 z17 r1 r2 r3 r4 r5 r6 r7 r8 r9 r10 h
 unfold NC at h
 refine BB.of BU BK Ht Tryz.func128 rfl (by kernel_rfl) rfl rfl rfl (fun M hM hI=>?_)
 try cbv
 refine AD ?_
 try cbv
 refine AD ?_
 try cbv
 cases b16
 rotate_left
 ·replace h:=Bx h
  try cbv
  replace h:=Aa h
  obtain⟨z18,hz,h⟩:=h
  refine⟨z18,hz,?_⟩
  clear hz
  try cbv
  replace h:=Ai h
  obtain⟨b19,hr,h⟩:=h
  refine An rfl rfl ?_
  try cbv
  refine AU hM hI (YG _ hr) rfl ?_
  clear hr
  try cbv
  obtain⟨rfl,rfl,rfl,rfl,rfl,rfl,rfl,rfl,rfl,rfl⟩:=Eg h
  refine AZ ?_
  try cbv
  exact⟨[],rfl,rfl,⟨rfl,⟨rfl,trivial⟩⟩,trivial,trivial⟩
 replace h:=Bz h
 try cbv
 replace h:=Ai h
 obtain⟨b20,hr,h⟩:=h
 refine An rfl rfl ?_
 try cbv
 refine AU hM hI (fX _ hr) rfl ?_
 clear hr
 try cbv
 replace h:=C5 h
 obtain⟨b21,hz,h⟩:=h
 refine⟨b21,D0 hz,?_⟩
 clear hz
 try cbv
 cases b21
 ·replace h:=Bz h
  try cbv
  obtain⟨rfl,rfl,rfl,rfl,rfl,rfl,rfl,rfl,rfl,rfl⟩:=Eg h
  refine AZ ?_
  try cbv
  exact⟨[],rfl,rfl,⟨rfl,⟨rfl,trivial⟩⟩,trivial,trivial⟩
 replace h:=Bx h
 try cbv
 replace h:=Aa h
 obtain⟨z22,hz,h⟩:=h
 refine⟨z22,hz,?_⟩
 clear hz
 try cbv
 replace h:=Ai h
 obtain⟨b23,hr,h⟩:=h
 refine An rfl rfl ?_
 try cbv
 refine AU hM hI (YG _ hr) rfl ?_
 clear hr
 try cbv
 obtain⟨rfl,rfl,rfl,rfl,rfl,rfl,rfl,rfl,rfl,rfl⟩:=Eg h
 refine AZ ?_
 try cbv
 exact⟨[],rfl,rfl,⟨rfl,⟨rfl,trivial⟩⟩,trivial,trivial⟩
noncomputable def dF:BW:=⟨128,[.agg [.y,.z,.str,.str,.str,.f 1,.q 8,.z],.p (.ext 0) 0,.p (.ext 1) 0],[[.z,.z,.bool,.bool,.bool,.bool,.bool,.bool,.fn 74 [],.fn 145 []],[.z]],[⟨.one (.b),[[.z,.z,.bool,.bool,.bool,.bool,.bool,.bool,.fn 74 [],.fn 145 []],[.z]],[]⟩],Bool×Int×Int×Bool×Bool×Bool×Bool×Bool×Bool×Int,inferInstance,NC⟩
noncomputable def dG:Kz:=⟨dF,fun n=>Di fun z1 z2 s3 s4 s5 l6 l7 z8 z9 z10 b11 b12 b13 b14 b15 b16 z17 p h w1 w2 w4 w3 l1 l2 e1 e2 e5 e3 xs e4=>by cases e1;cases e2;cases e4;cases e5;cases e3;exact dE n h⟩
mutual
def JS:Nat->LD->Int->Int->Int->Int->Bool->Bool->Bool->Bool->Bool->Bool->Int->Option (Bool×Int×Int×Bool×Bool×Bool×Bool×Bool×Bool×Int)
 | 0,_,_,_,_,_,_,_,_,_,_,_,_=>none
 | n+1,l1,z2,z12,z13,z14,b15,b16,b17,b18,b19,b20,z21=>
  AB l1 fun z22=>(if z12<z22 then (if z12<z2 then Hh n l1 z2 z12 z13 z14 b15 b16 b17 b18 b19 b20 z21 true else Hh n l1 z2 z12 z13 z14 b15 b16 b17 b18 b19 b20 z21 false)else Hh n l1 z2 z12 z13 z14 b15 b16 b17 b18 b19 b20 z21 false)
def Hh:Nat->LD->Int->Int->Int->Int->Bool->Bool->Bool->Bool->Bool->Bool->Int->Bool->Option (Bool×Int×Int×Bool×Bool×Bool×Bool×Bool×Bool×Int)
 | 0,_,_,_,_,_,_,_,_,_,_,_,_,_=>none
 | n+1,l1,z2,z12,z13,z14,b15,b16,b17,b18,b19,b20,z21,b23=>
  (if b23=true then Ae l1 z12 fun x24=>Ao x24 fun z25 z26 s27 s28 s29 l30 l31 z32=>bO10 (NC n z25 z26 s27 s28 s29 l30 l31 z32 z13 z14 b15 b16 b17 b18 b19 b20 z21) fun b33 z34 z35 b36 b37 b38 b39 b40 b41 z42=>AI (!b33) fun b43=>(if b43=true then some (false,z34,z35,b36,b37,b38,b39,b40,b41,z42)else AE (IntKind.wrap .i64 (z12+1)) fun z44=>JS n l1 z2 z44 z34 z35 b36 b37 b38 b39 b40 b41 z42)else AB l1 fun z45=>(if z45<=z2 then some (true,z13,z14,b15,b16,b17,b18,b19,b20,z21)else some (false,z13,z14,b15,b16,b17,b18,b19,b20,z21)))
end
def Vj (n:Nat) (l1:LD) (z2:Int) (z3:Int) (z4:Int) (b5:Bool) (b6:Bool) (b7:Bool) (b8:Bool) (b9:Bool) (b10:Bool) (z11:Int):Option (Bool×Int×Int×Bool×Bool×Bool×Bool×Bool×Bool×Int):=
 JS n l1 z2 (0:Int) z3 z4 b5 b6 b7 b8 b9 b10 z11
noncomputable def jQ:BS:=⟨98,Tryz.f98,[.q 8,.z,.one (.fn 128 [.ext 0,.ext 1])],[[.z,.z,.bool,.bool,.bool,.bool,.bool,.bool,.fn 74 [],.fn 145 []],[.z]],⟨.one (.b),[[.z,.z,.bool,.bool,.bool,.bool,.bool,.bool,.fn 74 [],.fn 145 []],[.z]],[]⟩,Bool×Int×Int×Bool×Bool×Bool×Bool×Bool×Bool×Int,inferInstance,Vj,[⟨26,[0,1,2,6,7],[.ext 0,.ext 1],64,[.q 8,.z,.one (.fn 128 [.ext 0,.ext 1]),.one (.cb false),.z],[[.z,.z,.bool,.bool,.bool,.bool,.bool,.bool,.fn 74 [],.fn 145 []],[.z]],fun n l1 z2 z12 z13 z14 b15 b16 b17 b18 b19 b20 z21=>JS n l1 z2 z12 z13 z14 b15 b16 b17 b18 b19 b20 z21⟩,
 ⟨209,[0,1,2,6,7,16],[.ext 0,.ext 1],352,[.q 8,.z,.one (.fn 128 [.ext 0,.ext 1]),.one (.cb false),.z,.b],[[.z,.z,.bool,.bool,.bool,.bool,.bool,.bool,.fn 74 [],.fn 145 []],[.z]],fun n l1 z2 z12 b23 z13 z14 b15 b16 b17 b18 b19 b20 z21=>Hh n l1 z2 z12 z13 z14 b15 b16 b17 b18 b19 b20 z21 b23⟩]⟩
noncomputable def jR:Kz:=sg jQ [dG] Tryz.func98 (by kernel_rfl) (by kernel_rfl) (by kernel_rfl)
def ND (n:Nat) (z1:Int) (z2:Int) (s3:BA) (s4:BA) (s5:BA) (l6:LD) (l7:LD) (z8:Int) (z9:Int) (z10:Int) (b11:Bool) (b12:Bool) (b13:Bool) (b14:Bool) (b15:Bool) (b16:Bool) (z17:Int):Option (Bool×Int×Int×Bool×Bool×Bool×Bool×Bool×Bool×Int):=
 (if b16=true then AE (IntKind.wrap .i64 (z17 - 1)) fun z18=>bO1 (N6 n z1 z2 s3 s4 s5 l6 l7 z8 z18) fun b19=>some (b19,z9,z10,b11,b12,b13,b14,b15,true,z17)else bO1 (Wj n z1 z2 s3 s4 s5 l6 l7 z8) fun b20=>AI (!b20) fun b21=>(if b21=true then AE (IntKind.wrap .i64 (z17 - 1)) fun z22=>bO1 (N6 n z1 z2 s3 s4 s5 l6 l7 z8 z22) fun b23=>some (b23,z9,z10,b11,b12,b13,b14,b15,false,z17)else some (false,z9,z10,b11,b12,b13,b14,b15,false,z17)))
theorem dH (n:Nat):∀⦃z1 z2 s3 s4 s5 l6 l7 z8 z9 z10 b11 b12 b13 b14 b15 b16 z17 r1 r2 r3 r4 r5 r6 r7 r8 r9 r10⦄,ND n z1 z2 s3 s4 s5 l6 l7 z8 z9 z10 b11 b12 b13 b14 b15 b16 z17=some (r1,r2,r3,r4,r5,r6,r7,r8,r9,r10)->
    BB Tryz.prog inv 128 [.d (.agg [.int .u8 z1,.int .i64 z2,.str s3,.str s4,.str s5,.list false 1 l6,.list true 8 l7,.int .i64 z8]),.c (.ptr (.ext 0) 0),.c (.ptr (.ext 1) 0)] [.cells [.d (.int .i64 z9),.d (.int .i64 z10),.d (.bool b11),.d (.bool b12),.d (.bool b13),.d (.bool b14),.d (.bool b15),.d (.bool b16),.fn 73 [],.fn 145 []],.cells [.d (.int .i64 z17)]] (.v (.d (.bool r1))) [.cells [.d (.int .i64 r2),.d (.int .i64 r3),.d (.bool r4),.d (.bool r5),.d (.bool r6),.d (.bool r7),.d (.bool r8),.d (.bool r9),.fn 73 [],.fn 145 []],.cells [.d (.int .i64 r10)]] []:=by
 intro z1 z2 s3 s4 s5 l6 l7 z8 z9 z10 b11 b12 b13 b14 b15 b16 z17 r1 r2 r3 r4 r5 r6 r7 r8 r9 r10 h
 unfold ND at h
 refine BB.of BU BK Ht Tryz.func128 rfl (by kernel_rfl) rfl rfl rfl (fun M hM hI=>?_)
 try cbv
 refine AD ?_
 try cbv
 refine AD ?_
 try cbv
 cases b16
 rotate_left
 ·replace h:=Bx h
  try cbv
  replace h:=Aa h
  obtain⟨z18,hz,h⟩:=h
  refine⟨z18,hz,?_⟩
  clear hz
  try cbv
  replace h:=Ai h
  obtain⟨b19,hr,h⟩:=h
  refine An rfl rfl ?_
  try cbv
  refine AU hM hI (YG _ hr) rfl ?_
  clear hr
  try cbv
  obtain⟨rfl,rfl,rfl,rfl,rfl,rfl,rfl,rfl,rfl,rfl⟩:=Eg h
  refine AZ ?_
  try cbv
  exact⟨[],rfl,rfl,⟨rfl,⟨rfl,trivial⟩⟩,trivial,trivial⟩
 replace h:=Bz h
 try cbv
 replace h:=Ai h
 obtain⟨b20,hr,h⟩:=h
 refine An rfl rfl ?_
 try cbv
 refine AU hM hI (fX _ hr) rfl ?_
 clear hr
 try cbv
 replace h:=C5 h
 obtain⟨b21,hz,h⟩:=h
 refine⟨b21,D0 hz,?_⟩
 clear hz
 try cbv
 cases b21
 ·replace h:=Bz h
  try cbv
  obtain⟨rfl,rfl,rfl,rfl,rfl,rfl,rfl,rfl,rfl,rfl⟩:=Eg h
  refine AZ ?_
  try cbv
  exact⟨[],rfl,rfl,⟨rfl,⟨rfl,trivial⟩⟩,trivial,trivial⟩
 replace h:=Bx h
 try cbv
 replace h:=Aa h
 obtain⟨z22,hz,h⟩:=h
 refine⟨z22,hz,?_⟩
 clear hz
 try cbv
 replace h:=Ai h
 obtain⟨b23,hr,h⟩:=h
 refine An rfl rfl ?_
 try cbv
 refine AU hM hI (YG _ hr) rfl ?_
 clear hr
 try cbv
 obtain⟨rfl,rfl,rfl,rfl,rfl,rfl,rfl,rfl,rfl,rfl⟩:=Eg h
 refine AZ ?_
 try cbv
 exact⟨[],rfl,rfl,⟨rfl,⟨rfl,trivial⟩⟩,trivial,trivial⟩
noncomputable def dI:BW:=⟨128,[.agg [.y,.z,.str,.str,.str,.f 1,.q 8,.z],.p (.ext 0) 0,.p (.ext 1) 0],[[.z,.z,.bool,.bool,.bool,.bool,.bool,.bool,.fn 73 [],.fn 145 []],[.z]],[⟨.one (.b),[[.z,.z,.bool,.bool,.bool,.bool,.bool,.bool,.fn 73 [],.fn 145 []],[.z]],[]⟩],Bool×Int×Int×Bool×Bool×Bool×Bool×Bool×Bool×Int,inferInstance,ND⟩
noncomputable def dJ:Kz:=⟨dI,fun n=>Di fun z1 z2 s3 s4 s5 l6 l7 z8 z9 z10 b11 b12 b13 b14 b15 b16 z17 p h w1 w2 w4 w3 l1 l2 e1 e2 e5 e3 xs e4=>by cases e1;cases e2;cases e4;cases e5;cases e3;exact dH n h⟩
mutual
def JT:Nat->LD->Int->Int->Int->Int->Bool->Bool->Bool->Bool->Bool->Bool->Int->Option (Bool×Int×Int×Bool×Bool×Bool×Bool×Bool×Bool×Int)
 | 0,_,_,_,_,_,_,_,_,_,_,_,_=>none
 | n+1,l1,z2,z12,z13,z14,b15,b16,b17,b18,b19,b20,z21=>
  AB l1 fun z22=>(if z12<z22 then (if z12<z2 then Hi n l1 z2 z12 z13 z14 b15 b16 b17 b18 b19 b20 z21 true else Hi n l1 z2 z12 z13 z14 b15 b16 b17 b18 b19 b20 z21 false)else Hi n l1 z2 z12 z13 z14 b15 b16 b17 b18 b19 b20 z21 false)
def Hi:Nat->LD->Int->Int->Int->Int->Bool->Bool->Bool->Bool->Bool->Bool->Int->Bool->Option (Bool×Int×Int×Bool×Bool×Bool×Bool×Bool×Bool×Int)
 | 0,_,_,_,_,_,_,_,_,_,_,_,_,_=>none
 | n+1,l1,z2,z12,z13,z14,b15,b16,b17,b18,b19,b20,z21,b23=>
  (if b23=true then Ae l1 z12 fun x24=>Ao x24 fun z25 z26 s27 s28 s29 l30 l31 z32=>bO10 (ND n z25 z26 s27 s28 s29 l30 l31 z32 z13 z14 b15 b16 b17 b18 b19 b20 z21) fun b33 z34 z35 b36 b37 b38 b39 b40 b41 z42=>AI (!b33) fun b43=>(if b43=true then some (false,z34,z35,b36,b37,b38,b39,b40,b41,z42)else AE (IntKind.wrap .i64 (z12+1)) fun z44=>JT n l1 z2 z44 z34 z35 b36 b37 b38 b39 b40 b41 z42)else AB l1 fun z45=>(if z45<=z2 then some (true,z13,z14,b15,b16,b17,b18,b19,b20,z21)else some (false,z13,z14,b15,b16,b17,b18,b19,b20,z21)))
end
def Vk (n:Nat) (l1:LD) (z2:Int) (z3:Int) (z4:Int) (b5:Bool) (b6:Bool) (b7:Bool) (b8:Bool) (b9:Bool) (b10:Bool) (z11:Int):Option (Bool×Int×Int×Bool×Bool×Bool×Bool×Bool×Bool×Int):=
 JT n l1 z2 (0:Int) z3 z4 b5 b6 b7 b8 b9 b10 z11
noncomputable def jS:BS:=⟨98,Tryz.f98,[.q 8,.z,.one (.fn 128 [.ext 0,.ext 1])],[[.z,.z,.bool,.bool,.bool,.bool,.bool,.bool,.fn 73 [],.fn 145 []],[.z]],⟨.one (.b),[[.z,.z,.bool,.bool,.bool,.bool,.bool,.bool,.fn 73 [],.fn 145 []],[.z]],[]⟩,Bool×Int×Int×Bool×Bool×Bool×Bool×Bool×Bool×Int,inferInstance,Vk,[⟨26,[0,1,2,6,7],[.ext 0,.ext 1],64,[.q 8,.z,.one (.fn 128 [.ext 0,.ext 1]),.one (.cb false),.z],[[.z,.z,.bool,.bool,.bool,.bool,.bool,.bool,.fn 73 [],.fn 145 []],[.z]],fun n l1 z2 z12 z13 z14 b15 b16 b17 b18 b19 b20 z21=>JT n l1 z2 z12 z13 z14 b15 b16 b17 b18 b19 b20 z21⟩,
 ⟨209,[0,1,2,6,7,16],[.ext 0,.ext 1],352,[.q 8,.z,.one (.fn 128 [.ext 0,.ext 1]),.one (.cb false),.z,.b],[[.z,.z,.bool,.bool,.bool,.bool,.bool,.bool,.fn 73 [],.fn 145 []],[.z]],fun n l1 z2 z12 b23 z13 z14 b15 b16 b17 b18 b19 b20 z21=>Hi n l1 z2 z12 z13 z14 b15 b16 b17 b18 b19 b20 z21 b23⟩]⟩
noncomputable def jT:Kz:=sg jS [dJ] Tryz.func98 (by kernel_rfl) (by kernel_rfl) (by kernel_rfl)
def NF (n:Nat) (z1:Int) (z2:Int) (s3:BA) (s4:BA) (s5:BA) (l6:LD) (l7:LD) (z8:Int) (z9:Int) (z10:Int) (b11:Bool) (b12:Bool) (b13:Bool) (b14:Bool) (b15:Bool) (b16:Bool) (z17:Int):Option (Bool×Int×Int×Bool×Bool×Bool×Bool×Bool×Bool×Int):=
 (if b16=true then AE (IntKind.wrap .i64 (z17 - 1)) fun z18=>bO1 (N6 n z1 z2 s3 s4 s5 l6 l7 z8 z18) fun b19=>some (b19,z9,z10,b11,b12,b13,b14,b15,true,z17)else bO1 (Wj n z1 z2 s3 s4 s5 l6 l7 z8) fun b20=>AI (!b20) fun b21=>(if b21=true then AE (IntKind.wrap .i64 (z17 - 1)) fun z22=>bO1 (N6 n z1 z2 s3 s4 s5 l6 l7 z8 z22) fun b23=>some (b23,z9,z10,b11,b12,b13,b14,b15,false,z17)else some (false,z9,z10,b11,b12,b13,b14,b15,false,z17)))
theorem dK (n:Nat):∀⦃z1 z2 s3 s4 s5 l6 l7 z8 z9 z10 b11 b12 b13 b14 b15 b16 z17 r1 r2 r3 r4 r5 r6 r7 r8 r9 r10⦄,NF n z1 z2 s3 s4 s5 l6 l7 z8 z9 z10 b11 b12 b13 b14 b15 b16 z17=some (r1,r2,r3,r4,r5,r6,r7,r8,r9,r10)->
    BB Tryz.prog inv 128 [.d (.agg [.int .u8 z1,.int .i64 z2,.str s3,.str s4,.str s5,.list false 1 l6,.list true 8 l7,.int .i64 z8]),.c (.ptr (.ext 0) 0),.c (.ptr (.ext 1) 0)] [.cells [.d (.int .i64 z9),.d (.int .i64 z10),.d (.bool b11),.d (.bool b12),.d (.bool b13),.d (.bool b14),.d (.bool b15),.d (.bool b16),.fn 74 [],.fn 73 []],.cells [.d (.int .i64 z17)]] (.v (.d (.bool r1))) [.cells [.d (.int .i64 r2),.d (.int .i64 r3),.d (.bool r4),.d (.bool r5),.d (.bool r6),.d (.bool r7),.d (.bool r8),.d (.bool r9),.fn 74 [],.fn 73 []],.cells [.d (.int .i64 r10)]] []:=by
 intro z1 z2 s3 s4 s5 l6 l7 z8 z9 z10 b11 b12 b13 b14 b15 b16 z17 r1 r2 r3 r4 r5 r6 r7 r8 r9 r10 h
 unfold NF at h
 refine BB.of BU BK Ht Tryz.func128 rfl (by kernel_rfl) rfl rfl rfl (fun M hM hI=>?_)
 try cbv
 refine AD ?_
 try cbv
 refine AD ?_
 try cbv
 cases b16
 rotate_left
 ·replace h:=Bx h
  try cbv
  replace h:=Aa h
  obtain⟨z18,hz,h⟩:=h
  refine⟨z18,hz,?_⟩
  clear hz
  try cbv
  replace h:=Ai h
  obtain⟨b19,hr,h⟩:=h
  refine An rfl rfl ?_
  try cbv
  refine AU hM hI (YG _ hr) rfl ?_
  clear hr
  try cbv
  obtain⟨rfl,rfl,rfl,rfl,rfl,rfl,rfl,rfl,rfl,rfl⟩:=Eg h
  refine AZ ?_
  try cbv
  exact⟨[],rfl,rfl,⟨rfl,⟨rfl,trivial⟩⟩,trivial,trivial⟩
 replace h:=Bz h
 try cbv
 replace h:=Ai h
 obtain⟨b20,hr,h⟩:=h
 refine An rfl rfl ?_
 try cbv
 refine AU hM hI (fX _ hr) rfl ?_
 clear hr
 try cbv
 replace h:=C5 h
 obtain⟨b21,hz,h⟩:=h
 refine⟨b21,D0 hz,?_⟩
 clear hz
 try cbv
 cases b21
 ·replace h:=Bz h
  try cbv
  obtain⟨rfl,rfl,rfl,rfl,rfl,rfl,rfl,rfl,rfl,rfl⟩:=Eg h
  refine AZ ?_
  try cbv
  exact⟨[],rfl,rfl,⟨rfl,⟨rfl,trivial⟩⟩,trivial,trivial⟩
 replace h:=Bx h
 try cbv
 replace h:=Aa h
 obtain⟨z22,hz,h⟩:=h
 refine⟨z22,hz,?_⟩
 clear hz
 try cbv
 replace h:=Ai h
 obtain⟨b23,hr,h⟩:=h
 refine An rfl rfl ?_
 try cbv
 refine AU hM hI (YG _ hr) rfl ?_
 clear hr
 try cbv
 obtain⟨rfl,rfl,rfl,rfl,rfl,rfl,rfl,rfl,rfl,rfl⟩:=Eg h
 refine AZ ?_
 try cbv
 exact⟨[],rfl,rfl,⟨rfl,⟨rfl,trivial⟩⟩,trivial,trivial⟩
noncomputable def dL:BW:=⟨128,[.agg [.y,.z,.str,.str,.str,.f 1,.q 8,.z],.p (.ext 0) 0,.p (.ext 1) 0],[[.z,.z,.bool,.bool,.bool,.bool,.bool,.bool,.fn 74 [],.fn 73 []],[.z]],[⟨.one (.b),[[.z,.z,.bool,.bool,.bool,.bool,.bool,.bool,.fn 74 [],.fn 73 []],[.z]],[]⟩],Bool×Int×Int×Bool×Bool×Bool×Bool×Bool×Bool×Int,inferInstance,NF⟩
noncomputable def dM:Kz:=⟨dL,fun n=>Di fun z1 z2 s3 s4 s5 l6 l7 z8 z9 z10 b11 b12 b13 b14 b15 b16 z17 p h w1 w2 w4 w3 l1 l2 e1 e2 e5 e3 xs e4=>by cases e1;cases e2;cases e4;cases e5;cases e3;exact dK n h⟩
mutual
def JU:Nat->LD->Int->Int->Int->Int->Bool->Bool->Bool->Bool->Bool->Bool->Int->Option (Bool×Int×Int×Bool×Bool×Bool×Bool×Bool×Bool×Int)
 | 0,_,_,_,_,_,_,_,_,_,_,_,_=>none
 | n+1,l1,z2,z12,z13,z14,b15,b16,b17,b18,b19,b20,z21=>
  AB l1 fun z22=>(if z12<z22 then (if z12<z2 then Hj n l1 z2 z12 z13 z14 b15 b16 b17 b18 b19 b20 z21 true else Hj n l1 z2 z12 z13 z14 b15 b16 b17 b18 b19 b20 z21 false)else Hj n l1 z2 z12 z13 z14 b15 b16 b17 b18 b19 b20 z21 false)
def Hj:Nat->LD->Int->Int->Int->Int->Bool->Bool->Bool->Bool->Bool->Bool->Int->Bool->Option (Bool×Int×Int×Bool×Bool×Bool×Bool×Bool×Bool×Int)
 | 0,_,_,_,_,_,_,_,_,_,_,_,_,_=>none
 | n+1,l1,z2,z12,z13,z14,b15,b16,b17,b18,b19,b20,z21,b23=>
  (if b23=true then Ae l1 z12 fun x24=>Ao x24 fun z25 z26 s27 s28 s29 l30 l31 z32=>bO10 (NF n z25 z26 s27 s28 s29 l30 l31 z32 z13 z14 b15 b16 b17 b18 b19 b20 z21) fun b33 z34 z35 b36 b37 b38 b39 b40 b41 z42=>AI (!b33) fun b43=>(if b43=true then some (false,z34,z35,b36,b37,b38,b39,b40,b41,z42)else AE (IntKind.wrap .i64 (z12+1)) fun z44=>JU n l1 z2 z44 z34 z35 b36 b37 b38 b39 b40 b41 z42)else AB l1 fun z45=>(if z45<=z2 then some (true,z13,z14,b15,b16,b17,b18,b19,b20,z21)else some (false,z13,z14,b15,b16,b17,b18,b19,b20,z21)))
end
def Vl (n:Nat) (l1:LD) (z2:Int) (z3:Int) (z4:Int) (b5:Bool) (b6:Bool) (b7:Bool) (b8:Bool) (b9:Bool) (b10:Bool) (z11:Int):Option (Bool×Int×Int×Bool×Bool×Bool×Bool×Bool×Bool×Int):=
 JU n l1 z2 (0:Int) z3 z4 b5 b6 b7 b8 b9 b10 z11
noncomputable def jU:BS:=⟨98,Tryz.f98,[.q 8,.z,.one (.fn 128 [.ext 0,.ext 1])],[[.z,.z,.bool,.bool,.bool,.bool,.bool,.bool,.fn 74 [],.fn 73 []],[.z]],⟨.one (.b),[[.z,.z,.bool,.bool,.bool,.bool,.bool,.bool,.fn 74 [],.fn 73 []],[.z]],[]⟩,Bool×Int×Int×Bool×Bool×Bool×Bool×Bool×Bool×Int,inferInstance,Vl,[⟨26,[0,1,2,6,7],[.ext 0,.ext 1],64,[.q 8,.z,.one (.fn 128 [.ext 0,.ext 1]),.one (.cb false),.z],[[.z,.z,.bool,.bool,.bool,.bool,.bool,.bool,.fn 74 [],.fn 73 []],[.z]],fun n l1 z2 z12 z13 z14 b15 b16 b17 b18 b19 b20 z21=>JU n l1 z2 z12 z13 z14 b15 b16 b17 b18 b19 b20 z21⟩,
 ⟨209,[0,1,2,6,7,16],[.ext 0,.ext 1],352,[.q 8,.z,.one (.fn 128 [.ext 0,.ext 1]),.one (.cb false),.z,.b],[[.z,.z,.bool,.bool,.bool,.bool,.bool,.bool,.fn 74 [],.fn 73 []],[.z]],fun n l1 z2 z12 b23 z13 z14 b15 b16 b17 b18 b19 b20 z21=>Hj n l1 z2 z12 z13 z14 b15 b16 b17 b18 b19 b20 z21 b23⟩]⟩
noncomputable def jV:Kz:=sg jU [dM] Tryz.func98 (by kernel_rfl) (by kernel_rfl) (by kernel_rfl)
def NG (n:Nat) (z1:Int) (z2:Int) (s3:BA) (s4:BA) (s5:BA) (l6:LD) (l7:LD) (z8:Int) (z9:Int) (z10:Int) (b11:Bool) (b12:Bool) (b13:Bool) (b14:Bool) (b15:Bool) (b16:Bool) (z17:Int):Option (Bool×Int×Int×Bool×Bool×Bool×Bool×Bool×Bool×Int):=
 (if b16=true then AE (IntKind.wrap .i64 (z17 - 1)) fun z18=>bO1 (N6 n z1 z2 s3 s4 s5 l6 l7 z8 z18) fun b19=>some (b19,z9,z10,b11,b12,b13,b14,b15,true,z17)else bO1 (Wj n z1 z2 s3 s4 s5 l6 l7 z8) fun b20=>AI (!b20) fun b21=>(if b21=true then AE (IntKind.wrap .i64 (z17 - 1)) fun z22=>bO1 (N6 n z1 z2 s3 s4 s5 l6 l7 z8 z22) fun b23=>some (b23,z9,z10,b11,b12,b13,b14,b15,false,z17)else some (false,z9,z10,b11,b12,b13,b14,b15,false,z17)))
theorem dN (n:Nat):∀⦃z1 z2 s3 s4 s5 l6 l7 z8 z9 z10 b11 b12 b13 b14 b15 b16 z17 r1 r2 r3 r4 r5 r6 r7 r8 r9 r10⦄,NG n z1 z2 s3 s4 s5 l6 l7 z8 z9 z10 b11 b12 b13 b14 b15 b16 z17=some (r1,r2,r3,r4,r5,r6,r7,r8,r9,r10)->
    BB Tryz.prog inv 128 [.d (.agg [.int .u8 z1,.int .i64 z2,.str s3,.str s4,.str s5,.list false 1 l6,.list true 8 l7,.int .i64 z8]),.c (.ptr (.ext 0) 0),.c (.ptr (.ext 1) 0)] [.cells [.d (.int .i64 z9),.d (.int .i64 z10),.d (.bool b11),.d (.bool b12),.d (.bool b13),.d (.bool b14),.d (.bool b15),.d (.bool b16),.fn 74 [],.fn 74 []],.cells [.d (.int .i64 z17)]] (.v (.d (.bool r1))) [.cells [.d (.int .i64 r2),.d (.int .i64 r3),.d (.bool r4),.d (.bool r5),.d (.bool r6),.d (.bool r7),.d (.bool r8),.d (.bool r9),.fn 74 [],.fn 74 []],.cells [.d (.int .i64 r10)]] []:=by
 intro z1 z2 s3 s4 s5 l6 l7 z8 z9 z10 b11 b12 b13 b14 b15 b16 z17 r1 r2 r3 r4 r5 r6 r7 r8 r9 r10 h
 unfold NG at h
 refine BB.of BU BK Ht Tryz.func128 rfl (by kernel_rfl) rfl rfl rfl (fun M hM hI=>?_)
 try cbv
 refine AD ?_
 try cbv
 refine AD ?_
 try cbv
 cases b16
 rotate_left
 ·replace h:=Bx h
  try cbv
  replace h:=Aa h
  obtain⟨z18,hz,h⟩:=h
  refine⟨z18,hz,?_⟩
  clear hz
  try cbv
  replace h:=Ai h
  obtain⟨b19,hr,h⟩:=h
  refine An rfl rfl ?_
  try cbv
  refine AU hM hI (YG _ hr) rfl ?_
  clear hr
  try cbv
  obtain⟨rfl,rfl,rfl,rfl,rfl,rfl,rfl,rfl,rfl,rfl⟩:=Eg h
  refine AZ ?_
  try cbv
  exact⟨[],rfl,rfl,⟨rfl,⟨rfl,trivial⟩⟩,trivial,trivial⟩
 replace h:=Bz h
 try cbv
 replace h:=Ai h
 obtain⟨b20,hr,h⟩:=h
 refine An rfl rfl ?_
 try cbv
 refine AU hM hI (fX _ hr) rfl ?_
 clear hr
 try cbv
 replace h:=C5 h
 obtain⟨b21,hz,h⟩:=h
 refine⟨b21,D0 hz,?_⟩
 clear hz
 try cbv
 cases b21
 ·replace h:=Bz h
  try cbv
  obtain⟨rfl,rfl,rfl,rfl,rfl,rfl,rfl,rfl,rfl,rfl⟩:=Eg h
  refine AZ ?_
  try cbv
  exact⟨[],rfl,rfl,⟨rfl,⟨rfl,trivial⟩⟩,trivial,trivial⟩
 replace h:=Bx h
 try cbv
 replace h:=Aa h
 obtain⟨z22,hz,h⟩:=h
 refine⟨z22,hz,?_⟩
 clear hz
 try cbv
 replace h:=Ai h
 obtain⟨b23,hr,h⟩:=h
 refine An rfl rfl ?_
 try cbv
 refine AU hM hI (YG _ hr) rfl ?_
 clear hr
 try cbv
 obtain⟨rfl,rfl,rfl,rfl,rfl,rfl,rfl,rfl,rfl,rfl⟩:=Eg h
 refine AZ ?_
 try cbv
 exact⟨[],rfl,rfl,⟨rfl,⟨rfl,trivial⟩⟩,trivial,trivial⟩
noncomputable def dP:BW:=⟨128,[.agg [.y,.z,.str,.str,.str,.f 1,.q 8,.z],.p (.ext 0) 0,.p (.ext 1) 0],[[.z,.z,.bool,.bool,.bool,.bool,.bool,.bool,.fn 74 [],.fn 74 []],[.z]],[⟨.one (.b),[[.z,.z,.bool,.bool,.bool,.bool,.bool,.bool,.fn 74 [],.fn 74 []],[.z]],[]⟩],Bool×Int×Int×Bool×Bool×Bool×Bool×Bool×Bool×Int,inferInstance,NG⟩
noncomputable def dQ:Kz:=⟨dP,fun n=>Di fun z1 z2 s3 s4 s5 l6 l7 z8 z9 z10 b11 b12 b13 b14 b15 b16 z17 p h w1 w2 w4 w3 l1 l2 e1 e2 e5 e3 xs e4=>by cases e1;cases e2;cases e4;cases e5;cases e3;exact dN n h⟩
mutual
def JV:Nat->LD->Int->Int->Int->Int->Bool->Bool->Bool->Bool->Bool->Bool->Int->Option (Bool×Int×Int×Bool×Bool×Bool×Bool×Bool×Bool×Int)
 | 0,_,_,_,_,_,_,_,_,_,_,_,_=>none
 | n+1,l1,z2,z12,z13,z14,b15,b16,b17,b18,b19,b20,z21=>
  AB l1 fun z22=>(if z12<z22 then (if z12<z2 then Hk n l1 z2 z12 z13 z14 b15 b16 b17 b18 b19 b20 z21 true else Hk n l1 z2 z12 z13 z14 b15 b16 b17 b18 b19 b20 z21 false)else Hk n l1 z2 z12 z13 z14 b15 b16 b17 b18 b19 b20 z21 false)
def Hk:Nat->LD->Int->Int->Int->Int->Bool->Bool->Bool->Bool->Bool->Bool->Int->Bool->Option (Bool×Int×Int×Bool×Bool×Bool×Bool×Bool×Bool×Int)
 | 0,_,_,_,_,_,_,_,_,_,_,_,_,_=>none
 | n+1,l1,z2,z12,z13,z14,b15,b16,b17,b18,b19,b20,z21,b23=>
  (if b23=true then Ae l1 z12 fun x24=>Ao x24 fun z25 z26 s27 s28 s29 l30 l31 z32=>bO10 (NG n z25 z26 s27 s28 s29 l30 l31 z32 z13 z14 b15 b16 b17 b18 b19 b20 z21) fun b33 z34 z35 b36 b37 b38 b39 b40 b41 z42=>AI (!b33) fun b43=>(if b43=true then some (false,z34,z35,b36,b37,b38,b39,b40,b41,z42)else AE (IntKind.wrap .i64 (z12+1)) fun z44=>JV n l1 z2 z44 z34 z35 b36 b37 b38 b39 b40 b41 z42)else AB l1 fun z45=>(if z45<=z2 then some (true,z13,z14,b15,b16,b17,b18,b19,b20,z21)else some (false,z13,z14,b15,b16,b17,b18,b19,b20,z21)))
end
def Vm (n:Nat) (l1:LD) (z2:Int) (z3:Int) (z4:Int) (b5:Bool) (b6:Bool) (b7:Bool) (b8:Bool) (b9:Bool) (b10:Bool) (z11:Int):Option (Bool×Int×Int×Bool×Bool×Bool×Bool×Bool×Bool×Int):=
 JV n l1 z2 (0:Int) z3 z4 b5 b6 b7 b8 b9 b10 z11
noncomputable def jW:BS:=⟨98,Tryz.f98,[.q 8,.z,.one (.fn 128 [.ext 0,.ext 1])],[[.z,.z,.bool,.bool,.bool,.bool,.bool,.bool,.fn 74 [],.fn 74 []],[.z]],⟨.one (.b),[[.z,.z,.bool,.bool,.bool,.bool,.bool,.bool,.fn 74 [],.fn 74 []],[.z]],[]⟩,Bool×Int×Int×Bool×Bool×Bool×Bool×Bool×Bool×Int,inferInstance,Vm,[⟨26,[0,1,2,6,7],[.ext 0,.ext 1],64,[.q 8,.z,.one (.fn 128 [.ext 0,.ext 1]),.one (.cb false),.z],[[.z,.z,.bool,.bool,.bool,.bool,.bool,.bool,.fn 74 [],.fn 74 []],[.z]],fun n l1 z2 z12 z13 z14 b15 b16 b17 b18 b19 b20 z21=>JV n l1 z2 z12 z13 z14 b15 b16 b17 b18 b19 b20 z21⟩,
 ⟨209,[0,1,2,6,7,16],[.ext 0,.ext 1],352,[.q 8,.z,.one (.fn 128 [.ext 0,.ext 1]),.one (.cb false),.z,.b],[[.z,.z,.bool,.bool,.bool,.bool,.bool,.bool,.fn 74 [],.fn 74 []],[.z]],fun n l1 z2 z12 b23 z13 z14 b15 b16 b17 b18 b19 b20 z21=>Hk n l1 z2 z12 z13 z14 b15 b16 b17 b18 b19 b20 z21 b23⟩]⟩
noncomputable def jX:Kz:=sg jW [dQ] Tryz.func98 (by kernel_rfl) (by kernel_rfl) (by kernel_rfl)
mutual
def Zg:Nat->Int->BA->BA->LD->Int->BA->LD->Int->BA->LD->LD->LD->LD->LD->Int->Int->Option (Bool×Int)
 | 0,_,_,_,_,_,_,_,_,_,_,_,_,_,_,_,_=>none
 | n+1,z1,s2,s3,l4,z5,s6,l7,z8,s9,l10,l11,l12,l13,l14,z15,z16=>
  AE (IntKind.wrap .i64 (z16 - 1)) fun z17=>bO1 (Ss n z1 s2 s3 l4 z5 s6 l7 z8 s9 l10 l11 l12 l13 l14 z15 z17) fun b18=>some (b18,z16)
def Hl:Nat->LD->Int->Int->Int->Option (Bool×Int)
 | 0,_,_,_,_=>none
 | n+1,l1,z2,z4,z5=>
  AB l1 fun z6=>(if z4<z6 then (if z4<z2 then Hm n l1 z2 z4 z5 true else Hm n l1 z2 z4 z5 false)else Hm n l1 z2 z4 z5 false)
def Hm:Nat->LD->Int->Int->Int->Bool->Option (Bool×Int)
 | 0,_,_,_,_,_=>none
 | n+1,l1,z2,z4,z5,b7=>
  (if b7=true then Ae l1 z4 fun x8=>Af x8 fun z9 s10 s11 l12 z13 s14 l15 z16 s17 l18 l19 l20 l21 l22 z23=>bO2 (Zg n z9 s10 s11 l12 z13 s14 l15 z16 s17 l18 l19 l20 l21 l22 z23 z5) fun b24 z25=>AI (!b24) fun b26=>(if b26=true then some (false,z25)else AE (IntKind.wrap .i64 (z4+1)) fun z27=>Hl n l1 z2 z27 z25)else AB l1 fun z28=>(if z28<=z2 then some (true,z5)else some (false,z5)))
def CS:Nat->LD->Int->Int->Option (Bool×Int)
 | 0,_,_,_=>none
 | n+1,l1,z2,z3=>
  Hl n l1 z2 (0:Int) z3
def Zh:Nat->BA->BA->LD->Int->Option (Bool×Int)
 | 0,_,_,_,_=>none
 | n+1,s1,s2,l3,z4=>
  bO1 (Wv n s1) fun b5=>(if b5=true then (if s2=ByteArray.empty then AB l3 fun z6=>bO2 (CS n l3 z6 z4) fun b7 z8=>some (b7,z8)else bO1 (Vg n s2) fun b9=>(if b9=true then AB l3 fun z10=>bO2 (CS n l3 z10 z4) fun b11 z12=>some (b11,z12)else some (false,z4)))else some (false,z4))
def GJ:Nat->LD->Int->Int->Int->Option (Bool×Int)
 | 0,_,_,_,_=>none
 | n+1,l1,z2,z4,z5=>
  AB l1 fun z6=>(if z4<z6 then (if z4<z2 then HK n l1 z2 z4 z5 true else HK n l1 z2 z4 z5 false)else HK n l1 z2 z4 z5 false)
def HK:Nat->LD->Int->Int->Int->Bool->Option (Bool×Int)
 | 0,_,_,_,_,_=>none
 | n+1,l1,z2,z4,z5,b7=>
  (if b7=true then Ae l1 z4 fun x8=>Be x8 fun s9 s10 l11=>bO2 (Zh n s9 s10 l11 z5) fun b12 z13=>AI (!b12) fun b14=>(if b14=true then some (false,z13)else AE (IntKind.wrap .i64 (z4+1)) fun z15=>GJ n l1 z2 z15 z13)else AB l1 fun z16=>(if z16<=z2 then some (true,z5)else some (false,z5)))
def N7:Nat->LD->Int->Int->Option (Bool×Int)
 | 0,_,_,_=>none
 | n+1,l1,z2,z3=>
  GJ n l1 z2 (0:Int) z3
def Fy:Nat->Int->BA->LD->BA->LD->LD->LD->LD->LD->Int->Int->Int->Bool->Bool->Bool->Bool->Bool->Option (Bool)
 | 0,_,_,_,_,_,_,_,_,_,_,_,_,_,_,_,_,_=>none
 | n+1,z5,s6,l7,s9,l10,l11,l12,l13,l14,z16,z17,z18,b19,b20,b21,b22,b46=>
  (if b46=true then some false else AE (IntKind.wrap .i64 (z16 - 1)) fun z47=>bO1 (N4 n z5 s6 l7 z47) fun b48=>AI (!(false==b48)) fun b49=>(if b49=true then JW n l11 l12 l13 l14 z16 z17 z18 b19 b20 b21 b22 true else bO1 (YF n z5 s6 l7) fun b50=>AI (!b50) fun b51=>(if b51=true then JW n l11 l12 l13 l14 z16 z17 z18 b19 b20 b21 b22 true else bO1 (Yo n s9 l10) fun b52=>AI (!(b19==b52)) fun b53=>(if b53=true then JW n l11 l12 l13 l14 z16 z17 z18 b19 b20 b21 b22 true else AI (!b19) fun b54=>(if b54=true then bO1 (N5 n s9 l10) fun b55=>AI (!b55) fun b56=>JW n l11 l12 l13 l14 z16 z17 z18 b19 b20 b21 b22 b56 else JW n l11 l12 l13 l14 z16 z17 z18 b19 b20 b21 b22 false)))))
def JW:Nat->LD->LD->LD->LD->Int->Int->Int->Bool->Bool->Bool->Bool->Bool->Option (Bool)
 | 0,_,_,_,_,_,_,_,_,_,_,_,_=>none
 | n+1,l11,l12,l13,l14,z16,z17,z18,b19,b20,b21,b22,b57=>
  (if b57=true then some false else AI (!b20) fun b58=>(if b58=true then AB l12 fun z59=>(if (0:Int)<z59 then El n l11 l12 l13 l14 z16 z17 z18 b19 b20 b21 b22 true else AI (!b21) fun b60=>(if b60=true then AB l13 fun z61=>(if (0:Int)<z61 then El n l11 l12 l13 l14 z16 z17 z18 b19 b20 b21 b22 true else AB l14 fun z62=>(if (0:Int)<z62 then El n l11 l12 l13 l14 z16 z17 z18 b19 b20 b21 b22 true else El n l11 l12 l13 l14 z16 z17 z18 b19 b20 b21 b22 false))else AB l14 fun z63=>(if (0:Int)<z63 then El n l11 l12 l13 l14 z16 z17 z18 b19 b20 b21 b22 true else El n l11 l12 l13 l14 z16 z17 z18 b19 b20 b21 b22 false)))else AI (!b21) fun b64=>(if b64=true then AB l13 fun z65=>(if (0:Int)<z65 then El n l11 l12 l13 l14 z16 z17 z18 b19 b20 b21 b22 true else AB l14 fun z66=>(if (0:Int)<z66 then El n l11 l12 l13 l14 z16 z17 z18 b19 b20 b21 b22 true else El n l11 l12 l13 l14 z16 z17 z18 b19 b20 b21 b22 false))else AB l14 fun z67=>(if (0:Int)<z67 then El n l11 l12 l13 l14 z16 z17 z18 b19 b20 b21 b22 true else El n l11 l12 l13 l14 z16 z17 z18 b19 b20 b21 b22 false))))
def El:Nat->LD->LD->LD->LD->Int->Int->Int->Bool->Bool->Bool->Bool->Bool->Option (Bool)
 | 0,_,_,_,_,_,_,_,_,_,_,_,_=>none
 | n+1,l11,l12,l13,l14,z16,z17,z18,b19,b20,b21,b22,b68=>
  (if b68=true then some false else bO10 (FD n l11 (6:Int) z17 z18 false b19 b20 b21 false b22 z16) fun b69 z70 z71 b72 b73 b74 b75 b76 b77 z78=>(if b69=true then AB l12 fun z79=>bO2 (CS n l12 z79 z78) fun b80 z81=>(if b80=true then AB l13 fun z82=>bO2 (CS n l13 z82 z81) fun b83 z84=>(if b83=true then bO2 (N7 n l14 (6:Int) z84) fun b85 z86=>some b85 else some false)else some false)else some false))
def Gc:Nat->Int->BA->LD->BA->LD->LD->LD->LD->LD->Int->Int->Bool->Bool->Bool->Bool->Option (Bool)
 | 0,_,_,_,_,_,_,_,_,_,_,_,_,_,_,_=>none
 | n+1,z5,s6,l7,s9,l10,l11,l12,l13,l14,z16,z24,b25,b26,b27,b96=>
  (if b96=true then some false else AE (IntKind.wrap .i64 (z16 - 1)) fun z97=>bO1 (N4 n z5 s6 l7 z97) fun b98=>AI (!(false==b98)) fun b99=>(if b99=true then JX n l11 l12 l13 l14 z16 z24 b25 b26 b27 true else bO1 (YF n z5 s6 l7) fun b100=>AI (!b100) fun b101=>(if b101=true then JX n l11 l12 l13 l14 z16 z24 b25 b26 b27 true else bO1 (Yo n s9 l10) fun b102=>AI (!(b25==b102)) fun b103=>(if b103=true then JX n l11 l12 l13 l14 z16 z24 b25 b26 b27 true else AI (!b25) fun b104=>(if b104=true then bO1 (N5 n s9 l10) fun b105=>AI (!b105) fun b106=>JX n l11 l12 l13 l14 z16 z24 b25 b26 b27 b106 else JX n l11 l12 l13 l14 z16 z24 b25 b26 b27 false)))))
def JX:Nat->LD->LD->LD->LD->Int->Int->Bool->Bool->Bool->Bool->Option (Bool)
 | 0,_,_,_,_,_,_,_,_,_,_=>none
 | n+1,l11,l12,l13,l14,z16,z24,b25,b26,b27,b107=>
  (if b107=true then some false else AI (!b26) fun b108=>(if b108=true then AB l12 fun z109=>(if (0:Int)<z109 then HL n l11 l12 l13 l14 z16 z24 b25 b26 b27 true else AB l13 fun z110=>(if (0:Int)<z110 then HL n l11 l12 l13 l14 z16 z24 b25 b26 b27 true else AB l14 fun z111=>(if (0:Int)<z111 then HL n l11 l12 l13 l14 z16 z24 b25 b26 b27 true else HL n l11 l12 l13 l14 z16 z24 b25 b26 b27 false)))else AB l13 fun z112=>(if (0:Int)<z112 then HL n l11 l12 l13 l14 z16 z24 b25 b26 b27 true else AB l14 fun z113=>(if (0:Int)<z113 then HL n l11 l12 l13 l14 z16 z24 b25 b26 b27 true else HL n l11 l12 l13 l14 z16 z24 b25 b26 b27 false))))
def HL:Nat->LD->LD->LD->LD->Int->Int->Bool->Bool->Bool->Bool->Option (Bool)
 | 0,_,_,_,_,_,_,_,_,_,_=>none
 | n+1,l11,l12,l13,l14,z16,z24,b25,b26,b27,b114=>
  (if b114=true then some false else bO10 (Vj n l11 (6:Int) (0:Int) z24 false b25 b26 false false b27 z16) fun b115 z116 z117 b118 b119 b120 b121 b122 b123 z124=>(if b115=true then AB l12 fun z125=>bO2 (CS n l12 z125 z124) fun b126 z127=>(if b126=true then AB l13 fun z128=>bO2 (CS n l13 z128 z127) fun b129 z130=>(if b129=true then bO2 (N7 n l14 (6:Int) z130) fun b131 z132=>some b131 else some false)else some false)else some false))
def Gd:Nat->Int->BA->LD->BA->LD->LD->LD->LD->LD->Int->Bool->Option (Bool)
 | 0,_,_,_,_,_,_,_,_,_,_,_=>none
 | n+1,z5,s6,l7,s9,l10,l11,l12,l13,l14,z16,b142=>
  (if b142=true then some false else AE (IntKind.wrap .i64 (z16 - 1)) fun z143=>bO1 (N4 n z5 s6 l7 z143) fun b144=>AI (!(false==b144)) fun b145=>(if b145=true then LI n l11 l12 l13 l14 z16 true else bO1 (YF n z5 s6 l7) fun b146=>AI (!b146) fun b147=>(if b147=true then LI n l11 l12 l13 l14 z16 true else bO1 (Yo n s9 l10) fun b148=>AI (!(false==b148)) fun b149=>(if b149=true then LI n l11 l12 l13 l14 z16 true else bO1 (N5 n s9 l10) fun b150=>AI (!b150) fun b151=>LI n l11 l12 l13 l14 z16 b151))))
def LI:Nat->LD->LD->LD->LD->Int->Bool->Option (Bool)
 | 0,_,_,_,_,_,_=>none
 | n+1,l11,l12,l13,l14,z16,b152=>
  (if b152=true then some false else AB l12 fun z153=>(if (0:Int)<z153 then LJ n l11 l12 l13 l14 z16 true else AB l13 fun z154=>(if (0:Int)<z154 then LJ n l11 l12 l13 l14 z16 true else AB l14 fun z155=>(if (0:Int)<z155 then LJ n l11 l12 l13 l14 z16 true else LJ n l11 l12 l13 l14 z16 false))))
def LJ:Nat->LD->LD->LD->LD->Int->Bool->Option (Bool)
 | 0,_,_,_,_,_,_=>none
 | n+1,l11,l12,l13,l14,z16,b156=>
  (if b156=true then some false else bO10 (Vk n l11 (6:Int) (6:Int) (1:Int) false false false false false false z16) fun b157 z158 z159 b160 b161 b162 b163 b164 b165 z166=>(if b157=true then AB l12 fun z167=>bO2 (CS n l12 z167 z166) fun b168 z169=>(if b168=true then AB l13 fun z170=>bO2 (CS n l13 z170 z169) fun b171 z172=>(if b171=true then bO2 (N7 n l14 (6:Int) z172) fun b173 z174=>some b173 else some false)else some false)else some false))
def EI:Nat->Int->BA->LD->BA->LD->LD->LD->LD->LD->Int->Bool->Option (Bool)
 | 0,_,_,_,_,_,_,_,_,_,_,_=>none
 | n+1,z5,s6,l7,s9,l10,l11,l12,l13,l14,z16,b184=>
  (if b184=true then some false else AE (IntKind.wrap .i64 (z16 - 1)) fun z185=>bO1 (N4 n z5 s6 l7 z185) fun b186=>AI (!(false==b186)) fun b187=>(if b187=true then HM n l11 l12 l13 l14 z16 true else bO1 (YF n z5 s6 l7) fun b188=>AI (!b188) fun b189=>(if b189=true then HM n l11 l12 l13 l14 z16 true else bO1 (Yo n s9 l10) fun b190=>AI (!(false==b190)) fun b191=>(if b191=true then HM n l11 l12 l13 l14 z16 true else bO1 (N5 n s9 l10) fun b192=>AI (!b192) fun b193=>HM n l11 l12 l13 l14 z16 b193))))
def HM:Nat->LD->LD->LD->LD->Int->Bool->Option (Bool)
 | 0,_,_,_,_,_,_=>none
 | n+1,l11,l12,l13,l14,z16,b194=>
  (if b194=true then some false else AB l12 fun z195=>(if (0:Int)<z195 then Ii n l11 l12 l13 l14 z16 true else AB l13 fun z196=>(if (0:Int)<z196 then Ii n l11 l12 l13 l14 z16 true else Ii n l11 l12 l13 l14 z16 false)))
def Ii:Nat->LD->LD->LD->LD->Int->Bool->Option (Bool)
 | 0,_,_,_,_,_,_=>none
 | n+1,l11,l12,l13,l14,z16,b197=>
  (if b197=true then some false else bO10 (Vl n l11 (6:Int) (0:Int) (0:Int) false false false false true false z16) fun b198 z199 z200 b201 b202 b203 b204 b205 b206 z207=>(if b198=true then AB l12 fun z208=>bO2 (CS n l12 z208 z207) fun b209 z210=>(if b209=true then AB l13 fun z211=>bO2 (CS n l13 z211 z210) fun b212 z213=>(if b212=true then bO2 (N7 n l14 (6:Int) z213) fun b214 z215=>some b214 else some false)else some false)else some false))
def EJ:Nat->Int->BA->LD->BA->LD->LD->LD->LD->LD->Int->Bool->Option (Bool)
 | 0,_,_,_,_,_,_,_,_,_,_,_=>none
 | n+1,z5,s6,l7,s9,l10,l11,l12,l13,l14,z16,b225=>
  (if b225=true then some false else AE (IntKind.wrap .i64 (z16 - 1)) fun z226=>bO1 (N4 n z5 s6 l7 z226) fun b227=>AI (!(true==b227)) fun b228=>(if b228=true then Ij n l11 l12 l13 l14 z16 true else bO1 (Yo n s9 l10) fun b229=>AI (!(false==b229)) fun b230=>(if b230=true then Ij n l11 l12 l13 l14 z16 true else bO1 (N5 n s9 l10) fun b231=>AI (!b231) fun b232=>Ij n l11 l12 l13 l14 z16 b232)))
def Ij:Nat->LD->LD->LD->LD->Int->Bool->Option (Bool)
 | 0,_,_,_,_,_,_=>none
 | n+1,l11,l12,l13,l14,z16,b233=>
  (if b233=true then some false else AB l12 fun z234=>(if (0:Int)<z234 then HN n l11 l12 l13 l14 z16 true else AB l13 fun z235=>(if (0:Int)<z235 then HN n l11 l12 l13 l14 z16 true else AB l14 fun z236=>(if (0:Int)<z236 then HN n l11 l12 l13 l14 z16 true else HN n l11 l12 l13 l14 z16 false))))
def HN:Nat->LD->LD->LD->LD->Int->Bool->Option (Bool)
 | 0,_,_,_,_,_,_=>none
 | n+1,l11,l12,l13,l14,z16,b237=>
  (if b237=true then some false else bO10 (Vm n l11 (6:Int) (0:Int) (0:Int) true false false false false false z16) fun b238 z239 z240 b241 b242 b243 b244 b245 b246 z247=>(if b238=true then AB l12 fun z248=>bO2 (CS n l12 z248 z247) fun b249 z250=>(if b249=true then AB l13 fun z251=>bO2 (CS n l13 z251 z250) fun b252 z253=>(if b252=true then bO2 (N7 n l14 (6:Int) z253) fun b254 z255=>some b254 else some false)else some false)else some false))
def Ss:Nat->Int->BA->BA->LD->Int->BA->LD->Int->BA->LD->LD->LD->LD->LD->Int->Int->Option (Bool)
 | 0,_,_,_,_,_,_,_,_,_,_,_,_,_,_,_,_=>none
 | n+1,z1,s2,s3,l4,z5,s6,l7,z8,s9,l10,l11,l12,l13,l14,z15,z16=>
  bS (JP n z1 s2 s3 l4 z5 s6 l7 z8 s9 l10 l11 l12 l13 l14 z15) (fun p28=>bO7 (some p28) fun z17 z18 b19 b20 b21 b22 b23=>(if z16<(1:Int)then Fy n z5 s6 l7 s9 l10 l11 l12 l13 l14 z16 z17 z18 b19 b20 b21 b22 true else AI (!b23) fun b36=>(if b36=true then Fy n z5 s6 l7 s9 l10 l11 l12 l13 l14 z16 z17 z18 b19 b20 b21 b22 true else bO1 (KW n z1 s2 s3 l4 z5 s6 l7 z8 s9 l10 l11 l12 l13 l14 z15) fun b37=>AI (!b37) fun b38=>(if b38=true then Fy n z5 s6 l7 s9 l10 l11 l12 l13 l14 z16 z17 z18 b19 b20 b21 b22 true else bO1 (Ul n s2) fun b39=>AI (!b39) fun b40=>(if b40=true then Fy n z5 s6 l7 s9 l10 l11 l12 l13 l14 z16 z17 z18 b19 b20 b21 b22 true else bO1 (Ul n s3) fun b41=>AI (!b41) fun b42=>(if b42=true then Fy n z5 s6 l7 s9 l10 l11 l12 l13 l14 z16 z17 z18 b19 b20 b21 b22 true else AB l11 fun z43=>(if z43=z18 then bO1 (K6 n l4 z17) fun b44=>AI (!b44) fun b45=>Fy n z5 s6 l7 s9 l10 l11 l12 l13 l14 z16 z17 z18 b19 b20 b21 b22 b45 else Fy n z5 s6 l7 s9 l10 l11 l12 l13 l14 z16 z17 z18 b19 b20 b21 b22 true))))))) (fun q29=>bS (some q29) (fun p30=>bO4 (some p30) fun z24 b25 b26 b27=>(if z16<(1:Int)then Gc n z5 s6 l7 s9 l10 l11 l12 l13 l14 z16 z24 b25 b26 b27 true else bO1 (KW n z1 s2 s3 l4 z5 s6 l7 z8 s9 l10 l11 l12 l13 l14 z15) fun b87=>AI (!b87) fun b88=>(if b88=true then Gc n z5 s6 l7 s9 l10 l11 l12 l13 l14 z16 z24 b25 b26 b27 true else bO1 (Vg n s2) fun b89=>AI (!b89) fun b90=>(if b90=true then Gc n z5 s6 l7 s9 l10 l11 l12 l13 l14 z16 z24 b25 b26 b27 true else bO1 (Ul n s3) fun b91=>AI (!b91) fun b92=>(if b92=true then Gc n z5 s6 l7 s9 l10 l11 l12 l13 l14 z16 z24 b25 b26 b27 true else AB l11 fun z93=>(if z93=z24 then bO1 (K6 n l4 (0:Int)) fun b94=>AI (!b94) fun b95=>Gc n z5 s6 l7 s9 l10 l11 l12 l13 l14 z16 z24 b25 b26 b27 b95 else Gc n z5 s6 l7 s9 l10 l11 l12 l13 l14 z16 z24 b25 b26 b27 true)))))) (fun q31=>bS (some q31) (fun _=>(if z16<(1:Int)then Gd n z5 s6 l7 s9 l10 l11 l12 l13 l14 z16 true else bO1 (KW n z1 s2 s3 l4 z5 s6 l7 z8 s9 l10 l11 l12 l13 l14 z15) fun b133=>AI (!b133) fun b134=>(if b134=true then Gd n z5 s6 l7 s9 l10 l11 l12 l13 l14 z16 true else bO1 (Wv n s2) fun b135=>AI (!b135) fun b136=>(if b136=true then Gd n z5 s6 l7 s9 l10 l11 l12 l13 l14 z16 true else bO1 (Ul n s3) fun b137=>AI (!b137) fun b138=>(if b138=true then Gd n z5 s6 l7 s9 l10 l11 l12 l13 l14 z16 true else AB l11 fun z139=>(if z139=(1:Int)then bO1 (K6 n l4 (6:Int)) fun b140=>AI (!b140) fun b141=>Gd n z5 s6 l7 s9 l10 l11 l12 l13 l14 z16 b141 else Gd n z5 s6 l7 s9 l10 l11 l12 l13 l14 z16 true)))))) (fun q33=>bS (some q33) (fun _=>(if z16<(1:Int)then EI n z5 s6 l7 s9 l10 l11 l12 l13 l14 z16 true else bO1 (KW n z1 s2 s3 l4 z5 s6 l7 z8 s9 l10 l11 l12 l13 l14 z15) fun b175=>AI (!b175) fun b176=>(if b176=true then EI n z5 s6 l7 s9 l10 l11 l12 l13 l14 z16 true else bO1 (Vg n s2) fun b177=>AI (!b177) fun b178=>(if b178=true then EI n z5 s6 l7 s9 l10 l11 l12 l13 l14 z16 true else bO1 (Wv n s3) fun b179=>AI (!b179) fun b180=>(if b180=true then EI n z5 s6 l7 s9 l10 l11 l12 l13 l14 z16 true else AB l11 fun z181=>(if z181=(0:Int)then bO1 (K6 n l4 (0:Int)) fun b182=>AI (!b182) fun b183=>EI n z5 s6 l7 s9 l10 l11 l12 l13 l14 z16 b183 else EI n z5 s6 l7 s9 l10 l11 l12 l13 l14 z16 true)))))) (fun _=>(if z16<(1:Int)then EJ n z5 s6 l7 s9 l10 l11 l12 l13 l14 z16 true else bO1 (KW n z1 s2 s3 l4 z5 s6 l7 z8 s9 l10 l11 l12 l13 l14 z15) fun b216=>AI (!b216) fun b217=>(if b217=true then EJ n z5 s6 l7 s9 l10 l11 l12 l13 l14 z16 true else bO1 (Vg n s2) fun b218=>AI (!b218) fun b219=>(if b219=true then EJ n z5 s6 l7 s9 l10 l11 l12 l13 l14 z16 true else bO1 (Vg n s3) fun b220=>AI (!b220) fun b221=>(if b221=true then EJ n z5 s6 l7 s9 l10 l11 l12 l13 l14 z16 true else AB l11 fun z222=>(if z222=(0:Int)then bO1 (K6 n l4 (0:Int)) fun b223=>AI (!b223) fun b224=>EJ n z5 s6 l7 s9 l10 l11 l12 l13 l14 z16 b224 else EJ n z5 s6 l7 s9 l10 l11 l12 l13 l14 z16 true)))))))))
end
noncomputable def pF:BS:=⟨127,Tryz.f127,[.agg [.y,.str,.str,.f 1,.y,.str,.q 3,.z,.str,.f 1,.q 8,.q 15,.q 15,.q 3,.z],.p (.ext 0) 0],[[.z]],⟨.one (.b),[[.z]],[]⟩,Bool×Int,inferInstance,Zg,[]⟩
noncomputable def jY:BS:=⟨75,Tryz.f75,[.q 15,.z,.one (.fn 127 [.ext 0])],[[.z]],⟨.one (.b),[[.z]],[]⟩,Bool×Int,inferInstance,CS,[⟨26,[0,1,2,6,7],[.ext 0],64,[.q 15,.z,.one (.fn 127 [.ext 0]),.one (.cb false),.z],[[.z]],fun n l1 z2 z4 z5=>Hl n l1 z2 z4 z5⟩,
 ⟨209,[0,1,2,6,7,16],[.ext 0],352,[.q 15,.z,.one (.fn 127 [.ext 0]),.one (.cb false),.z,.b],[[.z]],fun n l1 z2 z4 b7 z5=>Hm n l1 z2 z4 z5 b7⟩]⟩
noncomputable def pG:BS:=⟨130,Tryz.f130,[.agg [.str,.str,.q 15],.p (.ext 0) 0],[[.fn 127 [.ext 1]],[.z]],⟨.one (.b),[[.fn 127 [.ext 1]],[.z]],[]⟩,Bool×Int,inferInstance,Zh,[]⟩
noncomputable def pH:BS:=⟨129,Tryz.f129,[.q 3,.z,.one (.fn 130 [.ext 0])],[[.fn 127 [.ext 1]],[.z]],⟨.one (.b),[[.fn 127 [.ext 1]],[.z]],[]⟩,Bool×Int,inferInstance,N7,[⟨26,[0,1,2,6,7],[.ext 0,.ext 1],64,[.q 3,.z,.one (.fn 130 [.ext 0]),.one (.cb false),.z],[[.fn 127 [.ext 1]],[.z]],fun n l1 z2 z4 z5=>GJ n l1 z2 z4 z5⟩,
 ⟨209,[0,1,2,6,7,16],[.ext 0,.ext 1],352,[.q 3,.z,.one (.fn 130 [.ext 0]),.one (.cb false),.z,.b],[[.fn 127 [.ext 1]],[.z]],fun n l1 z2 z4 b7 z5=>HK n l1 z2 z4 z5 b7⟩]⟩
noncomputable def rV:BS:=⟨77,Tryz.f77,[.agg [.y,.str,.str,.f 1,.y,.str,.q 3,.z,.str,.f 1,.q 8,.q 15,.q 15,.q 3,.z],.z],[],⟨.one (.b),[],[]⟩,Bool,inferInstance,Ss,[⟨29,[2,3,4,5,55],[.loc 0,.loc 32,.loc 256],1728,[.p (.loc 0) 0,.p (.loc 32) 0,.one (.cb false),.p (.loc 256) 0,.b],[[.y,.str,.str,.f 1,.y,.str,.q 3,.z,.str,.f 1,.q 8,.q 15,.q 15,.q 3,.z],[.z],[.z,.z,.cb false,.bool,.bool,.bool,.cb false,.bool,.fn 145 [],.fn 145 []]],fun n b46 _ _ _ _ z5 s6 l7 _ s9 l10 l11 l12 l13 l14 _ z16 z17 z18 b19 b20 b21 b22=>Fy n z5 s6 l7 s9 l10 l11 l12 l13 l14 z16 z17 z18 b19 b20 b21 b22 b46⟩,
 ⟨61,[2,3,4,5,93],[.loc 0,.loc 32,.loc 256],2944,[.p (.loc 0) 0,.p (.loc 32) 0,.one (.cb false),.p (.loc 256) 0,.b],[[.y,.str,.str,.f 1,.y,.str,.q 3,.z,.str,.f 1,.q 8,.q 15,.q 15,.q 3,.z],[.z],[.z,.z,.cb false,.bool,.bool,.bool,.cb false,.bool,.fn 145 [],.fn 145 []]],fun n b57 _ _ _ _ _ _ _ _ _ _ l11 l12 l13 l14 _ z16 z17 z18 b19 b20 b21 b22=>JW n l11 l12 l13 l14 z16 z17 z18 b19 b20 b21 b22 b57⟩,
 ⟨125,[2,3,4,5,124],[.loc 0,.loc 32,.loc 256],3936,[.p (.loc 0) 0,.p (.loc 32) 0,.one (.cb false),.p (.loc 256) 0,.b],[[.y,.str,.str,.f 1,.y,.str,.q 3,.z,.str,.f 1,.q 8,.q 15,.q 15,.q 3,.z],[.z],[.z,.z,.cb false,.bool,.bool,.bool,.cb false,.bool,.fn 145 [],.fn 145 []]],fun n b68 _ _ _ _ _ _ _ _ _ _ l11 l12 l13 l14 _ z16 z17 z18 b19 b20 b21 b22=>El n l11 l12 l13 l14 z16 z17 z18 b19 b20 b21 b22 b68⟩,
 ⟨29,[2,3,4,5,55],[.loc 0,.loc 32,.loc 256],1728,[.p (.loc 0) 0,.p (.loc 32) 0,.one (.cb false),.p (.loc 256) 0,.b],[[.y,.str,.str,.f 1,.y,.str,.q 3,.z,.str,.f 1,.q 8,.q 15,.q 15,.q 3,.z],[.z],[.k 0,.z,.cb false,.bool,.bool,.cb false,.cb false,.bool,.fn 74 [],.fn 145 []]],fun n b96 _ _ _ _ z5 s6 l7 _ s9 l10 l11 l12 l13 l14 _ z16 z24 b25 b26 b27=>Gc n z5 s6 l7 s9 l10 l11 l12 l13 l14 z16 z24 b25 b26 b27 b96⟩,
 ⟨61,[2,3,4,5,93],[.loc 0,.loc 32,.loc 256],2944,[.p (.loc 0) 0,.p (.loc 32) 0,.one (.cb false),.p (.loc 256) 0,.b],[[.y,.str,.str,.f 1,.y,.str,.q 3,.z,.str,.f 1,.q 8,.q 15,.q 15,.q 3,.z],[.z],[.k 0,.z,.cb false,.bool,.bool,.cb false,.cb false,.bool,.fn 74 [],.fn 145 []]],fun n b107 _ _ _ _ _ _ _ _ _ _ l11 l12 l13 l14 _ z16 z24 b25 b26 b27=>JX n l11 l12 l13 l14 z16 z24 b25 b26 b27 b107⟩,
 ⟨125,[2,3,4,5,124],[.loc 0,.loc 32,.loc 256],3936,[.p (.loc 0) 0,.p (.loc 32) 0,.one (.cb false),.p (.loc 256) 0,.b],[[.y,.str,.str,.f 1,.y,.str,.q 3,.z,.str,.f 1,.q 8,.q 15,.q 15,.q 3,.z],[.z],[.k 0,.z,.cb false,.bool,.bool,.cb false,.cb false,.bool,.fn 74 [],.fn 145 []]],fun n b114 _ _ _ _ _ _ _ _ _ _ l11 l12 l13 l14 _ z16 z24 b25 b26 b27=>HL n l11 l12 l13 l14 z16 z24 b25 b26 b27 b114⟩,
 ⟨29,[2,3,4,5,55],[.loc 0,.loc 32,.loc 256],1728,[.p (.loc 0) 0,.p (.loc 32) 0,.one (.cb false),.p (.loc 256) 0,.b],[[.y,.str,.str,.f 1,.y,.str,.q 3,.z,.str,.f 1,.q 8,.q 15,.q 15,.q 3,.z],[.z],[.k 6,.k 1,.cb false,.cb false,.cb false,.cb false,.cb false,.cb false,.fn 73 [],.fn 145 []]],fun n b142 _ _ _ _ z5 s6 l7 _ s9 l10 l11 l12 l13 l14 _ z16=>Gd n z5 s6 l7 s9 l10 l11 l12 l13 l14 z16 b142⟩,
 ⟨61,[2,3,4,5,93],[.loc 0,.loc 32,.loc 256],2944,[.p (.loc 0) 0,.p (.loc 32) 0,.one (.cb false),.p (.loc 256) 0,.b],[[.y,.str,.str,.f 1,.y,.str,.q 3,.z,.str,.f 1,.q 8,.q 15,.q 15,.q 3,.z],[.z],[.k 6,.k 1,.cb false,.cb false,.cb false,.cb false,.cb false,.cb false,.fn 73 [],.fn 145 []]],fun n b152 _ _ _ _ _ _ _ _ _ _ l11 l12 l13 l14 _ z16=>LI n l11 l12 l13 l14 z16 b152⟩,
 ⟨125,[2,3,4,5,124],[.loc 0,.loc 32,.loc 256],3936,[.p (.loc 0) 0,.p (.loc 32) 0,.one (.cb false),.p (.loc 256) 0,.b],[[.y,.str,.str,.f 1,.y,.str,.q 3,.z,.str,.f 1,.q 8,.q 15,.q 15,.q 3,.z],[.z],[.k 6,.k 1,.cb false,.cb false,.cb false,.cb false,.cb false,.cb false,.fn 73 [],.fn 145 []]],fun n b156 _ _ _ _ _ _ _ _ _ _ l11 l12 l13 l14 _ z16=>LJ n l11 l12 l13 l14 z16 b156⟩,
 ⟨29,[2,3,4,5,55],[.loc 0,.loc 32,.loc 256],1728,[.p (.loc 0) 0,.p (.loc 32) 0,.one (.cb false),.p (.loc 256) 0,.b],[[.y,.str,.str,.f 1,.y,.str,.q 3,.z,.str,.f 1,.q 8,.q 15,.q 15,.q 3,.z],[.z],[.k 0,.k 0,.cb false,.cb false,.cb false,.cb false,.cb true,.cb false,.fn 74 [],.fn 73 []]],fun n b184 _ _ _ _ z5 s6 l7 _ s9 l10 l11 l12 l13 l14 _ z16=>EI n z5 s6 l7 s9 l10 l11 l12 l13 l14 z16 b184⟩,
 ⟨61,[2,3,4,5,93],[.loc 0,.loc 32,.loc 256],2944,[.p (.loc 0) 0,.p (.loc 32) 0,.one (.cb false),.p (.loc 256) 0,.b],[[.y,.str,.str,.f 1,.y,.str,.q 3,.z,.str,.f 1,.q 8,.q 15,.q 15,.q 3,.z],[.z],[.k 0,.k 0,.cb false,.cb false,.cb false,.cb false,.cb true,.cb false,.fn 74 [],.fn 73 []]],fun n b194 _ _ _ _ _ _ _ _ _ _ l11 l12 l13 l14 _ z16=>HM n l11 l12 l13 l14 z16 b194⟩,
 ⟨125,[2,3,4,5,124],[.loc 0,.loc 32,.loc 256],3936,[.p (.loc 0) 0,.p (.loc 32) 0,.one (.cb false),.p (.loc 256) 0,.b],[[.y,.str,.str,.f 1,.y,.str,.q 3,.z,.str,.f 1,.q 8,.q 15,.q 15,.q 3,.z],[.z],[.k 0,.k 0,.cb false,.cb false,.cb false,.cb false,.cb true,.cb false,.fn 74 [],.fn 73 []]],fun n b197 _ _ _ _ _ _ _ _ _ _ l11 l12 l13 l14 _ z16=>Ii n l11 l12 l13 l14 z16 b197⟩,
 ⟨29,[2,3,4,5,55],[.loc 0,.loc 32,.loc 256],1728,[.p (.loc 0) 0,.p (.loc 32) 0,.one (.cb false),.p (.loc 256) 0,.b],[[.y,.str,.str,.f 1,.y,.str,.q 3,.z,.str,.f 1,.q 8,.q 15,.q 15,.q 3,.z],[.z],[.k 0,.k 0,.cb true,.cb false,.cb false,.cb false,.cb false,.cb false,.fn 74 [],.fn 74 []]],fun n b225 _ _ _ _ z5 s6 l7 _ s9 l10 l11 l12 l13 l14 _ z16=>EJ n z5 s6 l7 s9 l10 l11 l12 l13 l14 z16 b225⟩,
 ⟨61,[2,3,4,5,93],[.loc 0,.loc 32,.loc 256],2944,[.p (.loc 0) 0,.p (.loc 32) 0,.one (.cb false),.p (.loc 256) 0,.b],[[.y,.str,.str,.f 1,.y,.str,.q 3,.z,.str,.f 1,.q 8,.q 15,.q 15,.q 3,.z],[.z],[.k 0,.k 0,.cb true,.cb false,.cb false,.cb false,.cb false,.cb false,.fn 74 [],.fn 74 []]],fun n b233 _ _ _ _ _ _ _ _ _ _ l11 l12 l13 l14 _ z16=>Ij n l11 l12 l13 l14 z16 b233⟩,
 ⟨125,[2,3,4,5,124],[.loc 0,.loc 32,.loc 256],3936,[.p (.loc 0) 0,.p (.loc 32) 0,.one (.cb false),.p (.loc 256) 0,.b],[[.y,.str,.str,.f 1,.y,.str,.q 3,.z,.str,.f 1,.q 8,.q 15,.q 15,.q 3,.z],[.z],[.k 0,.k 0,.cb true,.cb false,.cb false,.cb false,.cb false,.cb false,.fn 74 [],.fn 74 []]],fun n b237 _ _ _ _ _ _ _ _ _ _ l11 l12 l13 l14 _ z16=>HN n l11 l12 l13 l14 z16 b237⟩]⟩
theorem pI:CF Tryz.prog inv (KU [pF,jY,pG,pH,rV]):=gr [oV,oX,jK,pA,rT,uL,rQ,oG,fY,bK,jP,jR,jT,jV,jX] ⟨⟨Tryz.func127,by kernel_rfl,by kernel_rfl,by kernel_rfl⟩,⟨Tryz.func75,by kernel_rfl,by kernel_rfl,by kernel_rfl⟩,⟨Tryz.func130,by kernel_rfl,by kernel_rfl,by kernel_rfl⟩,⟨Tryz.func129,by kernel_rfl,by kernel_rfl,by kernel_rfl⟩,⟨Tryz.func77,by kernel_rfl,by kernel_rfl,by kernel_rfl⟩,trivial⟩
noncomputable def vO:Kz:=⟨rV.c,pI.2.2.2.2.1⟩
def mV (n:Nat) (z1:Int) (s2:BA) (s3:BA) (l4:LD) (z5:Int) (s6:BA) (l7:LD) (z8:Int) (s9:BA) (l10:LD) (l11:LD) (l12:LD) (l13:LD) (l14:LD) (z15:Int) (z16:Int):Option (Bool×Int):=
 AE (IntKind.wrap .i64 (z16 - 1)) fun z17=>bO1 (Ss n z1 s2 s3 l4 z5 s6 l7 z8 s9 l10 l11 l12 l13 l14 z15 z17) fun b18=>some (b18,z16)
noncomputable def vP:BS:=⟨76,Tryz.f76,[.agg [.y,.str,.str,.f 1,.y,.str,.q 3,.z,.str,.f 1,.q 8,.q 15,.q 15,.q 3,.z],.p (.ext 0) 0],[[.z]],⟨.one (.b),[[.z]],[]⟩,Bool×Int,inferInstance,mV,[]⟩
noncomputable def vQ:Kz:=sg vP [vO] Tryz.func76 (by kernel_rfl) (by kernel_rfl) (by kernel_rfl)
mutual
def PE:Nat->LD->Int->Int->Int->Option (Bool×Int)
 | 0,_,_,_,_=>none
 | n+1,l1,z2,z4,z5=>
  AB l1 fun z6=>(if z4<z6 then (if z4<z2 then PF n l1 z2 z4 z5 true else PF n l1 z2 z4 z5 false)else PF n l1 z2 z4 z5 false)
def PF:Nat->LD->Int->Int->Int->Bool->Option (Bool×Int)
 | 0,_,_,_,_,_=>none
 | n+1,l1,z2,z4,z5,b7=>
  (if b7=true then Ae l1 z4 fun x8=>Af x8 fun z9 s10 s11 l12 z13 s14 l15 z16 s17 l18 l19 l20 l21 l22 z23=>bO2 (mV n z9 s10 s11 l12 z13 s14 l15 z16 s17 l18 l19 l20 l21 l22 z23 z5) fun b24 z25=>AI (!b24) fun b26=>(if b26=true then some (false,z25)else AE (IntKind.wrap .i64 (z4+1)) fun z27=>PE n l1 z2 z27 z25)else AB l1 fun z28=>(if z28<=z2 then some (true,z5)else some (false,z5)))
end
def gD (n:Nat) (l1:LD) (z2:Int) (z3:Int):Option (Bool×Int):=
 PE n l1 z2 (0:Int) z3
noncomputable def vR:BS:=⟨75,Tryz.f75,[.q 15,.z,.one (.fn 76 [.ext 0])],[[.z]],⟨.one (.b),[[.z]],[]⟩,Bool×Int,inferInstance,gD,[⟨26,[0,1,2,6,7],[.ext 0],64,[.q 15,.z,.one (.fn 76 [.ext 0]),.one (.cb false),.z],[[.z]],fun n l1 z2 z4 z5=>PE n l1 z2 z4 z5⟩,
 ⟨209,[0,1,2,6,7,16],[.ext 0],352,[.q 15,.z,.one (.fn 76 [.ext 0]),.one (.cb false),.z,.b],[[.z]],fun n l1 z2 z4 b7 z5=>PF n l1 z2 z4 z5 b7⟩]⟩
noncomputable def vS:Kz:=sg vR [vQ] Tryz.func75 (by kernel_rfl) (by kernel_rfl) (by kernel_rfl)
theorem vT (n:Nat):∀⦃l1 z2 z3 r1 r2⦄,gD n l1 z2 z3=some (r1,r2)->
  BB Tryz.prog inv 75 [.d (.list true 15 l1),.d (.int .i64 z2),.c (.fn 76 [.ext 0])] [.cells [.d (.int .i64 z3)]] (.v (.d (.bool r1))) [.cells [.d (.int .i64 r2)]] []:=fun l1 z2 z3 r1 r2 h=>vS.ok n [.L l1,.I z2,.I z3] _ h _ _ _ _ _ _ rfl rfl rfl rfl _ rfl
def H3:Nat->Int->BA->LD->Int->BA->LD->LD->Int->Int->BA->BA->BA->LD->LD->Int->Int->Int->Bool->Option (Bool)
 | 0,_,_,_,_,_,_,_,_,_,_,_,_,_,_,_,_,_,_=>none
 | n+1,z1,s2,l3,z4,s5,l6,l7,z8,z9,s10,s11,s12,l13,l14,z15,z16,z17,b61=>
  (if b61=true then bO1 (Vg n s2) fun b62=>(if b62=true then bO18 (jB n false z1 s2 l3 z4 s5 l6 l7 z8 z9 s10 s11 s12 l13 l14 z15 z16 z17) fun b63 z64 s65 l66 z67 s68 l69 l70 z71 z72 s73 s74 s75 l76 l77 z78 z79 z80=>(if b63=true then AE (IntKind.wrap .i64 (z80 - 1)) fun z81=>bO1 (N4 n z67 s68 l69 z81) fun b82=>(if b82=true then bO1 (Wj n z71 z72 s73 s74 s75 l76 l77 z78) fun b83=>AI (!b83) fun b84=>(if b84=true then AE (IntKind.wrap .i64 (z80 - 1)) fun z85=>bO1 (N6 n z71 z72 s73 s74 s75 l76 l77 z78 z85) fun b86=>(if b86=true then AB l70 fun z87=>bO2 (gD n l70 z87 z80) fun b88 z89=>some b88 else some false)else some false)else some false)else some false)else some false)else some false)
def JY:Nat->Int->BA->LD->Int->BA->LD->LD->Int->Int->BA->BA->BA->LD->LD->Int->Int->Int->Bool->Bool->Option (Bool)
 | 0,_,_,_,_,_,_,_,_,_,_,_,_,_,_,_,_,_,_,_=>none
 | n+1,z1,s2,l3,z4,s5,l6,l7,z8,z9,s10,s11,s12,l13,l14,z15,z16,z17,b22,b42=>
  (if b42=true then (if b22=true then bO18 (Vi n true z1 s2 l3 z4 s5 l6 l7 z8 z9 s10 s11 s12 l13 l14 z15 z16 z17) fun b43 z44 s45 l46 z47 s48 l49 l50 z51 z52 s53 s54 s55 l56 l57 z58 z59 z60=>some b43 else some false)else (if z1=(3:Int)then H3 n z1 s2 l3 z4 s5 l6 l7 z8 z9 s10 s11 s12 l13 l14 z15 z16 z17 true else H3 n z1 s2 l3 z4 s5 l6 l7 z8 z9 s10 s11 s12 l13 l14 z15 z16 z17 false))
def JZ:Nat->Int->BA->LD->Int->BA->LD->LD->Int->Int->BA->BA->BA->LD->LD->Int->Int->Int->Bool->Bool->Option (Bool)
 | 0,_,_,_,_,_,_,_,_,_,_,_,_,_,_,_,_,_,_,_=>none
 | n+1,z1,s2,l3,z4,s5,l6,l7,z8,z9,s10,s11,s12,l13,l14,z15,z16,z17,b22,b23=>
  (if b23=true then (if b22=true then bO18 (jB n false z1 s2 l3 z4 s5 l6 l7 z8 z9 s10 s11 s12 l13 l14 z15 z16 z17) fun b24 z25 s26 l27 z28 s29 l30 l31 z32 z33 s34 s35 s36 l37 l38 z39 z40 z41=>some b24 else some false)else (if z1=(2:Int)then JY n z1 s2 l3 z4 s5 l6 l7 z8 z9 s10 s11 s12 l13 l14 z15 z16 z17 b22 true else JY n z1 s2 l3 z4 s5 l6 l7 z8 z9 s10 s11 s12 l13 l14 z15 z16 z17 b22 false))
def Ge:Nat->Int->BA->LD->Int->BA->LD->LD->Int->Int->BA->BA->BA->LD->LD->Int->Int->Int->Bool->Option (Bool)
 | 0,_,_,_,_,_,_,_,_,_,_,_,_,_,_,_,_,_,_=>none
 | n+1,z1,s2,l3,z4,s5,l6,l7,z8,z9,s10,s11,s12,l13,l14,z15,z16,z17,b22=>
  (if z1=(1:Int)then JZ n z1 s2 l3 z4 s5 l6 l7 z8 z9 s10 s11 s12 l13 l14 z15 z16 z17 b22 true else JZ n z1 s2 l3 z4 s5 l6 l7 z8 z9 s10 s11 s12 l13 l14 z15 z16 z17 b22 false)
def jZ (n:Nat) (z1:Int) (s2:BA) (l3:LD) (z4:Int) (s5:BA) (l6:LD) (l7:LD) (z8:Int) (z9:Int) (s10:BA) (s11:BA) (s12:BA) (l13:LD) (l14:LD) (z15:Int) (z16:Int) (z17:Int):Option (Bool):=
 bO1 (YF n z4 s5 l6) fun b18=>(if b18=true then AB l7 fun z19=>(if z19=(0:Int)then bO1 (fW n z8 z9 s10 s11 s12 l13 l14 z15 (0:Int) (0:Int) ByteArray.empty ByteArray.empty ByteArray.empty ([]:LD) ([]:LD) (0:Int)) fun b20=>(if b20=true then bO1 (Wv n s2) fun b21=>Ge n z1 s2 l3 z4 s5 l6 l7 z8 z9 s10 s11 s12 l13 l14 z15 z16 z17 b21 else Ge n z1 s2 l3 z4 s5 l6 l7 z8 z9 s10 s11 s12 l13 l14 z15 z16 z17 false)else Ge n z1 s2 l3 z4 s5 l6 l7 z8 z9 s10 s11 s12 l13 l14 z15 z16 z17 false)else Ge n z1 s2 l3 z4 s5 l6 l7 z8 z9 s10 s11 s12 l13 l14 z15 z16 z17 false)
theorem vU (n:Nat):∀⦃z1 s2 l3 z4 s5 l6 l7 z8 z9 s10 s11 s12 l13 l14 z15 z16 z17 r1⦄,jZ n z1 s2 l3 z4 s5 l6 l7 z8 z9 s10 s11 s12 l13 l14 z15 z16 z17=some r1->
    BB Tryz.prog inv 37 [.d (.agg [.int .u8 z1,.str s2,.list true 4 l3,.int .u8 z4,.str s5,.list true 3 l6,.list true 15 l7,.int .u8 z8,.int .i64 z9,.str s10,.str s11,.str s12,.list false 1 l13,.list true 8 l14,.int .i64 z15,.int .i64 z16]),.d (.int .i64 z17)] [] (.v (.d (.bool r1))) [] []:=by
 intro z1 s2 l3 z4 s5 l6 l7 z8 z9 s10 s11 s12 l13 l14 z15 z16 z17 r1 h
 unfold jZ at h
 refine BB.of BU BK Ht Tryz.func37 rfl (by kernel_rfl) rfl rfl rfl (fun M hM hI=>?_)
 try cbv
 refine AD ?_
 try cbv
 refine AD ?_
 try cbv
 refine AJ 6 [2,3,4,5,6] [.loc 0,.loc 32] 832 (fun m b=>m<=n/\Ge m z1 s2 l3 z4 s5 l6 l7 z8 z9 s10 s11 s12 l13 l14 z15 z16 z17 b=some r1) ?_ ?_
 ·try cbv
  replace h:=Ai h
  obtain⟨b18,hr,h⟩:=h
  refine An rfl rfl ?_
  try cbv
  refine AU hM hI (oS _ hr) rfl ?_
  clear hr
  try cbv
  cases b18
  ·replace h:=Bz h
   try cbv
   exact AA (n,false) [2,3,4,5,6] [.loc 0,.loc 32] 832 ⟨by omega,h⟩ (by cbv)
  replace h:=Bx h
  try cbv
  replace h:=BQ M h
  obtain⟨z19,hz,h⟩:=h
  refine⟨z19,hz,?_⟩
  clear hz
  try cbv
  refine Ay (fun e=>?_) (fun e=>?_)
  rotate_left
  ·replace h:=Ah e h
   clear e
   try cbv
   exact AA (n,false) [2,3,4,5,6] [.loc 0,.loc 32] 832 ⟨by omega,h⟩ (by cbv)
  replace h:=Ag e h
  clear e
  try cbv
  replace h:=Ai h
  obtain⟨b20,hr,h⟩:=h
  refine An rfl rfl ?_
  try cbv
  refine AU hM hI (uN _ hr) rfl ?_
  clear hr
  try cbv
  cases b20
  ·replace h:=Bz h
   try cbv
   exact AA (n,false) [2,3,4,5,6] [.loc 0,.loc 32] 832 ⟨by omega,h⟩ (by cbv)
  replace h:=Bx h
  try cbv
  replace h:=Ai h
  obtain⟨b21,hr,h⟩:=h
  refine An rfl rfl ?_
  try cbv
  refine AU hM hI (oH _ hr) rfl ?_
  clear hr
  try cbv
  exact AA (n,b21) [2,3,4,5,6] [.loc 0,.loc 32] 832 ⟨by omega,h⟩ (by cbv)
 clear h
 rintro⟨m1,b22⟩ ⟨hm1,h⟩
 try cbv
 replace hm1:m1<=n:=hm1
 obtain _ | m1:=m1
 ·replace h:Ge 0 z1 s2 l3 z4 s5 l6 l7 z8 z9 s10 s11 s12 l13 l14 z15 z16 z17 b22=some r1:=h
  rw[Ge]at h
  cases h
 replace h:Ge (m1+1) z1 s2 l3 z4 s5 l6 l7 z8 z9 s10 s11 s12 l13 l14 z15 z16 z17 b22=some r1:=h
 rw[Ge]at h
 try cbv
 refine AD ?_
 try cbv
 refine AD ?_
 try cbv
 refine AJ 30 [2,3,4,5,6,29,30] [.loc 0,.loc 32] 960 (fun m b=>m<=m1/\JZ m z1 s2 l3 z4 s5 l6 l7 z8 z9 s10 s11 s12 l13 l14 z15 z16 z17 b22 b=some r1) ?_ ?_
 ·try cbv
  refine Ay (fun e=>?_) (fun e=>?_)
  ·replace h:=Ag e h
   clear e
   try cbv
   exact AA (m1,true) [2,3,4,5,6,29,30] [.loc 0,.loc 32] 960 ⟨by omega,h⟩ (by cbv)
  replace h:=Ah e h
  clear e
  try cbv
  exact AA (m1,false) [2,3,4,5,6,29,30] [.loc 0,.loc 32] 960 ⟨by omega,h⟩ (by cbv)
 clear h
 rintro⟨m2,b23⟩ ⟨hm2,h⟩
 try cbv
 replace hm2:m2<=m1:=hm2
 obtain _ | m2:=m2
 ·replace h:JZ 0 z1 s2 l3 z4 s5 l6 l7 z8 z9 s10 s11 s12 l13 l14 z15 z16 z17 b22 b23=some r1:=h
  rw[JZ]at h
  cases h
 replace h:JZ (m2+1) z1 s2 l3 z4 s5 l6 l7 z8 z9 s10 s11 s12 l13 l14 z15 z16 z17 b22 b23=some r1:=h
 rw[JZ]at h
 try cbv
 cases b23
 rotate_left
 ·replace h:=Bx h
  try cbv
  refine AD ?_
  try cbv
  cases b22
  ·replace h:=Bz h
   try cbv
   obtain rfl:=Option.some.inj h
   refine AZ ?_
   try cbv
   exact⟨[],by trivial⟩
  replace h:=Bx h
  try cbv
  replace h:=Ms h
  obtain⟨b24,z25,s26,l27,z28,s29,l30,l31,z32,z33,s34,s35,s36,l37,l38,z39,z40,z41,hr,h⟩:=h
  refine An rfl rfl ?_
  try cbv
  refine Cs hM hI [.loc 0,.loc 32] (rS _ hr) rfl (by simp) ⟨rfl,⟨rfl,trivial⟩⟩ ⟨trivial,⟨trivial,trivial⟩⟩ (by simp) ?_
  clear hr
  try cbv
  obtain rfl:=Option.some.inj h
  refine AZ ?_
  try cbv
  exact⟨[],by trivial⟩
 replace h:=Bz h
 try cbv
 refine AJ 37 [2,3,4,5,6,29,37] [.loc 0,.loc 32] 1024 (fun m b=>m<=m2/\JY m z1 s2 l3 z4 s5 l6 l7 z8 z9 s10 s11 s12 l13 l14 z15 z16 z17 b22 b=some r1) ?_ ?_
 ·try cbv
  refine Ay (fun e=>?_) (fun e=>?_)
  ·replace h:=Ag e h
   clear e
   try cbv
   exact AA (m2,true) [2,3,4,5,6,29,37] [.loc 0,.loc 32] 1024 ⟨by omega,h⟩ (by cbv)
  replace h:=Ah e h
  clear e
  try cbv
  exact AA (m2,false) [2,3,4,5,6,29,37] [.loc 0,.loc 32] 1024 ⟨by omega,h⟩ (by cbv)
 clear h
 rintro⟨m3,b42⟩ ⟨hm3,h⟩
 try cbv
 replace hm3:m3<=m2:=hm3
 obtain _ | m3:=m3
 ·replace h:JY 0 z1 s2 l3 z4 s5 l6 l7 z8 z9 s10 s11 s12 l13 l14 z15 z16 z17 b22 b42=some r1:=h
  rw[JY]at h
  cases h
 replace h:JY (m3+1) z1 s2 l3 z4 s5 l6 l7 z8 z9 s10 s11 s12 l13 l14 z15 z16 z17 b22 b42=some r1:=h
 rw[JY]at h
 try cbv
 cases b42
 rotate_left
 ·replace h:=Bx h
  try cbv
  refine AD ?_
  try cbv
  cases b22
  ·replace h:=Bz h
   try cbv
   obtain rfl:=Option.some.inj h
   refine AZ ?_
   try cbv
   exact⟨[],by trivial⟩
  replace h:=Bx h
  try cbv
  replace h:=Ms h
  obtain⟨b43,z44,s45,l46,z47,s48,l49,l50,z51,z52,s53,s54,s55,l56,l57,z58,z59,z60,hr,h⟩:=h
  refine An rfl rfl ?_
  try cbv
  refine Cs hM hI [.loc 0,.loc 32] (jJ _ hr) rfl (by simp) ⟨rfl,⟨rfl,trivial⟩⟩ ⟨trivial,⟨trivial,trivial⟩⟩ (by simp) ?_
  clear hr
  try cbv
  obtain rfl:=Option.some.inj h
  refine AZ ?_
  try cbv
  exact⟨[],by trivial⟩
 replace h:=Bz h
 try cbv
 refine AJ 44 [2,3,4,5,44] [.loc 0,.loc 32] 1088 (fun m b=>m<=m3/\H3 m z1 s2 l3 z4 s5 l6 l7 z8 z9 s10 s11 s12 l13 l14 z15 z16 z17 b=some r1) ?_ ?_
 ·try cbv
  refine Ay (fun e=>?_) (fun e=>?_)
  ·replace h:=Ag e h
   clear e
   try cbv
   exact AA (m3,true) [2,3,4,5,44] [.loc 0,.loc 32] 1088 ⟨by omega,h⟩ (by cbv)
  replace h:=Ah e h
  clear e
  try cbv
  exact AA (m3,false) [2,3,4,5,44] [.loc 0,.loc 32] 1088 ⟨by omega,h⟩ (by cbv)
 clear h
 rintro⟨m4,b61⟩ ⟨hm4,h⟩
 try cbv
 replace hm4:m4<=m3:=hm4
 obtain _ | m4:=m4
 ·replace h:H3 0 z1 s2 l3 z4 s5 l6 l7 z8 z9 s10 s11 s12 l13 l14 z15 z16 z17 b61=some r1:=h
  rw[H3]at h
  cases h
 replace h:H3 (m4+1) z1 s2 l3 z4 s5 l6 l7 z8 z9 s10 s11 s12 l13 l14 z15 z16 z17 b61=some r1:=h
 rw[H3]at h
 try cbv
 cases b61
 ·replace h:=Bz h
  try cbv
  refine AD ?_
  try cbv
  obtain rfl:=Option.some.inj h
  refine AZ ?_
  try cbv
  exact⟨[],by trivial⟩
 replace h:=Bx h
 try cbv
 refine AD ?_
 try cbv
 replace h:=Ai h
 obtain⟨b62,hr,h⟩:=h
 refine An rfl rfl ?_
 try cbv
 refine AU hM hI (rR _ hr) rfl ?_
 clear hr
 try cbv
 cases b62
 ·replace h:=Bz h
  try cbv
  obtain rfl:=Option.some.inj h
  refine AZ ?_
  try cbv
  exact⟨[],by trivial⟩
 replace h:=Bx h
 try cbv
 replace h:=Ms h
 obtain⟨b63,z64,s65,l66,z67,s68,l69,l70,z71,z72,s73,s74,s75,l76,l77,z78,z79,z80,hr,h⟩:=h
 refine An rfl rfl ?_
 try cbv
 refine Cs hM hI [.loc 0,.loc 32] (rS _ hr) rfl (by simp) ⟨rfl,⟨rfl,trivial⟩⟩ ⟨trivial,⟨trivial,trivial⟩⟩ (by simp) ?_
 clear hr
 try cbv
 cases b63
 ·replace h:=Bz h
  try cbv
  obtain rfl:=Option.some.inj h
  refine AZ ?_
  try cbv
  exact⟨[],by trivial⟩
 replace h:=Bx h
 try cbv
 replace h:=Aa h
 obtain⟨z81,hz,h⟩:=h
 refine⟨z81,hz,?_⟩
 clear hz
 try cbv
 replace h:=Ai h
 obtain⟨b82,hr,h⟩:=h
 refine An rfl rfl ?_
 try cbv
 refine AU hM hI (fV _ hr) rfl ?_
 clear hr
 try cbv
 cases b82
 ·replace h:=Bz h
  try cbv
  obtain rfl:=Option.some.inj h
  refine AZ ?_
  try cbv
  exact⟨[],by trivial⟩
 replace h:=Bx h
 try cbv
 replace h:=Ai h
 obtain⟨b83,hr,h⟩:=h
 refine An rfl rfl ?_
 try cbv
 refine AU hM hI (fX _ hr) rfl ?_
 clear hr
 try cbv
 replace h:=C5 h
 obtain⟨b84,hz,h⟩:=h
 refine⟨b84,D0 hz,?_⟩
 clear hz
 try cbv
 cases b84
 ·replace h:=Bz h
  try cbv
  obtain rfl:=Option.some.inj h
  refine AZ ?_
  try cbv
  exact⟨[],by trivial⟩
 replace h:=Bx h
 try cbv
 replace h:=Aa h
 obtain⟨z85,hz,h⟩:=h
 refine⟨z85,hz,?_⟩
 clear hz
 try cbv
 replace h:=Ai h
 obtain⟨b86,hr,h⟩:=h
 refine An rfl rfl ?_
 try cbv
 refine AU hM hI (YG _ hr) rfl ?_
 clear hr
 try cbv
 cases b86
 ·replace h:=Bz h
  try cbv
  obtain rfl:=Option.some.inj h
  refine AZ ?_
  try cbv
  exact⟨[],by trivial⟩
 replace h:=Bx h
 try cbv
 replace h:=BQ M h
 obtain⟨z87,hz,h⟩:=h
 refine⟨z87,hz,?_⟩
 clear hz
 try cbv
 replace h:=JC h
 obtain⟨b88,z89,hr,h⟩:=h
 refine An rfl rfl ?_
 try cbv
 refine Cs hM hI [.loc 32] (vT _ hr) rfl (by simp) ⟨rfl,trivial⟩ ⟨trivial,trivial⟩ (by simp) ?_
 clear hr
 try cbv
 obtain rfl:=Option.some.inj h
 refine AZ ?_
 try cbv
 exact⟨[],by trivial⟩
noncomputable def vV:BW:=⟨37,[.agg [.y,.str,.q 4,.y,.str,.q 3,.q 15,.y,.z,.str,.str,.str,.f 1,.q 8,.z,.z],.z],[],[⟨.one (.b),[],[]⟩],Bool,inferInstance,jZ⟩
noncomputable def vW:Kz:=⟨vV,fun n=>Di fun z1 s2 l3 z4 s5 l6 l7 z8 z9 s10 s11 s12 l13 l14 z15 z16 z17 p h w1 w2 w4 w3 l1 l2 e1 e2 e5 e3 xs e4=>by cases e1;cases e2;cases e4;cases e5;cases e3;exact vU n h⟩
def gF (n:Nat) (z1:Int) (s2:BA) (l3:LD) (z4:Int) (s5:BA) (l6:LD) (l7:LD) (z8:Int) (z9:Int) (s10:BA) (s11:BA) (s12:BA) (l13:LD) (l14:LD) (z15:Int) (z16:Int):Option (Bool):=
 bO1 (jZ n z1 s2 l3 z4 s5 l6 l7 z8 z9 s10 s11 s12 l13 l14 z15 z16 (39:Int)) fun b17=>some b17
noncomputable def vX:BS:=⟨36,Tryz.f36,[.agg [.y,.str,.q 4,.y,.str,.q 3,.q 15,.y,.z,.str,.str,.str,.f 1,.q 8,.z,.z]],[],⟨.one (.b),[],[]⟩,Bool,inferInstance,gF,[]⟩
noncomputable def vY:Kz:=sg vX [vW] Tryz.func36 (by kernel_rfl) (by kernel_rfl) (by kernel_rfl)
mutual
def Ja:Nat->LD->Int->Int->Option (Bool)
 | 0,_,_,_=>none
 | n+1,l1,z2,z3=>
  AB l1 fun z4=>(if z3<z4 then (if z3<z2 then LK n l1 z2 z3 true else LK n l1 z2 z3 false)else LK n l1 z2 z3 false)
def LK:Nat->LD->Int->Int->Bool->Option (Bool)
 | 0,_,_,_,_=>none
 | n+1,l1,z2,z3,b5=>
  (if b5=true then Ae l1 z3 fun x6=>Bd x6 fun z7 s8 l9 z10 s11 l12 l13 z14 z15 s16 s17 s18 l19 l20 z21 z22=>bO1 (gF n z7 s8 l9 z10 s11 l12 l13 z14 z15 s16 s17 s18 l19 l20 z21 z22) fun b23=>AI (!b23) fun b24=>(if b24=true then some false else AE (IntKind.wrap .i64 (z3+1)) fun z25=>Ja n l1 z2 z25)else AB l1 fun z26=>(if z26<=z2 then some true else some false))
end
def mW (n:Nat) (l1:LD) (z2:Int):Option (Bool):=
 Ja n l1 z2 (0:Int)
noncomputable def vZ:BS:=⟨35,Tryz.f35,[.q 16,.z,.one (.fn 36 [])],[],⟨.one (.b),[],[]⟩,Bool,inferInstance,mW,[⟨26,[0,1,2,6,7],[],64,[.q 16,.z,.one (.fn 36 []),.one (.cb false),.z],[],fun n l1 z2 z3=>Ja n l1 z2 z3⟩,
 ⟨209,[0,1,2,6,7,16],[],352,[.q 16,.z,.one (.fn 36 []),.one (.cb false),.z,.b],[],fun n l1 z2 z3 b5=>LK n l1 z2 z3 b5⟩]⟩
noncomputable def wA:Kz:=sg vZ [vY] Tryz.func35 (by kernel_rfl) (by kernel_rfl) (by kernel_rfl)
def kA (n:Nat) (l1:LD):Option (Bool):=
 bO1 (mW n l1 (30:Int)) fun b2=>some b2
noncomputable def wB:BS:=⟨10,Tryz.f10,[.agg [.q 16]],[],⟨.one (.b),[],[]⟩,Bool,inferInstance,kA,[]⟩
noncomputable def wC:Kz:=sg wB [wA] Tryz.func10 (by kernel_rfl) (by kernel_rfl) (by kernel_rfl)
mutual
def PG:Nat->LD->Int->Int->Int->Option (Int)
 | 0,_,_,_,_=>none
 | n+1,l3,z4,z5,z6=>
  (if z6<z4 then Su n l3 z4 z5 z6 true else Su n l3 z4 z5 z6 false)
def Su:Nat->LD->Int->Int->Int->Bool->Option (Int)
 | 0,_,_,_,_,_=>none
 | n+1,l3,z4,z5,z6,b7=>
  (if b7=true then Ae l3 z6 fun x8=>CM x8 fun z9 s10 l11=>bO1 (Vn n z9 s10 l11) fun z12=>AE (if z12>z5 then z12 else z5) fun z13=>AE (IntKind.wrap .i64 (z6+1)) fun z14=>PG n l3 z4 z13 z14 else AE (IntKind.wrap .i64 (z5+1)) fun z15=>some z15)
def Vn:Nat->Int->BA->LD->Option (Int)
 | 0,_,_,_=>none
 | n+1,z1,s2,l3=>
  AB l3 fun z4=>PG n l3 z4 (0:Int) (0:Int)
end
noncomputable def rX:BS:=⟨86,Tryz.f86,[.agg [.y,.str,.q 3]],[],⟨.one (.z),[],[]⟩,Int,inferInstance,Vn,[⟨58,[2,3,7,8,9],[],224,[.k 0,.z,.q 3,.z,.z],[],fun n z5 l3 z4 z6=>PG n l3 z4 z5 z6⟩,
 ⟨233,[2,3,7,8,9,10],[],256,[.k 0,.z,.q 3,.z,.z,.b],[],fun n z5 l3 z4 z6 b7=>Su n l3 z4 z5 z6 b7⟩]⟩
theorem wE:CF Tryz.prog inv (KU [rX]):=gr [] ⟨⟨Tryz.func86,by kernel_rfl,by kernel_rfl,by kernel_rfl⟩,trivial⟩
noncomputable def rY:Kz:=⟨rX.c,wE.1⟩
theorem wF (n:Nat):∀⦃z1 s2 l3 r1⦄,Vn n z1 s2 l3=some r1->
  BB Tryz.prog inv 86 [.d (.agg [.int .u8 z1,.str s2,.list true 3 l3])] [] (.v (.d (.int .i64 r1))) [] []:=fun z1 s2 l3 r1 h=>rY.ok n [.I z1,.S s2,.L l3] _ h _ _ _ _ _ _ rfl rfl rfl rfl _ rfl
mutual
def PH:Nat->LD->Int->Int->Int->Option (Int)
 | 0,_,_,_,_=>none
 | n+1,l7,z9,z10,z11=>
  (if z11<z9 then Sv n l7 z9 z10 z11 true else Sv n l7 z9 z10 z11 false)
def Sv:Nat->LD->Int->Int->Int->Bool->Option (Int)
 | 0,_,_,_,_,_=>none
 | n+1,l7,z9,z10,z11,b12=>
  (if b12=true then Ae l7 z11 fun x13=>Ao x13 fun z14 z15 s16 s17 s18 l19 l20 z21=>bO1 (YH n z14 z15 s16 s17 s18 l19 l20 z21) fun z22=>AE (if z22>z10 then z22 else z10) fun z23=>AE (IntKind.wrap .i64 (z11+1)) fun z24=>PH n l7 z9 z23 z24 else AE (IntKind.wrap .i64 (z10+1)) fun z25=>some z25)
def YH:Nat->Int->Int->BA->BA->BA->LD->LD->Int->Option (Int)
 | 0,_,_,_,_,_,_,_,_=>none
 | n+1,z1,z2,s3,s4,s5,l6,l7,z8=>
  AB l7 fun z9=>PH n l7 z9 (0:Int) (0:Int)
end
noncomputable def rZ:BS:=⟨87,Tryz.f87,[.agg [.y,.z,.str,.str,.str,.f 1,.q 8,.z]],[],⟨.one (.z),[],[]⟩,Int,inferInstance,YH,[⟨58,[2,3,7,8,9],[],224,[.k 0,.z,.q 8,.z,.z],[],fun n z10 l7 z9 z11=>PH n l7 z9 z10 z11⟩,
 ⟨233,[2,3,7,8,9,10],[],256,[.k 0,.z,.q 8,.z,.z,.b],[],fun n z10 l7 z9 z11 b12=>Sv n l7 z9 z10 z11 b12⟩]⟩
theorem wG:CF Tryz.prog inv (KU [rZ]):=gr [] ⟨⟨Tryz.func87,by kernel_rfl,by kernel_rfl,by kernel_rfl⟩,trivial⟩
noncomputable def sA:Kz:=⟨rZ.c,wG.1⟩
theorem wH (n:Nat):∀⦃z1 z2 s3 s4 s5 l6 l7 z8 r1⦄,YH n z1 z2 s3 s4 s5 l6 l7 z8=some r1->
  BB Tryz.prog inv 87 [.d (.agg [.int .u8 z1,.int .i64 z2,.str s3,.str s4,.str s5,.list false 1 l6,.list true 8 l7,.int .i64 z8])] [] (.v (.d (.int .i64 r1))) [] []:=fun z1 z2 s3 s4 s5 l6 l7 z8 r1 h=>sA.ok n [.I z1,.I z2,.S s3,.S s4,.S s5,.L l6,.L l7,.I z8] _ h _ _ _ _ _ _ rfl rfl rfl rfl _ rfl
def gG (n:Nat) (z1:Int) (s2:BA) (s3:BA) (l4:LD) (z5:Int) (s6:BA) (l7:LD) (z8:Int) (s9:BA) (l10:LD) (l11:LD) (l12:LD) (l13:LD) (l14:LD) (z15:Int):Option (Int×BA×BA×LD×Int×BA×LD×Int×BA×LD×LD×LD×LD×LD×Int):=
 some (z1,s2,s3,l4,z5,s6,l7,z8,s9,l10,l11,l12,l13,l14,z15)
noncomputable def wI:BS:=⟨89,Tryz.f89,[.agg [.y,.str,.str,.f 1,.y,.str,.q 3,.z,.str,.f 1,.q 8,.q 15,.q 15,.q 3,.z]],[],⟨.one (.one (.fn 138 [.loc 0])),[],[[.y,.str,.str,.f 1,.y,.str,.q 3,.z,.str,.f 1,.q 8,.q 15,.q 15,.q 3,.z]]⟩,Int×BA×BA×LD×Int×BA×LD×Int×BA×LD×LD×LD×LD×LD×Int,inferInstance,gG,[]⟩
noncomputable def wJ:Kz:=sg wI [] Tryz.func89 (by kernel_rfl) (by kernel_rfl) (by kernel_rfl)
theorem sC (n:Nat):∀⦃z1 s2 s3 l4 z5 s6 l7 z8 s9 l10 l11 l12 l13 l14 z15 r1 r2 r3 r4 r5 r6 r7 r8 r9 r10 r11 r12 r13 r14 r15⦄,gG n z1 s2 s3 l4 z5 s6 l7 z8 s9 l10 l11 l12 l13 l14 z15=some (r1,r2,r3,r4,r5,r6,r7,r8,r9,r10,r11,r12,r13,r14,r15)->
  BB Tryz.prog inv 89 [.d (.agg [.int .u8 z1,.str s2,.str s3,.list false 1 l4,.int .u8 z5,.str s6,.list true 3 l7,.int .i64 z8,.str s9,.list false 1 l10,.list true 8 l11,.list true 15 l12,.list true 15 l13,.list true 3 l14,.int .i64 z15])] [] (.v (.c (.fn 138 [.loc 0]))) [] [.cells [.d (.int .u8 r1),.d (.str r2),.d (.str r3),.d (.list false 1 r4),.d (.int .u8 r5),.d (.str r6),.d (.list true 3 r7),.d (.int .i64 r8),.d (.str r9),.d (.list false 1 r10),.d (.list true 8 r11),.d (.list true 15 r12),.d (.list true 15 r13),.d (.list true 3 r14),.d (.int .i64 r15)]]:=fun z1 s2 s3 l4 z5 s6 l7 z8 s9 l10 l11 l12 l13 l14 z15 r1 r2 r3 r4 r5 r6 r7 r8 r9 r10 r11 r12 r13 r14 r15 h=>wJ.ok n [.I z1,.S s2,.S s3,.L l4,.I z5,.S s6,.L l7,.I z8,.S s9,.L l10,.L l11,.L l12,.L l13,.L l14,.I z15] _ h _ _ _ _ _ _ rfl rfl rfl rfl _ rfl
mutual
def NH:Nat->Int->BA->BA->LD->Int->BA->LD->Int->BA->LD->LD->LD->LD->LD->Int->Int->Option (Int)
 | 0,_,_,_,_,_,_,_,_,_,_,_,_,_,_,_,_=>none
 | n+1,z1,s2,s3,l4,z5,s6,l7,z8,s9,l10,l11,l12,l13,l14,z15,z16=>
  bO1 (Ww n z1 s2 s3 l4 z5 s6 l7 z8 s9 l10 l11 l12 l13 l14 z15) fun z17=>AE (if z17>z16 then z17 else z16) fun z18=>some z18
def Em:Nat->Int->BA->BA->LD->Int->BA->LD->Int->BA->LD->LD->LD->LD->LD->Int->Int->Int->Option (Int×Int×BA×BA×LD×Int×BA×LD×Int×BA×LD×LD×LD×LD×LD×Int)
 | 0,_,_,_,_,_,_,_,_,_,_,_,_,_,_,_,_,_=>none
 | n+1,z2,s3,s4,l5,z6,s7,l8,z9,s10,l11,l12,l13,l14,l15,z16,z17,z18=>
  (if z17<(2:Int)then FW n z2 s3 s4 l5 z6 s7 l8 z9 s10 l11 l12 l13 l14 l15 z16 z17 z18 true else FW n z2 s3 s4 l5 z6 s7 l8 z9 s10 l11 l12 l13 l14 l15 z16 z17 z18 false)
def FW:Nat->Int->BA->BA->LD->Int->BA->LD->Int->BA->LD->LD->LD->LD->LD->Int->Int->Int->Bool->Option (Int×Int×BA×BA×LD×Int×BA×LD×Int×BA×LD×LD×LD×LD×LD×Int)
 | 0,_,_,_,_,_,_,_,_,_,_,_,_,_,_,_,_,_,_=>none
 | n+1,z2,s3,s4,l5,z6,s7,l8,z9,s10,l11,l12,l13,l14,l15,z16,z17,z18,b19=>
  (if b19=true then Ae ([.list true 15 l13,.list true 15 l14]) z17 fun x20=>Bo x20 fun l21=>AB l21 fun z22=>FX n z2 s3 s4 l5 z6 s7 l8 z9 s10 l11 l12 l13 l14 l15 z16 z17 l21 z22 (0:Int) z18 else AB l15 fun z45=>En n z2 s3 s4 l5 z6 s7 l8 z9 s10 l11 l12 l13 l14 l15 z16 z45 (0:Int) z18)
def FX:Nat->Int->BA->BA->LD->Int->BA->LD->Int->BA->LD->LD->LD->LD->LD->Int->Int->LD->Int->Int->Int->Option (Int×Int×BA×BA×LD×Int×BA×LD×Int×BA×LD×LD×LD×LD×LD×Int)
 | 0,_,_,_,_,_,_,_,_,_,_,_,_,_,_,_,_,_,_,_,_=>none
 | n+1,z2,s3,s4,l5,z6,s7,l8,z9,s10,l11,l12,l13,l14,l15,z16,z17,l21,z22,z23,z24=>
  (if z23<z22 then GK n z2 s3 s4 l5 z6 s7 l8 z9 s10 l11 l12 l13 l14 l15 z16 z17 l21 z22 z23 z24 true else GK n z2 s3 s4 l5 z6 s7 l8 z9 s10 l11 l12 l13 l14 l15 z16 z17 l21 z22 z23 z24 false)
def GK:Nat->Int->BA->BA->LD->Int->BA->LD->Int->BA->LD->LD->LD->LD->LD->Int->Int->LD->Int->Int->Int->Bool->Option (Int×Int×BA×BA×LD×Int×BA×LD×Int×BA×LD×LD×LD×LD×LD×Int)
 | 0,_,_,_,_,_,_,_,_,_,_,_,_,_,_,_,_,_,_,_,_,_=>none
 | n+1,z2,s3,s4,l5,z6,s7,l8,z9,s10,l11,l12,l13,l14,l15,z16,z17,l21,z22,z23,z24,b25=>
  (if b25=true then Ae l21 z23 fun x26=>Af x26 fun z27 s28 s29 l30 z31 s32 l33 z34 s35 l36 l37 l38 l39 l40 z41=>bO1 (NH n z27 s28 s29 l30 z31 s32 l33 z34 s35 l36 l37 l38 l39 l40 z41 z24) fun z42=>AE (IntKind.wrap .i64 (z23+1)) fun z43=>FX n z2 s3 s4 l5 z6 s7 l8 z9 s10 l11 l12 l13 l14 l15 z16 z17 l21 z22 z43 z42 else AE (IntKind.wrap .i64 (z17+1)) fun z44=>Em n z2 s3 s4 l5 z6 s7 l8 z9 s10 l11 l12 l13 l14 l15 z16 z44 z24)
def En:Nat->Int->BA->BA->LD->Int->BA->LD->Int->BA->LD->LD->LD->LD->LD->Int->Int->Int->Int->Option (Int×Int×BA×BA×LD×Int×BA×LD×Int×BA×LD×LD×LD×LD×LD×Int)
 | 0,_,_,_,_,_,_,_,_,_,_,_,_,_,_,_,_,_,_=>none
 | n+1,z2,s3,s4,l5,z6,s7,l8,z9,s10,l11,l12,l13,l14,l15,z16,z45,z46,z47=>
  (if z46<z45 then GL n z2 s3 s4 l5 z6 s7 l8 z9 s10 l11 l12 l13 l14 l15 z16 z45 z46 z47 true else GL n z2 s3 s4 l5 z6 s7 l8 z9 s10 l11 l12 l13 l14 l15 z16 z45 z46 z47 false)
def GL:Nat->Int->BA->BA->LD->Int->BA->LD->Int->BA->LD->LD->LD->LD->LD->Int->Int->Int->Int->Bool->Option (Int×Int×BA×BA×LD×Int×BA×LD×Int×BA×LD×LD×LD×LD×LD×Int)
 | 0,_,_,_,_,_,_,_,_,_,_,_,_,_,_,_,_,_,_,_=>none
 | n+1,z2,s3,s4,l5,z6,s7,l8,z9,s10,l11,l12,l13,l14,l15,z16,z45,z46,z47,b48=>
  (if b48=true then Ae l15 z46 fun x49=>Be x49 fun s50 s51 l52=>AB l52 fun z53=>FY n z2 s3 s4 l5 z6 s7 l8 z9 s10 l11 l12 l13 l14 l15 z16 z45 z46 l52 z53 (0:Int) z47 else some (z47,z2,s3,s4,l5,z6,s7,l8,z9,s10,l11,l12,l13,l14,l15,z16))
def FY:Nat->Int->BA->BA->LD->Int->BA->LD->Int->BA->LD->LD->LD->LD->LD->Int->Int->Int->LD->Int->Int->Int->Option (Int×Int×BA×BA×LD×Int×BA×LD×Int×BA×LD×LD×LD×LD×LD×Int)
 | 0,_,_,_,_,_,_,_,_,_,_,_,_,_,_,_,_,_,_,_,_,_=>none
 | n+1,z2,s3,s4,l5,z6,s7,l8,z9,s10,l11,l12,l13,l14,l15,z16,z45,z46,l52,z53,z54,z55=>
  (if z54<z53 then GM n z2 s3 s4 l5 z6 s7 l8 z9 s10 l11 l12 l13 l14 l15 z16 z45 z46 l52 z53 z54 z55 true else GM n z2 s3 s4 l5 z6 s7 l8 z9 s10 l11 l12 l13 l14 l15 z16 z45 z46 l52 z53 z54 z55 false)
def GM:Nat->Int->BA->BA->LD->Int->BA->LD->Int->BA->LD->LD->LD->LD->LD->Int->Int->Int->LD->Int->Int->Int->Bool->Option (Int×Int×BA×BA×LD×Int×BA×LD×Int×BA×LD×LD×LD×LD×LD×Int)
 | 0,_,_,_,_,_,_,_,_,_,_,_,_,_,_,_,_,_,_,_,_,_,_=>none
 | n+1,z2,s3,s4,l5,z6,s7,l8,z9,s10,l11,l12,l13,l14,l15,z16,z45,z46,l52,z53,z54,z55,b56=>
  (if b56=true then Ae l52 z54 fun x57=>Af x57 fun z58 s59 s60 l61 z62 s63 l64 z65 s66 l67 l68 l69 l70 l71 z72=>bO1 (NH n z58 s59 s60 l61 z62 s63 l64 z65 s66 l67 l68 l69 l70 l71 z72 z55) fun z73=>AE (IntKind.wrap .i64 (z54+1)) fun z74=>FY n z2 s3 s4 l5 z6 s7 l8 z9 s10 l11 l12 l13 l14 l15 z16 z45 z46 l52 z53 z74 z73 else AE (IntKind.wrap .i64 (z46+1)) fun z75=>En n z2 s3 s4 l5 z6 s7 l8 z9 s10 l11 l12 l13 l14 l15 z16 z45 z75 z55)
def YI:Nat->Int->Int->BA->BA->LD->Int->BA->LD->Int->BA->LD->LD->LD->LD->LD->Int->Option (Int×Int×BA×BA×LD×Int×BA×LD×Int×BA×LD×LD×LD×LD×LD×Int)
 | 0,_,_,_,_,_,_,_,_,_,_,_,_,_,_,_,_=>none
 | n+1,z1,z2,s3,s4,l5,z6,s7,l8,z9,s10,l11,l12,l13,l14,l15,z16=>
  Em n z2 s3 s4 l5 z6 s7 l8 z9 s10 l11 l12 l13 l14 l15 z16 (0:Int) z1
def Jb:Nat->Int->BA->BA->LD->Int->BA->LD->Int->BA->LD->LD->LD->LD->LD->Int->Bool->Option (Int)
 | 0,_,_,_,_,_,_,_,_,_,_,_,_,_,_,_,_=>none
 | n+1,z1,s2,s3,l4,z5,s6,l7,z8,s9,l10,l11,l12,l13,l14,z15,b16=>
  (if b16=true then bO1 (Vn n z5 s6 l7) fun z17=>Jc n z1 s2 s3 l4 z5 s6 l7 z8 s9 l10 l11 l12 l13 l14 z15 z17 else Jc n z1 s2 s3 l4 z5 s6 l7 z8 s9 l10 l11 l12 l13 l14 z15 (0:Int))
def Jc:Nat->Int->BA->BA->LD->Int->BA->LD->Int->BA->LD->LD->LD->LD->LD->Int->Int->Option (Int)
 | 0,_,_,_,_,_,_,_,_,_,_,_,_,_,_,_,_=>none
 | n+1,z1,s2,s3,l4,z5,s6,l7,z8,s9,l10,l11,l12,l13,l14,z15,z18=>
  AB l11 fun z19=>Gf n z1 s2 s3 l4 z5 s6 l7 z8 s9 l10 l11 l12 l13 l14 z15 z19 (0:Int) z18
def Gf:Nat->Int->BA->BA->LD->Int->BA->LD->Int->BA->LD->LD->LD->LD->LD->Int->Int->Int->Int->Option (Int)
 | 0,_,_,_,_,_,_,_,_,_,_,_,_,_,_,_,_,_,_=>none
 | n+1,z1,s2,s3,l4,z5,s6,l7,z8,s9,l10,l11,l12,l13,l14,z15,z19,z20,z21=>
  (if z20<z19 then Jd n z1 s2 s3 l4 z5 s6 l7 z8 s9 l10 l11 l12 l13 l14 z15 z19 z20 z21 true else Jd n z1 s2 s3 l4 z5 s6 l7 z8 s9 l10 l11 l12 l13 l14 z15 z19 z20 z21 false)
def Jd:Nat->Int->BA->BA->LD->Int->BA->LD->Int->BA->LD->LD->LD->LD->LD->Int->Int->Int->Int->Bool->Option (Int)
 | 0,_,_,_,_,_,_,_,_,_,_,_,_,_,_,_,_,_,_,_=>none
 | n+1,z1,s2,s3,l4,z5,s6,l7,z8,s9,l10,l11,l12,l13,l14,z15,z19,z20,z21,b22=>
  (if b22=true then Ae l11 z20 fun x23=>Ao x23 fun z24 z25 s26 s27 s28 l29 l30 z31=>bO1 (YH n z24 z25 s26 s27 s28 l29 l30 z31) fun z32=>AE (if z32>z21 then z32 else z21) fun z33=>AE (IntKind.wrap .i64 (z20+1)) fun z34=>Gf n z1 s2 s3 l4 z5 s6 l7 z8 s9 l10 l11 l12 l13 l14 z15 z19 z34 z33 else bO15 (gG n z1 s2 s3 l4 z5 s6 l7 z8 s9 l10 l11 l12 l13 l14 z15) fun z35 s36 s37 l38 z39 s40 l41 z42 s43 l44 l45 l46 l47 l48 z49=>bO16 (YI n z21 z35 s36 s37 l38 z39 s40 l41 z42 s43 l44 l45 l46 l47 l48 z49) fun z50 z51 s52 s53 l54 z55 s56 l57 z58 s59 l60 l61 l62 l63 l64 z65=>AE (IntKind.wrap .i64 (z50+1)) fun z66=>some z66)
def Ww:Nat->Int->BA->BA->LD->Int->BA->LD->Int->BA->LD->LD->LD->LD->LD->Int->Option (Int)
 | 0,_,_,_,_,_,_,_,_,_,_,_,_,_,_,_=>none
 | n+1,z1,s2,s3,l4,z5,s6,l7,z8,s9,l10,l11,l12,l13,l14,z15=>
  (if z1=(12:Int)then Jb n z1 s2 s3 l4 z5 s6 l7 z8 s9 l10 l11 l12 l13 l14 z15 true else Jb n z1 s2 s3 l4 z5 s6 l7 z8 s9 l10 l11 l12 l13 l14 z15 false)
end
theorem kB (n:Nat):(∀⦃z1 s2 s3 l4 z5 s6 l7 z8 s9 l10 l11 l12 l13 l14 z15 z16 r1⦄,NH n z1 s2 s3 l4 z5 s6 l7 z8 s9 l10 l11 l12 l13 l14 z15 z16=some r1->
    DI Tryz.prog inv (Ib ()) [(3,.v (.c (.ptr (.ext 0) 0)))] [.d (.agg [.int .u8 z1,.str s2,.str s3,.list false 1 l4,.int .u8 z5,.str s6,.list true 3 l7,.int .i64 z8,.str s9,.list false 1 l10,.list true 8 l11,.list true 15 l12,.list true 15 l13,.list true 3 l14,.int .i64 z15])] [.cells [.d (.int .i64 z16)]] fun j p n=>j=none/\p=[.cells [.d (.int .i64 r1)]]/\n=[])/\
    (∀⦃z1 z2 s3 s4 l5 z6 s7 l8 z9 s10 l11 l12 l13 l14 l15 z16 r1 r2 r3 r4 r5 r6 r7 r8 r9 r10 r11 r12 r13 r14 r15 r16⦄,YI n z1 z2 s3 s4 l5 z6 s7 l8 z9 s10 l11 l12 l13 l14 l15 z16=some (r1,r2,r3,r4,r5,r6,r7,r8,r9,r10,r11,r12,r13,r14,r15,r16)->
    BB Tryz.prog inv 138 [.c (.yl (.ext 0)),.c (.ptr (.ext 2) 0)] [.rnd Ib [(3,.v (.c (.ptr (.ext 1) 0)))],.cells [.d (.int .i64 z1)],.cells [.d (.int .u8 z2),.d (.str s3),.d (.str s4),.d (.list false 1 l5),.d (.int .u8 z6),.d (.str s7),.d (.list true 3 l8),.d (.int .i64 z9),.d (.str s10),.d (.list false 1 l11),.d (.list true 8 l12),.d (.list true 15 l13),.d (.list true 15 l14),.d (.list true 3 l15),.d (.int .i64 z16)]] (.t []) [.rnd Ib [(3,.v (.c (.ptr (.ext 1) 0)))],.cells [.d (.int .i64 r1)],.cells [.d (.int .u8 r2),.d (.str r3),.d (.str r4),.d (.list false 1 r5),.d (.int .u8 r6),.d (.str r7),.d (.list true 3 r8),.d (.int .i64 r9),.d (.str r10),.d (.list false 1 r11),.d (.list true 8 r12),.d (.list true 15 r13),.d (.list true 15 r14),.d (.list true 3 r15),.d (.int .i64 r16)]] [])/\
    (∀⦃z1 s2 s3 l4 z5 s6 l7 z8 s9 l10 l11 l12 l13 l14 z15 r1⦄,Ww n z1 s2 s3 l4 z5 s6 l7 z8 s9 l10 l11 l12 l13 l14 z15=some r1->
    BB Tryz.prog inv 88 [.d (.agg [.int .u8 z1,.str s2,.str s3,.list false 1 l4,.int .u8 z5,.str s6,.list true 3 l7,.int .i64 z8,.str s9,.list false 1 l10,.list true 8 l11,.list true 15 l12,.list true 15 l13,.list true 3 l14,.int .i64 z15])] [] (.v (.d (.int .i64 r1))) [] []):=by
 induction n using Nat.strongRecOn with | _ n ih=>
 obtain _ | n:=n
 ·refine⟨?_,?_,?_⟩
  ·intro z1 s2 s3 l4 z5 s6 l7 z8 s9 l10 l11 l12 l13 l14 z15 z16 r1 h
   cases (show (none:Option _)=some _ from h)
  ·intro z1 z2 s3 s4 l5 z6 s7 l8 z9 s10 l11 l12 l13 l14 l15 z16 r1 r2 r3 r4 r5 r6 r7 r8 r9 r10 r11 r12 r13 r14 r15 r16 h
   cases (show (none:Option _)=some _ from h)
  intro z1 s2 s3 l4 z5 s6 l7 z8 s9 l10 l11 l12 l13 l14 z15 r1 h
  cases (show (none:Option _)=some _ from h)
 refine⟨?_,?_,?_⟩
 ·intro z1 s2 s3 l4 z5 s6 l7 z8 s9 l10 l11 l12 l13 l14 z15 z16 r1 h
  rw[NH]at h
  refine DI.uG BU BK Ht rfl rfl rfl rfl rfl (by kernel_rfl) (fun M hM hI=>?_)
  try cbv
  replace h:=Ai h
  obtain⟨z17,hr,h⟩:=h
  first | refine .inr (.inl ⟨[],?_⟩) | refine .inl ⟨[],?_⟩
  try cbv
  refine AU hM hI ((ih _ (by omega)).2.2 hr) rfl ?_
  clear hr
  try cbv
  replace h:=Aa h
  obtain⟨z18,hz,h⟩:=h
  refine⟨z18,hz,?_⟩
  clear hz
  try cbv
  refine drawn ?_ ?_
  ·show _=true
   kernel_rfl
  try cbv
  obtain rfl:=Option.some.inj h
  refine⟨_,_,⟨rfl,rfl,rfl⟩,[],?_⟩
  try cbv
  exact⟨[],rfl,⟨rfl,trivial⟩,trivial,trivial⟩
 ·intro z1 z2 s3 s4 l5 z6 s7 l8 z9 s10 l11 l12 l13 l14 l15 z16 r1 r2 r3 r4 r5 r6 r7 r8 r9 r10 r11 r12 r13 r14 r15 r16 h
  rw[YI]at h
  refine BB.of BU BK Ht Tryz.func138 rfl (by kernel_rfl) rfl rfl rfl (fun M hM hI=>?_)
  try cbv
  refine AD ?_
  try cbv
  refine AD ?_
  try cbv
  refine⟨false,?_⟩
  try cbv
  refine⟨true,?_⟩
  try cbv
  refine⟨2,(M.lenI_eq _).trans rfl,?_⟩
  try cbv
  refine CO (T:=Nat×Int×Int) [0,1,15,16,17] [.ext 0,.ext 1,.ext 2] 224 (fun t=>⟨[(0,.v (.c (.yl (.ext 0)))),sE 1 2,(15,.v (.c (.tl false 1 ([.list true 15 l13,.list true 15 l14])))),sI 16 2,sI 17 t.2.1],[(.ext 0,.rnd Ib [sE 3 1]),(.ext 1,.cells [.d (.int .i64 t.2.2)]),(.ext 2,.cells [.d (.int .u8 z2),.d (.str s3),.d (.str s4),.d (.list false 1 l5),.d (.int .u8 z6),.d (.str s7),.d (.list true 3 l8),.d (.int .i64 z9),.d (.str s10),.d (.list false 1 l11),.d (.list true 8 l12),.d (.list true 15 l13),.d (.list true 15 l14),.d (.list true 3 l15),.d (.int .i64 z16)])],224⟩)
    (fun t=>t.1<=n/\Em t.1 z2 s3 s4 l5 z6 s7 l8 z9 s10 l11 l12 l13 l14 l15 z16 t.2.1 t.2.2=some (r1,r2,r3,r4,r5,r6,r7,r8,r9,r10,r11,r12,r13,r14,r15,r16)) (fun t=>t.1) (n,((0:Int),z1)) ⟨Nat.le_refl _,h⟩ (by cbv) ?_
  clear h
  rintro⟨m1,z17,z18⟩ ⟨hm1,h⟩
  replace hm1:m1<=n:=hm1
  obtain _ | m1:=m1
  ·replace h:Em 0 z2 s3 s4 l5 z6 s7 l8 z9 s10 l11 l12 l13 l14 l15 z16 z17 z18=some (r1,r2,r3,r4,r5,r6,r7,r8,r9,r10,r11,r12,r13,r14,r15,r16):=h
   rw[Em]at h
   cases h
  replace h:Em (m1+1) z2 s3 s4 l5 z6 s7 l8 z9 s10 l11 l12 l13 l14 l15 z16 z17 z18=some (r1,r2,r3,r4,r5,r6,r7,r8,r9,r10,r11,r12,r13,r14,r15,r16):=h
  rw[Em]at h
  try cbv
  refine AJ 18 [0,1,15,16,17,18] [.ext 0,.ext 1,.ext 2] 256 (fun m b=>m<=m1/\FW m z2 s3 s4 l5 z6 s7 l8 z9 s10 l11 l12 l13 l14 l15 z16 z17 z18 b=some (r1,r2,r3,r4,r5,r6,r7,r8,r9,r10,r11,r12,r13,r14,r15,r16)) ?_ ?_
  ·try cbv
   refine B1 (fun e=>?_) (fun e=>?_)
   ·replace h:=Ag e h
    clear e
    try cbv
    exact AA (m1,true) [0,1,15,16,17,18] [.ext 0,.ext 1,.ext 2] 256 ⟨by omega,h⟩ (by cbv)
   replace h:=Ah (Int.not_lt.2 e) h
   clear e
   try cbv
   exact AA (m1,false) [0,1,15,16,17,18] [.ext 0,.ext 1,.ext 2] 256 ⟨by omega,h⟩ (by cbv)
  clear h
  rintro⟨m2,b19⟩ ⟨hm2,h⟩
  try cbv
  replace hm2:m2<=m1:=hm2
  obtain _ | m2:=m2
  ·replace h:FW 0 z2 s3 s4 l5 z6 s7 l8 z9 s10 l11 l12 l13 l14 l15 z16 z17 z18 b19=some (r1,r2,r3,r4,r5,r6,r7,r8,r9,r10,r11,r12,r13,r14,r15,r16):=h
   rw[FW]at h
   cases h
  replace h:FW (m2+1) z2 s3 s4 l5 z6 s7 l8 z9 s10 l11 l12 l13 l14 l15 z16 z17 z18 b19=some (r1,r2,r3,r4,r5,r6,r7,r8,r9,r10,r11,r12,r13,r14,r15,r16):=h
  rw[FW]at h
  try cbv
  refine AD ?_
  try cbv
  cases b19
  rotate_left
  ·replace h:=Bx h
   try cbv
   refine AD ?_
   try cbv
   refine AD ?_
   try cbv
   replace h:=Az h
   obtain⟨x20,⟨hx0,hx⟩,h⟩:=h
   refine⟨x20,hx0,hx,?_⟩
   clear hx0 hx
   replace h:=DY h
   obtain⟨l21,rfl,h⟩:=h
   try cbv
   refine AD ?_
   try cbv
   replace h:=BQ M h
   obtain⟨z22,hz,h⟩:=h
   refine⟨z22,hz,?_⟩
   clear hz
   try cbv
   refine CO (T:=Nat×Int×Int) [0,1,15,16,17,21,22,23] [.ext 0,.ext 1,.ext 2] 448 (fun t=>⟨[(0,.v (.c (.yl (.ext 0)))),sE 1 2,(15,.v (.c (.tl false 1 ([.list true 15 l13,.list true 15 l14])))),sI 16 2,sI 17 z17,sT 21 15 l21,sI 22 z22,sI 23 t.2.1],[(.ext 0,.rnd Ib [sE 3 1]),(.ext 1,.cells [.d (.int .i64 t.2.2)]),(.ext 2,.cells [.d (.int .u8 z2),.d (.str s3),.d (.str s4),.d (.list false 1 l5),.d (.int .u8 z6),.d (.str s7),.d (.list true 3 l8),.d (.int .i64 z9),.d (.str s10),.d (.list false 1 l11),.d (.list true 8 l12),.d (.list true 15 l13),.d (.list true 15 l14),.d (.list true 3 l15),.d (.int .i64 z16)])],448⟩)
     (fun t=>t.1<=m2/\FX t.1 z2 s3 s4 l5 z6 s7 l8 z9 s10 l11 l12 l13 l14 l15 z16 z17 l21 z22 t.2.1 t.2.2=some (r1,r2,r3,r4,r5,r6,r7,r8,r9,r10,r11,r12,r13,r14,r15,r16)) (fun t=>t.1) (m2,((0:Int),z18)) ⟨Nat.le_refl _,h⟩ (by cbv) ?_
   clear h
   rintro⟨m3,z23,z24⟩ ⟨hm3,h⟩
   replace hm3:m3<=m2:=hm3
   obtain _ | m3:=m3
   ·replace h:FX 0 z2 s3 s4 l5 z6 s7 l8 z9 s10 l11 l12 l13 l14 l15 z16 z17 l21 z22 z23 z24=some (r1,r2,r3,r4,r5,r6,r7,r8,r9,r10,r11,r12,r13,r14,r15,r16):=h
    rw[FX]at h
    cases h
   replace h:FX (m3+1) z2 s3 s4 l5 z6 s7 l8 z9 s10 l11 l12 l13 l14 l15 z16 z17 l21 z22 z23 z24=some (r1,r2,r3,r4,r5,r6,r7,r8,r9,r10,r11,r12,r13,r14,r15,r16):=h
   rw[FX]at h
   try cbv
   refine AJ 24 [0,1,15,16,17,21,22,23,24] [.ext 0,.ext 1,.ext 2] 480 (fun m b=>m<=m3/\GK m z2 s3 s4 l5 z6 s7 l8 z9 s10 l11 l12 l13 l14 l15 z16 z17 l21 z22 z23 z24 b=some (r1,r2,r3,r4,r5,r6,r7,r8,r9,r10,r11,r12,r13,r14,r15,r16)) ?_ ?_
   ·try cbv
    refine B1 (fun e=>?_) (fun e=>?_)
    ·replace h:=Ag e h
     clear e
     try cbv
     exact AA (m3,true) [0,1,15,16,17,21,22,23,24] [.ext 0,.ext 1,.ext 2] 480 ⟨by omega,h⟩ (by cbv)
    replace h:=Ah (Int.not_lt.2 e) h
    clear e
    try cbv
    exact AA (m3,false) [0,1,15,16,17,21,22,23,24] [.ext 0,.ext 1,.ext 2] 480 ⟨by omega,h⟩ (by cbv)
   clear h
   rintro⟨m4,b25⟩ ⟨hm4,h⟩
   try cbv
   replace hm4:m4<=m3:=hm4
   obtain _ | m4:=m4
   ·replace h:GK 0 z2 s3 s4 l5 z6 s7 l8 z9 s10 l11 l12 l13 l14 l15 z16 z17 l21 z22 z23 z24 b25=some (r1,r2,r3,r4,r5,r6,r7,r8,r9,r10,r11,r12,r13,r14,r15,r16):=h
    rw[GK]at h
    cases h
   replace h:GK (m4+1) z2 s3 s4 l5 z6 s7 l8 z9 s10 l11 l12 l13 l14 l15 z16 z17 l21 z22 z23 z24 b25=some (r1,r2,r3,r4,r5,r6,r7,r8,r9,r10,r11,r12,r13,r14,r15,r16):=h
   rw[GK]at h
   try cbv
   refine AD ?_
   try cbv
   cases b25
   ·replace h:=Bz h
    try cbv
    replace h:=Aa h
    obtain⟨z44,hz,h⟩:=h
    refine⟨z44,hz,?_⟩
    clear hz
    try cbv
    exact BT (m4,(z44,z24)) [0,1,15,16,17] [.ext 0,.ext 1,.ext 2] 224 ⟨by omega,h⟩ (Nat.lt_succ_of_le (by omega)) (by cbv)
   replace h:=Bx h
   try cbv
   refine AD ?_
   try cbv
   refine AD ?_
   try cbv
   replace h:=Az h
   obtain⟨x26,⟨hx0,hx⟩,h⟩:=h
   refine⟨x26,hx0,hx,?_⟩
   clear hx0 hx
   replace h:=Bb h
   obtain⟨z27,s28,s29,l30,z31,s32,l33,z34,s35,l36,l37,l38,l39,l40,z41,rfl,h⟩:=h
   try cbv
   refine AD ?_
   try cbv
   replace h:=Ai h
   obtain⟨z42,hr,h⟩:=h
   refine Lr hM hI [.ext 1] (sl0:=[(3,.v (.c (.ptr (.ext 0) 0)))]) rfl rfl rfl rfl ((ih _ (by omega)).1 hr) rfl rfl rfl (by simp) ⟨rfl,trivial⟩ ⟨trivial,trivial⟩ (by simp) ?_
   clear hr
   try cbv
   refine⟨false,rfl,?_⟩
   try cbv
   replace h:=Aa h
   obtain⟨z43,hz,h⟩:=h
   refine⟨z43,hz,?_⟩
   clear hz
   try cbv
   exact BT (m4,(z43,z42)) [0,1,15,16,17,21,22,23] [.ext 0,.ext 1,.ext 2] 448 ⟨by omega,h⟩ (Nat.lt_succ_of_le (by omega)) (by cbv)
  replace h:=Bz h
  try cbv
  refine AD ?_
  try cbv
  replace h:=BQ M h
  obtain⟨z45,hz,h⟩:=h
  refine⟨z45,hz,?_⟩
  clear hz
  try cbv
  refine CO (T:=Nat×Int×Int) [0,34,35,36] [.ext 0,.ext 1,.ext 2] 384 (fun t=>⟨[(0,.v (.c (.yl (.ext 0)))),sT 34 3 l15,sI 35 z45,sI 36 t.2.1],[(.ext 0,.rnd Ib [sE 3 1]),(.ext 1,.cells [.d (.int .i64 t.2.2)]),(.ext 2,.cells [.d (.int .u8 z2),.d (.str s3),.d (.str s4),.d (.list false 1 l5),.d (.int .u8 z6),.d (.str s7),.d (.list true 3 l8),.d (.int .i64 z9),.d (.str s10),.d (.list false 1 l11),.d (.list true 8 l12),.d (.list true 15 l13),.d (.list true 15 l14),.d (.list true 3 l15),.d (.int .i64 z16)])],384⟩)
    (fun t=>t.1<=m2/\En t.1 z2 s3 s4 l5 z6 s7 l8 z9 s10 l11 l12 l13 l14 l15 z16 z45 t.2.1 t.2.2=some (r1,r2,r3,r4,r5,r6,r7,r8,r9,r10,r11,r12,r13,r14,r15,r16)) (fun t=>t.1) (m2,((0:Int),z18)) ⟨Nat.le_refl _,h⟩ (by cbv) ?_
  clear h
  rintro⟨m5,z46,z47⟩ ⟨hm5,h⟩
  replace hm5:m5<=m2:=hm5
  obtain _ | m5:=m5
  ·replace h:En 0 z2 s3 s4 l5 z6 s7 l8 z9 s10 l11 l12 l13 l14 l15 z16 z45 z46 z47=some (r1,r2,r3,r4,r5,r6,r7,r8,r9,r10,r11,r12,r13,r14,r15,r16):=h
   rw[En]at h
   cases h
  replace h:En (m5+1) z2 s3 s4 l5 z6 s7 l8 z9 s10 l11 l12 l13 l14 l15 z16 z45 z46 z47=some (r1,r2,r3,r4,r5,r6,r7,r8,r9,r10,r11,r12,r13,r14,r15,r16):=h
  rw[En]at h
  try cbv
  refine AJ 37 [0,34,35,36,37] [.ext 0,.ext 1,.ext 2] 416 (fun m b=>m<=m5/\GL m z2 s3 s4 l5 z6 s7 l8 z9 s10 l11 l12 l13 l14 l15 z16 z45 z46 z47 b=some (r1,r2,r3,r4,r5,r6,r7,r8,r9,r10,r11,r12,r13,r14,r15,r16)) ?_ ?_
  ·try cbv
   refine B1 (fun e=>?_) (fun e=>?_)
   ·replace h:=Ag e h
    clear e
    try cbv
    exact AA (m5,true) [0,34,35,36,37] [.ext 0,.ext 1,.ext 2] 416 ⟨by omega,h⟩ (by cbv)
   replace h:=Ah (Int.not_lt.2 e) h
   clear e
   try cbv
   exact AA (m5,false) [0,34,35,36,37] [.ext 0,.ext 1,.ext 2] 416 ⟨by omega,h⟩ (by cbv)
  clear h
  rintro⟨m6,b48⟩ ⟨hm6,h⟩
  try cbv
  replace hm6:m6<=m5:=hm6
  obtain _ | m6:=m6
  ·replace h:GL 0 z2 s3 s4 l5 z6 s7 l8 z9 s10 l11 l12 l13 l14 l15 z16 z45 z46 z47 b48=some (r1,r2,r3,r4,r5,r6,r7,r8,r9,r10,r11,r12,r13,r14,r15,r16):=h
   rw[GL]at h
   cases h
  replace h:GL (m6+1) z2 s3 s4 l5 z6 s7 l8 z9 s10 l11 l12 l13 l14 l15 z16 z45 z46 z47 b48=some (r1,r2,r3,r4,r5,r6,r7,r8,r9,r10,r11,r12,r13,r14,r15,r16):=h
  rw[GL]at h
  try cbv
  refine AD ?_
  try cbv
  cases b48
  ·replace h:=Bz h
   try cbv
   obtain⟨rfl,rfl,rfl,rfl,rfl,rfl,rfl,rfl,rfl,rfl,rfl,rfl,rfl,rfl,rfl,rfl⟩:=aZ h
   refine AZ ?_
   try cbv
   exact⟨[],rfl,rfl,⟨rfl,⟨rfl,⟨rfl,trivial⟩⟩⟩,trivial,trivial⟩
  replace h:=Bx h
  try cbv
  refine AD ?_
  try cbv
  refine AD ?_
  try cbv
  replace h:=Az h
  obtain⟨x49,⟨hx0,hx⟩,h⟩:=h
  refine⟨x49,hx0,hx,?_⟩
  clear hx0 hx
  replace h:=GD h
  obtain⟨s50,s51,l52,rfl,h⟩:=h
  try cbv
  refine AD ?_
  try cbv
  replace h:=BQ M h
  obtain⟨z53,hz,h⟩:=h
  refine⟨z53,hz,?_⟩
  clear hz
  try cbv
  refine CO (T:=Nat×Int×Int) [0,34,35,36,41,42,43] [.ext 0,.ext 1,.ext 2] 672 (fun t=>⟨[(0,.v (.c (.yl (.ext 0)))),sT 34 3 l15,sI 35 z45,sI 36 z46,sT 41 15 l52,sI 42 z53,sI 43 t.2.1],[(.ext 0,.rnd Ib [sE 3 1]),(.ext 1,.cells [.d (.int .i64 t.2.2)]),(.ext 2,.cells [.d (.int .u8 z2),.d (.str s3),.d (.str s4),.d (.list false 1 l5),.d (.int .u8 z6),.d (.str s7),.d (.list true 3 l8),.d (.int .i64 z9),.d (.str s10),.d (.list false 1 l11),.d (.list true 8 l12),.d (.list true 15 l13),.d (.list true 15 l14),.d (.list true 3 l15),.d (.int .i64 z16)])],672⟩)
    (fun t=>t.1<=m6/\FY t.1 z2 s3 s4 l5 z6 s7 l8 z9 s10 l11 l12 l13 l14 l15 z16 z45 z46 l52 z53 t.2.1 t.2.2=some (r1,r2,r3,r4,r5,r6,r7,r8,r9,r10,r11,r12,r13,r14,r15,r16)) (fun t=>t.1) (m6,((0:Int),z47)) ⟨Nat.le_refl _,h⟩ (by cbv) ?_
  clear h
  rintro⟨m7,z54,z55⟩ ⟨hm7,h⟩
  replace hm7:m7<=m6:=hm7
  obtain _ | m7:=m7
  ·replace h:FY 0 z2 s3 s4 l5 z6 s7 l8 z9 s10 l11 l12 l13 l14 l15 z16 z45 z46 l52 z53 z54 z55=some (r1,r2,r3,r4,r5,r6,r7,r8,r9,r10,r11,r12,r13,r14,r15,r16):=h
   rw[FY]at h
   cases h
  replace h:FY (m7+1) z2 s3 s4 l5 z6 s7 l8 z9 s10 l11 l12 l13 l14 l15 z16 z45 z46 l52 z53 z54 z55=some (r1,r2,r3,r4,r5,r6,r7,r8,r9,r10,r11,r12,r13,r14,r15,r16):=h
  rw[FY]at h
  try cbv
  refine AJ 44 [0,34,35,36,41,42,43,44] [.ext 0,.ext 1,.ext 2] 704 (fun m b=>m<=m7/\GM m z2 s3 s4 l5 z6 s7 l8 z9 s10 l11 l12 l13 l14 l15 z16 z45 z46 l52 z53 z54 z55 b=some (r1,r2,r3,r4,r5,r6,r7,r8,r9,r10,r11,r12,r13,r14,r15,r16)) ?_ ?_
  ·try cbv
   refine B1 (fun e=>?_) (fun e=>?_)
   ·replace h:=Ag e h
    clear e
    try cbv
    exact AA (m7,true) [0,34,35,36,41,42,43,44] [.ext 0,.ext 1,.ext 2] 704 ⟨by omega,h⟩ (by cbv)
   replace h:=Ah (Int.not_lt.2 e) h
   clear e
   try cbv
   exact AA (m7,false) [0,34,35,36,41,42,43,44] [.ext 0,.ext 1,.ext 2] 704 ⟨by omega,h⟩ (by cbv)
  clear h
  rintro⟨m8,b56⟩ ⟨hm8,h⟩
  try cbv
  replace hm8:m8<=m7:=hm8
  obtain _ | m8:=m8
  ·replace h:GM 0 z2 s3 s4 l5 z6 s7 l8 z9 s10 l11 l12 l13 l14 l15 z16 z45 z46 l52 z53 z54 z55 b56=some (r1,r2,r3,r4,r5,r6,r7,r8,r9,r10,r11,r12,r13,r14,r15,r16):=h
   rw[GM]at h
   cases h
  replace h:GM (m8+1) z2 s3 s4 l5 z6 s7 l8 z9 s10 l11 l12 l13 l14 l15 z16 z45 z46 l52 z53 z54 z55 b56=some (r1,r2,r3,r4,r5,r6,r7,r8,r9,r10,r11,r12,r13,r14,r15,r16):=h
  rw[GM]at h
  try cbv
  refine AD ?_
  try cbv
  cases b56
  ·replace h:=Bz h
   try cbv
   replace h:=Aa h
   obtain⟨z75,hz,h⟩:=h
   refine⟨z75,hz,?_⟩
   clear hz
   try cbv
   exact BT (m8,(z75,z55)) [0,34,35,36] [.ext 0,.ext 1,.ext 2] 384 ⟨by omega,h⟩ (Nat.lt_succ_of_le (by omega)) (by cbv)
  replace h:=Bx h
  try cbv
  refine AD ?_
  try cbv
  refine AD ?_
  try cbv
  replace h:=Az h
  obtain⟨x57,⟨hx0,hx⟩,h⟩:=h
  refine⟨x57,hx0,hx,?_⟩
  clear hx0 hx
  replace h:=Bb h
  obtain⟨z58,s59,s60,l61,z62,s63,l64,z65,s66,l67,l68,l69,l70,l71,z72,rfl,h⟩:=h
  try cbv
  refine AD ?_
  try cbv
  replace h:=Ai h
  obtain⟨z73,hr,h⟩:=h
  refine Lr hM hI [.ext 1] (sl0:=[(3,.v (.c (.ptr (.ext 0) 0)))]) rfl rfl rfl rfl ((ih _ (by omega)).1 hr) rfl rfl rfl (by simp) ⟨rfl,trivial⟩ ⟨trivial,trivial⟩ (by simp) ?_
  clear hr
  try cbv
  refine⟨false,rfl,?_⟩
  try cbv
  replace h:=Aa h
  obtain⟨z74,hz,h⟩:=h
  refine⟨z74,hz,?_⟩
  clear hz
  try cbv
  exact BT (m8,(z74,z73)) [0,34,35,36,41,42,43] [.ext 0,.ext 1,.ext 2] 672 ⟨by omega,h⟩ (Nat.lt_succ_of_le (by omega)) (by cbv)
 intro z1 s2 s3 l4 z5 s6 l7 z8 s9 l10 l11 l12 l13 l14 z15 r1 h
 rw[Ww]at h
 refine BB.of BU BK Ht Tryz.func88 rfl (by kernel_rfl) rfl rfl rfl (fun M hM hI=>?_)
 try cbv
 refine AD ?_
 try cbv
 refine AD ?_
 try cbv
 refine CJ (T:=Nat×Int) (fun t=>⟨[sL 1 0,sI 2 0,sL 3 64],[(.loc 0,.cells [.d (.int .u8 z1),.d (.str s2),.d (.str s3),.d (.list false 1 l4),.d (.int .u8 z5),.d (.str s6),.d (.list true 3 l7),.d (.int .i64 z8),.d (.str s9),.d (.list false 1 l10),.d (.list true 8 l11),.d (.list true 15 l12),.d (.list true 15 l13),.d (.list true 3 l14),.d (.int .i64 z15)]),(.loc 64,.cells [.d (.int .i64 t.2)])],352⟩) (fun t=>t.1<=n/\Jc t.1 z1 s2 s3 l4 z5 s6 l7 z8 s9 l10 l11 l12 l13 l14 z15 t.2=some r1) ?_ ?_
 ·try cbv
  refine AJ 9 [1,2,3,9] [.loc 0,.loc 64] 224 (fun m b=>m<=n/\Jb m z1 s2 s3 l4 z5 s6 l7 z8 s9 l10 l11 l12 l13 l14 z15 b=some r1) ?_ ?_
  ·try cbv
   refine Ay (fun e=>?_) (fun e=>?_)
   ·replace h:=Ag e h
    clear e
    try cbv
    exact AA (n,true) [1,2,3,9] [.loc 0,.loc 64] 224 ⟨by omega,h⟩ (by cbv)
   replace h:=Ah e h
   clear e
   try cbv
   exact AA (n,false) [1,2,3,9] [.loc 0,.loc 64] 224 ⟨by omega,h⟩ (by cbv)
  clear h
  rintro⟨m1,b16⟩ ⟨hm1,h⟩
  try cbv
  replace hm1:m1<=n:=hm1
  obtain _ | m1:=m1
  ·replace h:Jb 0 z1 s2 s3 l4 z5 s6 l7 z8 s9 l10 l11 l12 l13 l14 z15 b16=some r1:=h
   rw[Jb]at h
   cases h
  replace h:Jb (m1+1) z1 s2 s3 l4 z5 s6 l7 z8 s9 l10 l11 l12 l13 l14 z15 b16=some r1:=h
  rw[Jb]at h
  try cbv
  cases b16
  ·replace h:=Bz h
   try cbv
   exact AA (m1,(0:Int)) [1,2,3] [.loc 0,.loc 64] 352 ⟨by omega,h⟩ (by cbv)
  replace h:=Bx h
  try cbv
  replace h:=Ai h
  obtain⟨z17,hr,h⟩:=h
  refine An rfl rfl ?_
  try cbv
  refine AU hM hI (wF _ hr) rfl ?_
  clear hr
  try cbv
  exact AA (m1,z17) [1,2,3] [.loc 0,.loc 64] 352 ⟨by omega,h⟩ (by cbv)
 clear h
 rintro⟨m2,z18⟩ ⟨hm2,h⟩
 replace hm2:m2<=n:=hm2
 obtain _ | m2:=m2
 ·replace h:Jc 0 z1 s2 s3 l4 z5 s6 l7 z8 s9 l10 l11 l12 l13 l14 z15 z18=some r1:=h
  rw[Jc]at h
  cases h
 replace h:Jc (m2+1) z1 s2 s3 l4 z5 s6 l7 z8 s9 l10 l11 l12 l13 l14 z15 z18=some r1:=h
 rw[Jc]at h
 try cbv
 refine AD ?_
 try cbv
 refine AD ?_
 try cbv
 replace h:=BQ M h
 obtain⟨z19,hz,h⟩:=h
 refine⟨z19,hz,?_⟩
 clear hz
 try cbv
 refine CO (T:=Nat×Int×Int) [1,2,3,14,15,16] [.loc 0,.loc 64] 480 (fun t=>⟨[sL 1 0,sI 2 0,sL 3 64,sT 14 8 l11,sI 15 z19,sI 16 t.2.1],[(.loc 0,.cells [.d (.int .u8 z1),.d (.str s2),.d (.str s3),.d (.list false 1 l4),.d (.int .u8 z5),.d (.str s6),.d (.list true 3 l7),.d (.int .i64 z8),.d (.str s9),.d (.list false 1 l10),.d (.list true 8 l11),.d (.list true 15 l12),.d (.list true 15 l13),.d (.list true 3 l14),.d (.int .i64 z15)]),(.loc 64,.cells [.d (.int .i64 t.2.2)])],480⟩)
   (fun t=>t.1<=m2/\Gf t.1 z1 s2 s3 l4 z5 s6 l7 z8 s9 l10 l11 l12 l13 l14 z15 z19 t.2.1 t.2.2=some r1) (fun t=>t.1) (m2,((0:Int),z18)) ⟨Nat.le_refl _,h⟩ (by cbv) ?_
 clear h
 rintro⟨m3,z20,z21⟩ ⟨hm3,h⟩
 replace hm3:m3<=m2:=hm3
 obtain _ | m3:=m3
 ·replace h:Gf 0 z1 s2 s3 l4 z5 s6 l7 z8 s9 l10 l11 l12 l13 l14 z15 z19 z20 z21=some r1:=h
  rw[Gf]at h
  cases h
 replace h:Gf (m3+1) z1 s2 s3 l4 z5 s6 l7 z8 s9 l10 l11 l12 l13 l14 z15 z19 z20 z21=some r1:=h
 rw[Gf]at h
 try cbv
 refine AJ 17 [1,2,3,14,15,16,17] [.loc 0,.loc 64] 512 (fun m b=>m<=m3/\Jd m z1 s2 s3 l4 z5 s6 l7 z8 s9 l10 l11 l12 l13 l14 z15 z19 z20 z21 b=some r1) ?_ ?_
 ·try cbv
  refine B1 (fun e=>?_) (fun e=>?_)
  ·replace h:=Ag e h
   clear e
   try cbv
   exact AA (m3,true) [1,2,3,14,15,16,17] [.loc 0,.loc 64] 512 ⟨by omega,h⟩ (by cbv)
  replace h:=Ah (Int.not_lt.2 e) h
  clear e
  try cbv
  exact AA (m3,false) [1,2,3,14,15,16,17] [.loc 0,.loc 64] 512 ⟨by omega,h⟩ (by cbv)
 clear h
 rintro⟨m4,b22⟩ ⟨hm4,h⟩
 try cbv
 replace hm4:m4<=m3:=hm4
 obtain _ | m4:=m4
 ·replace h:Jd 0 z1 s2 s3 l4 z5 s6 l7 z8 s9 l10 l11 l12 l13 l14 z15 z19 z20 z21 b22=some r1:=h
  rw[Jd]at h
  cases h
 replace h:Jd (m4+1) z1 s2 s3 l4 z5 s6 l7 z8 s9 l10 l11 l12 l13 l14 z15 z19 z20 z21 b22=some r1:=h
 rw[Jd]at h
 try cbv
 refine AD ?_
 try cbv
 cases b22
 ·replace h:=Bz h
  try cbv
  refine AD ?_
  try cbv
  refine AD ?_
  try cbv
  replace h:=SP h
  obtain⟨z35,s36,s37,l38,z39,s40,l41,z42,s43,l44,l45,l46,l47,l48,z49,hr,h⟩:=h
  refine An rfl rfl ?_
  try cbv
  refine Cs hM hI [] (sC _ hr) rfl (by simp) trivial trivial (by simp) ?_
  clear hr
  try cbv
  replace h:=SQ h
  obtain⟨z50,z51,s52,s53,l54,z55,s56,l57,z58,s59,l60,l61,l62,l63,l64,z65,hr,h⟩:=h
  refine Mt hM hI [.loc 576,.loc 64,.loc 544] [(3,.v (.c (.ptr (.loc 64) 0)))] rfl ⟨rfl,trivial⟩ ((ih _ (by omega)).2.1 hr) rfl (by simp) ⟨rfl,⟨rfl,⟨rfl,trivial⟩⟩⟩ ⟨trivial,⟨trivial,⟨trivial,trivial⟩⟩⟩ (by simp) ?_
  clear hr
  try cbv
  refine AD ?_
  try cbv
  replace h:=Aa h
  obtain⟨z66,hz,h⟩:=h
  refine⟨z66,hz,?_⟩
  clear hz
  try cbv
  obtain rfl:=Option.some.inj h
  refine AZ ?_
  try cbv
  exact⟨[],by trivial⟩
 replace h:=Bx h
 try cbv
 refine AD ?_
 try cbv
 refine AD ?_
 try cbv
 replace h:=Az h
 obtain⟨x23,⟨hx0,hx⟩,h⟩:=h
 refine⟨x23,hx0,hx,?_⟩
 clear hx0 hx
 replace h:=Ei h
 obtain⟨z24,z25,s26,s27,s28,l29,l30,z31,rfl,h⟩:=h
 try cbv
 replace h:=Ai h
 obtain⟨z32,hr,h⟩:=h
 first | refine .inr (.inl ⟨[],?_⟩) | refine .inl ⟨[],?_⟩
 try cbv
 refine AU hM hI (wH _ hr) rfl ?_
 clear hr
 try cbv
 replace h:=Aa h
 obtain⟨z33,hz,h⟩:=h
 refine⟨z33,hz,?_⟩
 clear hz
 try cbv
 refine drawn ?_ ?_
 ·show _=true
  kernel_rfl
 try cbv
 replace h:=Aa h
 obtain⟨z34,hz,h⟩:=h
 refine⟨z34,hz,?_⟩
 clear hz
 try cbv
 exact BT (m4,(z34,z33)) [1,2,3,14,15,16] [.loc 0,.loc 64] 480 ⟨by omega,h⟩ (Nat.lt_succ_of_le (by omega)) (by cbv)
theorem wK (n:Nat):∀⦃z1 s2 s3 l4 z5 s6 l7 z8 s9 l10 l11 l12 l13 l14 z15 r1⦄,Ww n z1 s2 s3 l4 z5 s6 l7 z8 s9 l10 l11 l12 l13 l14 z15=some r1->
  BB Tryz.prog inv 88 [.d (.agg [.int .u8 z1,.str s2,.str s3,.list false 1 l4,.int .u8 z5,.str s6,.list true 3 l7,.int .i64 z8,.str s9,.list false 1 l10,.list true 8 l11,.list true 15 l12,.list true 15 l13,.list true 3 l14,.int .i64 z15])] [] (.v (.d (.int .i64 r1))) [] []:=(kB n).2.2
noncomputable def wL:BW:=⟨88,[.agg [.y,.str,.str,.f 1,.y,.str,.q 3,.z,.str,.f 1,.q 8,.q 15,.q 15,.q 3,.z]],[],[⟨.one (.z),[],[]⟩],Int,inferInstance,Ww⟩
noncomputable def wM:Kz:=⟨wL,fun n=>Di fun z1 s2 s3 l4 z5 s6 l7 z8 s9 l10 l11 l12 l13 l14 z15 p h w1 w2 w4 w3 l1 l2 e1 e2 e5 e3 xs e4=>by cases e1;cases e2;cases e4;cases e5;cases e3;exact wK n h⟩
mutual
def NI:Nat->LD->Int->Int->Int->Option (Int)
 | 0,_,_,_,_=>none
 | n+1,l7,z32,z33,z34=>
  (if z34<z32 then Sw n l7 z32 z33 z34 true else Sw n l7 z32 z33 z34 false)
def Sw:Nat->LD->Int->Int->Int->Bool->Option (Int)
 | 0,_,_,_,_,_=>none
 | n+1,l7,z32,z33,z34,b35=>
  (if b35=true then Ae l7 z34 fun x36=>Af x36 fun z37 s38 s39 l40 z41 s42 l43 z44 s45 l46 l47 l48 l49 l50 z51=>bO1 (Ww n z37 s38 s39 l40 z41 s42 l43 z44 s45 l46 l47 l48 l49 l50 z51) fun z52=>AE (if z52>z33 then z52 else z33) fun z53=>AE (IntKind.wrap .i64 (z34+1)) fun z54=>NI n l7 z32 z53 z54 else AE (IntKind.wrap .i64 (z33+1)) fun z55=>some z55)
end
mutual
def NJ:Nat->LD->LD->Int->Int->Int->Option (Int)
 | 0,_,_,_,_,_=>none
 | n+1,l3,l7,z20,z21,z22=>
  (if z22<z20 then Sx n l3 l7 z20 z21 z22 true else Sx n l3 l7 z20 z21 z22 false)
def Sx:Nat->LD->LD->Int->Int->Int->Bool->Option (Int)
 | 0,_,_,_,_,_,_=>none
 | n+1,l3,l7,z20,z21,z22,b23=>
  (if b23=true then Ae l3 z22 fun x24=>Bl x24 fun s25 z26 s27 l28=>bO1 (Vn n z26 s27 l28) fun z29=>AE (if z29>z21 then z29 else z21) fun z30=>AE (IntKind.wrap .i64 (z22+1)) fun z31=>NJ n l3 l7 z20 z30 z31 else AB l7 fun z32=>NI n l7 z32 z21 (0:Int))
end
def kC (n:Nat) (z1:Int) (s2:BA) (l3:LD) (z4:Int) (s5:BA) (l6:LD) (l7:LD) (z8:Int) (z9:Int) (s10:BA) (s11:BA) (s12:BA) (l13:LD) (l14:LD) (z15:Int) (z16:Int):Option (Int):=
 bO1 (Vn n z4 s5 l6) fun z17=>bO1 (YH n z8 z9 s10 s11 s12 l13 l14 z15) fun z18=>AE (if z18>z17 then z18 else z17) fun z19=>AB l3 fun z20=>NJ n l3 l7 z20 z19 (0:Int)
noncomputable def wN:BS:=⟨39,Tryz.f39,[.agg [.y,.str,.q 4,.y,.str,.q 3,.q 15,.y,.z,.str,.str,.str,.f 1,.q 8,.z,.z]],[],⟨.one (.z),[],[]⟩,Int,inferInstance,kC,[⟨58,[1,2,3,16,17,18],[.loc 0],448,[.p (.loc 0) 0,.k 0,.z,.q 4,.z,.z],[[.y,.str,.q 4,.y,.str,.q 3,.q 15,.y,.z,.str,.str,.str,.f 1,.q 8,.z,.z]],fun n z21 l3 z20 z22 _ _ _ _ _ _ l7 _ _ _ _ _ _ _ _ _=>NJ n l3 l7 z20 z21 z22⟩,
 ⟨233,[1,2,3,16,17,18,19],[.loc 0],480,[.p (.loc 0) 0,.k 0,.z,.q 4,.z,.z,.b],[[.y,.str,.q 4,.y,.str,.q 3,.q 15,.y,.z,.str,.str,.str,.f 1,.q 8,.z,.z]],fun n z21 l3 z20 z22 b23 _ _ _ _ _ _ l7 _ _ _ _ _ _ _ _ _=>Sx n l3 l7 z20 z21 z22 b23⟩,
 ⟨122,[2,3,29,30,31],[],608,[.k 0,.z,.q 15,.z,.z],[],fun n z33 l7 z32 z34=>NI n l7 z32 z33 z34⟩,
 ⟨489,[2,3,29,30,31,32],[],640,[.k 0,.z,.q 15,.z,.z,.b],[],fun n z33 l7 z32 z34 b35=>Sw n l7 z32 z33 z34 b35⟩]⟩
noncomputable def wO:Kz:=sg wN [rY,sA,wM] Tryz.func39 (by kernel_rfl) (by kernel_rfl) (by kernel_rfl)
mutual
def PI:Nat->LD->Int->Int->Int->Option (Int)
 | 0,_,_,_,_=>none
 | n+1,l1,z2,z3,z4=>
  (if z4<z2 then Sy n l1 z2 z3 z4 true else Sy n l1 z2 z3 z4 false)
def Sy:Nat->LD->Int->Int->Int->Bool->Option (Int)
 | 0,_,_,_,_,_=>none
 | n+1,l1,z2,z3,z4,b5=>
  (if b5=true then Ae l1 z4 fun x6=>Bd x6 fun z7 s8 l9 z10 s11 l12 l13 z14 z15 s16 s17 s18 l19 l20 z21 z22=>bO1 (kC n z7 s8 l9 z10 s11 l12 l13 z14 z15 s16 s17 s18 l19 l20 z21 z22) fun z23=>AE (if z23>z3 then z23 else z3) fun z24=>AE (IntKind.wrap .i64 (z4+1)) fun z25=>PI n l1 z2 z24 z25 else AE (IntKind.wrap .i64 (z3+1)) fun z26=>some z26)
end
def mX (n:Nat) (l1:LD):Option (Int):=
 AB l1 fun z2=>PI n l1 z2 (0:Int) (0:Int)
noncomputable def wP:BS:=⟨12,Tryz.f12,[.agg [.q 16]],[],⟨.one (.z),[],[]⟩,Int,inferInstance,mX,[⟨58,[2,3,7,8,9],[],224,[.k 0,.z,.q 16,.z,.z],[],fun n z3 l1 z2 z4=>PI n l1 z2 z3 z4⟩,
 ⟨233,[2,3,7,8,9,10],[],256,[.k 0,.z,.q 16,.z,.z,.b],[],fun n z3 l1 z2 z4 b5=>Sy n l1 z2 z3 z4 b5⟩]⟩
noncomputable def gH:Kz:=sg wP [wO] Tryz.func12 (by kernel_rfl) (by kernel_rfl) (by kernel_rfl)
mutual
def PJ:Nat->LD->Int->Int->Int->Option (Int)
 | 0,_,_,_,_=>none
 | n+1,l7,z9,z10,z11=>
  (if z11<z9 then Sz n l7 z9 z10 z11 true else Sz n l7 z9 z10 z11 false)
def Sz:Nat->LD->Int->Int->Int->Bool->Option (Int)
 | 0,_,_,_,_,_=>none
 | n+1,l7,z9,z10,z11,b12=>
  (if b12=true then Ae l7 z11 fun x13=>Ao x13 fun z14 z15 s16 s17 s18 l19 l20 z21=>bO1 (bM n z14 z15 s16 s17 s18 l19 l20 z21) fun z22=>AE (IntKind.wrap .i64 (z10+z22)) fun z23=>AE (IntKind.wrap .i64 (z11+1)) fun z24=>PJ n l7 z9 z23 z24 else some z10)
def bM:Nat->Int->Int->BA->BA->BA->LD->LD->Int->Option (Int)
 | 0,_,_,_,_,_,_,_,_=>none
 | n+1,z1,z2,s3,s4,s5,l6,l7,z8=>
  AB l7 fun z9=>PJ n l7 z9 (1:Int) (0:Int)
end
noncomputable def sD:BS:=⟨44,Tryz.f44,[.agg [.y,.z,.str,.str,.str,.f 1,.q 8,.z]],[],⟨.one (.z),[],[]⟩,Int,inferInstance,bM,[⟨58,[2,3,7,8,9],[],224,[.k 0,.z,.q 8,.z,.z],[],fun n z10 l7 z9 z11=>PJ n l7 z9 z10 z11⟩,
 ⟨233,[2,3,7,8,9,10],[],256,[.k 0,.z,.q 8,.z,.z,.b],[],fun n z10 l7 z9 z11 b12=>Sz n l7 z9 z10 z11 b12⟩]⟩
theorem wQ:CF Tryz.prog inv (KU [sD]):=gr [] ⟨⟨Tryz.func44,by kernel_rfl,by kernel_rfl,by kernel_rfl⟩,trivial⟩
noncomputable def sG:Kz:=⟨sD.c,wQ.1⟩
theorem wR (n:Nat):∀⦃z1 z2 s3 s4 s5 l6 l7 z8 r1⦄,bM n z1 z2 s3 s4 s5 l6 l7 z8=some r1->
  BB Tryz.prog inv 44 [.d (.agg [.int .u8 z1,.int .i64 z2,.str s3,.str s4,.str s5,.list false 1 l6,.list true 8 l7,.int .i64 z8])] [] (.v (.d (.int .i64 r1))) [] []:=fun z1 z2 s3 s4 s5 l6 l7 z8 r1 h=>sG.ok n [.I z1,.I z2,.S s3,.S s4,.S s5,.L l6,.L l7,.I z8] _ h _ _ _ _ _ _ rfl rfl rfl rfl _ rfl
end Go.Proofs.YtjmofeakajdbiaaGreatDoor
end
