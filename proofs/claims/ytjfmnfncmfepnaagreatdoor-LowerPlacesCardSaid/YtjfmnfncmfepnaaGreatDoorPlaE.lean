/- Part of a proof. No condition. (Part 5.) -/
import Derived.Test.YtjfmnfncmfepnaaGreatDoorPlaD
set_option linter.unusedVariables false
set_option linter.unusedSimpArgs false
set_option linter.unusedSectionVars false
set_option maxRecDepth 100000
set_option maxHeartbeats 40000000
set_option linter.unusedVariables false
noncomputable section
namespace Go.Proofs.YtjfmnfncmfepnaaGreatDoor
open Go Go.AM
def EJ:Nat->LD->Int->Int->Int->Bool->Bool->Bool->Bool->Bool->Bool->Int->Option (Bool×Int×Int×Bool×Bool×Bool×Bool×Bool×Bool×Int)
 | 0,_,_,_,_,_,_,_,_,_,_,_=>none
 | n+1,k,l,a,b,c,d,e,f,g,h,i=>
  AO k fun j=>(if j<=l then some (true,a,b,c,d,e,f,g,h,i)else some (false,a,b,c,d,e,f,g,h,i))
def EK:Nat->LD->Int->Int->Int->Int->Bool->Bool->Bool->Bool->Bool->Bool->Int->Option (Bool×Int×Int×Bool×Bool×Bool×Bool×Bool×Bool×Int)
 | 0,_,_,_,_,_,_,_,_,_,_,_,_=>none
 | n+1,k,v,a,b,c,d,e,f,g,h,i,j=>
  AO k fun w=>(if a<w then (if a<v then Ae k a fun x=>Bj x fun y z A B C E F G=>BO (WX n y z A B C E F G b c d e f g h i j) fun H l m o p q r s t u=>Ax (!H) fun I=>(if I=true then some (false,l,m,o,p,q,r,s,t,u)else AW (IntKind.wrap .i64 (a+1)) fun J=>EK n k v J l m o p q r s t u)else EJ n k v b c d e f g h i j)else EJ n k v b c d e f g h i j)
def JY (n:Nat) (c:LD) (d:Int) (e:Int) (f:Int) (g:Bool) (h:Bool) (i:Bool) (j:Bool) (k:Bool) (a:Bool) (b:Int):Option (Bool×Int×Int×Bool×Bool×Bool×Bool×Bool×Bool×Int):=
 EK n c d 0 e f g h i j k a b
noncomputable def vN:AH:=⟨205,Tryz.f205,false,[.q 8,.z,.one (.fn 213 [.e 0,.e 1])],[.c [.z,.z,.bool,.bool,.bool,.bool,.bool,.bool,.fn 245 [],.fn 245 []],.c [.z]],[⟨.one (.b),[.c [.z,.z,.bool,.bool,.bool,.bool,.bool,.bool,.fn 245 [],.fn 245 []],.c [.z]],[]⟩],Bool×Int×Int×Bool×Bool×Bool×Bool×Bool×Bool×Int,ii,JY,.e,[⟨26,[0,1,2,6,7],[.e 0,.e 1],64,[.q 8,.z,.one (.fn 213 [.e 0,.e 1]),.one (.cb false),.z],[.c [.z,.z,.bool,.bool,.bool,.bool,.bool,.bool,.fn 245 [],.fn 245 []],.c [.z]],EK,.e⟩,
 ⟨7,[0,1,6],[.e 0,.e 1],352,[.q 8,.z,.one (.cb false)],[.c [.z,.z,.bool,.bool,.bool,.bool,.bool,.bool,.fn 245 [],.fn 245 []],.c [.z]],EJ,.e⟩],none,[]⟩
def vO:Kz:=sg vN [AHp] Tryz.func205
def JZ (n:Nat) (i:Int) (j:Int) (k:BA) (l:BA) (m:BA) (o:LD) (p:LD) (q:Int) (r:Int) (c:Int) (d:Bool) (e:Bool) (f:Bool) (g:Bool) (h:Bool) (b:Bool) (a:Int):Option (Bool×Int×Int×Bool×Bool×Bool×Bool×Bool×Bool×Int):=
 (if b=true then AW (IntKind.wrap .i64 (a - 1)) fun s=>Au (GM n i j k l m o p q s) fun t=>some (t,r,c,d,e,f,g,h,b,a)else Au (LS n i j k l m o p q) fun u=>Ax (!u) fun v=>(if v=true then AW (IntKind.wrap .i64 (a - 1)) fun w=>Au (GM n i j k l m o p q w) fun x=>some (x,r,c,d,e,f,g,h,b,a)else some (false,r,c,d,e,f,g,h,b,a)))
noncomputable def vP:AH:=⟨213,Tryz.f213,false,[.agg [.y,.z,.s,.s,.s,.f 1,.q 8,.z],.v 0,.v 1],[.c [.z,.z,.bool,.bool,.bool,.bool,.bool,.bool,.fn 142 [],.fn 245 []],.c [.z]],[⟨.one (.b),[.c [.z,.z,.bool,.bool,.bool,.bool,.bool,.bool,.fn 142 [],.fn 245 []],.c [.z]],[]⟩],Bool×Int×Int×Bool×Bool×Bool×Bool×Bool×Bool×Int,ii,JZ,.e,[],none,[]⟩
def vQ:Kz:=sg vP [WU,ZI] Tryz.func213
def EL:Nat->LD->Int->Int->Int->Bool->Bool->Bool->Bool->Bool->Bool->Int->Option (Bool×Int×Int×Bool×Bool×Bool×Bool×Bool×Bool×Int)
 | 0,_,_,_,_,_,_,_,_,_,_,_=>none
 | n+1,k,l,a,b,c,d,e,f,g,h,i=>
  AO k fun j=>(if j<=l then some (true,a,b,c,d,e,f,g,h,i)else some (false,a,b,c,d,e,f,g,h,i))
def EM:Nat->LD->Int->Int->Int->Int->Bool->Bool->Bool->Bool->Bool->Bool->Int->Option (Bool×Int×Int×Bool×Bool×Bool×Bool×Bool×Bool×Int)
 | 0,_,_,_,_,_,_,_,_,_,_,_,_=>none
 | n+1,k,v,a,b,c,d,e,f,g,h,i,j=>
  AO k fun w=>(if a<w then (if a<v then Ae k a fun x=>Bj x fun y z A B C E F G=>BO (JZ n y z A B C E F G b c d e f g h i j) fun H l m o p q r s t u=>Ax (!H) fun I=>(if I=true then some (false,l,m,o,p,q,r,s,t,u)else AW (IntKind.wrap .i64 (a+1)) fun J=>EM n k v J l m o p q r s t u)else EL n k v b c d e f g h i j)else EL n k v b c d e f g h i j)
def Ja (n:Nat) (c:LD) (d:Int) (e:Int) (f:Int) (g:Bool) (h:Bool) (i:Bool) (j:Bool) (k:Bool) (a:Bool) (b:Int):Option (Bool×Int×Int×Bool×Bool×Bool×Bool×Bool×Bool×Int):=
 EM n c d 0 e f g h i j k a b
noncomputable def vR:AH:=⟨205,Tryz.f205,false,[.q 8,.z,.one (.fn 213 [.e 0,.e 1])],[.c [.z,.z,.bool,.bool,.bool,.bool,.bool,.bool,.fn 142 [],.fn 245 []],.c [.z]],[⟨.one (.b),[.c [.z,.z,.bool,.bool,.bool,.bool,.bool,.bool,.fn 142 [],.fn 245 []],.c [.z]],[]⟩],Bool×Int×Int×Bool×Bool×Bool×Bool×Bool×Bool×Int,ii,Ja,.e,[⟨26,[0,1,2,6,7],[.e 0,.e 1],64,[.q 8,.z,.one (.fn 213 [.e 0,.e 1]),.one (.cb false),.z],[.c [.z,.z,.bool,.bool,.bool,.bool,.bool,.bool,.fn 142 [],.fn 245 []],.c [.z]],EM,.e⟩,
 ⟨7,[0,1,6],[.e 0,.e 1],352,[.q 8,.z,.one (.cb false)],[.c [.z,.z,.bool,.bool,.bool,.bool,.bool,.bool,.fn 142 [],.fn 245 []],.c [.z]],EL,.e⟩],none,[]⟩
def vS:Kz:=sg vR [vQ] Tryz.func205
def Jb (n:Nat) (i:Int) (j:Int) (k:BA) (l:BA) (m:BA) (o:LD) (p:LD) (q:Int) (r:Int) (c:Int) (d:Bool) (e:Bool) (f:Bool) (g:Bool) (h:Bool) (b:Bool) (a:Int):Option (Bool×Int×Int×Bool×Bool×Bool×Bool×Bool×Bool×Int):=
 (if b=true then AW (IntKind.wrap .i64 (a - 1)) fun s=>Au (GM n i j k l m o p q s) fun t=>some (t,r,c,d,e,f,g,h,b,a)else Au (LS n i j k l m o p q) fun u=>Ax (!u) fun v=>(if v=true then AW (IntKind.wrap .i64 (a - 1)) fun w=>Au (GM n i j k l m o p q w) fun x=>some (x,r,c,d,e,f,g,h,b,a)else some (false,r,c,d,e,f,g,h,b,a)))
noncomputable def vT:AH:=⟨213,Tryz.f213,false,[.agg [.y,.z,.s,.s,.s,.f 1,.q 8,.z],.v 0,.v 1],[.c [.z,.z,.bool,.bool,.bool,.bool,.bool,.bool,.fn 141 [],.fn 245 []],.c [.z]],[⟨.one (.b),[.c [.z,.z,.bool,.bool,.bool,.bool,.bool,.bool,.fn 141 [],.fn 245 []],.c [.z]],[]⟩],Bool×Int×Int×Bool×Bool×Bool×Bool×Bool×Bool×Int,ii,Jb,.e,[],none,[]⟩
def vU:Kz:=sg vT [WU,ZI] Tryz.func213
def EN:Nat->LD->Int->Int->Int->Bool->Bool->Bool->Bool->Bool->Bool->Int->Option (Bool×Int×Int×Bool×Bool×Bool×Bool×Bool×Bool×Int)
 | 0,_,_,_,_,_,_,_,_,_,_,_=>none
 | n+1,k,l,a,b,c,d,e,f,g,h,i=>
  AO k fun j=>(if j<=l then some (true,a,b,c,d,e,f,g,h,i)else some (false,a,b,c,d,e,f,g,h,i))
def EO:Nat->LD->Int->Int->Int->Int->Bool->Bool->Bool->Bool->Bool->Bool->Int->Option (Bool×Int×Int×Bool×Bool×Bool×Bool×Bool×Bool×Int)
 | 0,_,_,_,_,_,_,_,_,_,_,_,_=>none
 | n+1,k,v,a,b,c,d,e,f,g,h,i,j=>
  AO k fun w=>(if a<w then (if a<v then Ae k a fun x=>Bj x fun y z A B C E F G=>BO (Jb n y z A B C E F G b c d e f g h i j) fun H l m o p q r s t u=>Ax (!H) fun I=>(if I=true then some (false,l,m,o,p,q,r,s,t,u)else AW (IntKind.wrap .i64 (a+1)) fun J=>EO n k v J l m o p q r s t u)else EN n k v b c d e f g h i j)else EN n k v b c d e f g h i j)
def Jc (n:Nat) (c:LD) (d:Int) (e:Int) (f:Int) (g:Bool) (h:Bool) (i:Bool) (j:Bool) (k:Bool) (a:Bool) (b:Int):Option (Bool×Int×Int×Bool×Bool×Bool×Bool×Bool×Bool×Int):=
 EO n c d 0 e f g h i j k a b
noncomputable def vV:AH:=⟨205,Tryz.f205,false,[.q 8,.z,.one (.fn 213 [.e 0,.e 1])],[.c [.z,.z,.bool,.bool,.bool,.bool,.bool,.bool,.fn 141 [],.fn 245 []],.c [.z]],[⟨.one (.b),[.c [.z,.z,.bool,.bool,.bool,.bool,.bool,.bool,.fn 141 [],.fn 245 []],.c [.z]],[]⟩],Bool×Int×Int×Bool×Bool×Bool×Bool×Bool×Bool×Int,ii,Jc,.e,[⟨26,[0,1,2,6,7],[.e 0,.e 1],64,[.q 8,.z,.one (.fn 213 [.e 0,.e 1]),.one (.cb false),.z],[.c [.z,.z,.bool,.bool,.bool,.bool,.bool,.bool,.fn 141 [],.fn 245 []],.c [.z]],EO,.e⟩,
 ⟨7,[0,1,6],[.e 0,.e 1],352,[.q 8,.z,.one (.cb false)],[.c [.z,.z,.bool,.bool,.bool,.bool,.bool,.bool,.fn 141 [],.fn 245 []],.c [.z]],EN,.e⟩],none,[]⟩
def vW:Kz:=sg vV [vU] Tryz.func205
def Jd (n:Nat) (i:Int) (j:Int) (k:BA) (l:BA) (m:BA) (o:LD) (p:LD) (q:Int) (r:Int) (c:Int) (d:Bool) (e:Bool) (f:Bool) (g:Bool) (h:Bool) (b:Bool) (a:Int):Option (Bool×Int×Int×Bool×Bool×Bool×Bool×Bool×Bool×Int):=
 (if b=true then AW (IntKind.wrap .i64 (a - 1)) fun s=>Au (GM n i j k l m o p q s) fun t=>some (t,r,c,d,e,f,g,h,b,a)else Au (LS n i j k l m o p q) fun u=>Ax (!u) fun v=>(if v=true then AW (IntKind.wrap .i64 (a - 1)) fun w=>Au (GM n i j k l m o p q w) fun x=>some (x,r,c,d,e,f,g,h,b,a)else some (false,r,c,d,e,f,g,h,b,a)))
noncomputable def vX:AH:=⟨213,Tryz.f213,false,[.agg [.y,.z,.s,.s,.s,.f 1,.q 8,.z],.v 0,.v 1],[.c [.z,.z,.bool,.bool,.bool,.bool,.bool,.bool,.fn 142 [],.fn 141 []],.c [.z]],[⟨.one (.b),[.c [.z,.z,.bool,.bool,.bool,.bool,.bool,.bool,.fn 142 [],.fn 141 []],.c [.z]],[]⟩],Bool×Int×Int×Bool×Bool×Bool×Bool×Bool×Bool×Int,ii,Jd,.e,[],none,[]⟩
def vY:Kz:=sg vX [WU,ZI] Tryz.func213
def EP:Nat->LD->Int->Int->Int->Bool->Bool->Bool->Bool->Bool->Bool->Int->Option (Bool×Int×Int×Bool×Bool×Bool×Bool×Bool×Bool×Int)
 | 0,_,_,_,_,_,_,_,_,_,_,_=>none
 | n+1,k,l,a,b,c,d,e,f,g,h,i=>
  AO k fun j=>(if j<=l then some (true,a,b,c,d,e,f,g,h,i)else some (false,a,b,c,d,e,f,g,h,i))
def ER:Nat->LD->Int->Int->Int->Int->Bool->Bool->Bool->Bool->Bool->Bool->Int->Option (Bool×Int×Int×Bool×Bool×Bool×Bool×Bool×Bool×Int)
 | 0,_,_,_,_,_,_,_,_,_,_,_,_=>none
 | n+1,k,v,a,b,c,d,e,f,g,h,i,j=>
  AO k fun w=>(if a<w then (if a<v then Ae k a fun x=>Bj x fun y z A B C E F G=>BO (Jd n y z A B C E F G b c d e f g h i j) fun H l m o p q r s t u=>Ax (!H) fun I=>(if I=true then some (false,l,m,o,p,q,r,s,t,u)else AW (IntKind.wrap .i64 (a+1)) fun J=>ER n k v J l m o p q r s t u)else EP n k v b c d e f g h i j)else EP n k v b c d e f g h i j)
def Je (n:Nat) (c:LD) (d:Int) (e:Int) (f:Int) (g:Bool) (h:Bool) (i:Bool) (j:Bool) (k:Bool) (a:Bool) (b:Int):Option (Bool×Int×Int×Bool×Bool×Bool×Bool×Bool×Bool×Int):=
 ER n c d 0 e f g h i j k a b
noncomputable def wH:AH:=⟨205,Tryz.f205,false,[.q 8,.z,.one (.fn 213 [.e 0,.e 1])],[.c [.z,.z,.bool,.bool,.bool,.bool,.bool,.bool,.fn 142 [],.fn 141 []],.c [.z]],[⟨.one (.b),[.c [.z,.z,.bool,.bool,.bool,.bool,.bool,.bool,.fn 142 [],.fn 141 []],.c [.z]],[]⟩],Bool×Int×Int×Bool×Bool×Bool×Bool×Bool×Bool×Int,ii,Je,.e,[⟨26,[0,1,2,6,7],[.e 0,.e 1],64,[.q 8,.z,.one (.fn 213 [.e 0,.e 1]),.one (.cb false),.z],[.c [.z,.z,.bool,.bool,.bool,.bool,.bool,.bool,.fn 142 [],.fn 141 []],.c [.z]],ER,.e⟩,
 ⟨7,[0,1,6],[.e 0,.e 1],352,[.q 8,.z,.one (.cb false)],[.c [.z,.z,.bool,.bool,.bool,.bool,.bool,.bool,.fn 142 [],.fn 141 []],.c [.z]],EP,.e⟩],none,[]⟩
def wJ:Kz:=sg wH [vY] Tryz.func205
def Jf (n:Nat) (i:Int) (j:Int) (k:BA) (l:BA) (m:BA) (o:LD) (p:LD) (q:Int) (r:Int) (c:Int) (d:Bool) (e:Bool) (f:Bool) (g:Bool) (h:Bool) (b:Bool) (a:Int):Option (Bool×Int×Int×Bool×Bool×Bool×Bool×Bool×Bool×Int):=
 (if b=true then AW (IntKind.wrap .i64 (a - 1)) fun s=>Au (GM n i j k l m o p q s) fun t=>some (t,r,c,d,e,f,g,h,b,a)else Au (LS n i j k l m o p q) fun u=>Ax (!u) fun v=>(if v=true then AW (IntKind.wrap .i64 (a - 1)) fun w=>Au (GM n i j k l m o p q w) fun x=>some (x,r,c,d,e,f,g,h,b,a)else some (false,r,c,d,e,f,g,h,b,a)))
noncomputable def wR:AH:=⟨213,Tryz.f213,false,[.agg [.y,.z,.s,.s,.s,.f 1,.q 8,.z],.v 0,.v 1],[.c [.z,.z,.bool,.bool,.bool,.bool,.bool,.bool,.fn 142 [],.fn 142 []],.c [.z]],[⟨.one (.b),[.c [.z,.z,.bool,.bool,.bool,.bool,.bool,.bool,.fn 142 [],.fn 142 []],.c [.z]],[]⟩],Bool×Int×Int×Bool×Bool×Bool×Bool×Bool×Bool×Int,ii,Jf,.e,[],none,[]⟩
def wV:Kz:=sg wR [WU,ZI] Tryz.func213
def ES:Nat->LD->Int->Int->Int->Bool->Bool->Bool->Bool->Bool->Bool->Int->Option (Bool×Int×Int×Bool×Bool×Bool×Bool×Bool×Bool×Int)
 | 0,_,_,_,_,_,_,_,_,_,_,_=>none
 | n+1,k,l,a,b,c,d,e,f,g,h,i=>
  AO k fun j=>(if j<=l then some (true,a,b,c,d,e,f,g,h,i)else some (false,a,b,c,d,e,f,g,h,i))
def ET:Nat->LD->Int->Int->Int->Int->Bool->Bool->Bool->Bool->Bool->Bool->Int->Option (Bool×Int×Int×Bool×Bool×Bool×Bool×Bool×Bool×Int)
 | 0,_,_,_,_,_,_,_,_,_,_,_,_=>none
 | n+1,k,v,a,b,c,d,e,f,g,h,i,j=>
  AO k fun w=>(if a<w then (if a<v then Ae k a fun x=>Bj x fun y z A B C E F G=>BO (Jf n y z A B C E F G b c d e f g h i j) fun H l m o p q r s t u=>Ax (!H) fun I=>(if I=true then some (false,l,m,o,p,q,r,s,t,u)else AW (IntKind.wrap .i64 (a+1)) fun J=>ET n k v J l m o p q r s t u)else ES n k v b c d e f g h i j)else ES n k v b c d e f g h i j)
def Jg (n:Nat) (c:LD) (d:Int) (e:Int) (f:Int) (g:Bool) (h:Bool) (i:Bool) (j:Bool) (k:Bool) (a:Bool) (b:Int):Option (Bool×Int×Int×Bool×Bool×Bool×Bool×Bool×Bool×Int):=
 ET n c d 0 e f g h i j k a b
noncomputable def wY:AH:=⟨205,Tryz.f205,false,[.q 8,.z,.one (.fn 213 [.e 0,.e 1])],[.c [.z,.z,.bool,.bool,.bool,.bool,.bool,.bool,.fn 142 [],.fn 142 []],.c [.z]],[⟨.one (.b),[.c [.z,.z,.bool,.bool,.bool,.bool,.bool,.bool,.fn 142 [],.fn 142 []],.c [.z]],[]⟩],Bool×Int×Int×Bool×Bool×Bool×Bool×Bool×Bool×Int,ii,Jg,.e,[⟨26,[0,1,2,6,7],[.e 0,.e 1],64,[.q 8,.z,.one (.fn 213 [.e 0,.e 1]),.one (.cb false),.z],[.c [.z,.z,.bool,.bool,.bool,.bool,.bool,.bool,.fn 142 [],.fn 142 []],.c [.z]],ET,.e⟩,
 ⟨7,[0,1,6],[.e 0,.e 1],352,[.q 8,.z,.one (.cb false)],[.c [.z,.z,.bool,.bool,.bool,.bool,.bool,.bool,.fn 142 [],.fn 142 []],.c [.z]],ES,.e⟩],none,[]⟩
def xA:Kz:=sg wY [wV] Tryz.func205
def WY (n:Nat) (a:Int) (j:BA) (k:BA) (c:LD) (l:Int) (m:BA) (o:LD) (p:Int) (q:BA) (d:LD) (e:LD) (f:LD) (g:LD) (h:LD) (i:Int):Option (((Int×Int×Bool×Bool×Bool×Bool×Bool) ⊕ ((Int×Bool×Bool×Bool) ⊕ ((Unit) ⊕ ((Unit) ⊕ (Unit)))))):=
 (if a=1 then some (.inr (.inl (1,false,false,true)))else (if a=2 then some (.inr (.inr (.inl ())))else (if a=3 then some (.inl (0,1,true,false,false,false,true))else (if a=4 then some (.inl (0,1,false,false,false,false,true))else (if a=5 then some (.inr (.inl (0,false,false,false)))else (if a=6 then some (.inl (0,1,false,true,true,false,true))else (if a=7 then some (.inl (0,1,false,true,false,false,true))else (if a=8 then some (.inr (.inr (.inr (.inl ()))))else (if a=9 then some (.inl (0,0,false,true,false,false,true))else (if a=13 then some (.inl (0,0,false,true,false,false,true))else (if a=10 then AO c fun b=>some (.inl (6,b,false,true,false,true,true))else (if a=11 then some (.inr (.inl (0,true,true,false)))else (if a=12 then some (.inr (.inr (.inr (.inr ()))))else some (.inl (0,0,false,false,false,false,false)))))))))))))))
noncomputable def AHq:AH:=⟨207,Tryz.f207,false,[.agg [.y,.s,.s,.f 1,.y,.s,.q 3,.z,.s,.f 1,.q 8,.q 15,.q 15,.q 3,.z]],[],[⟨.tup [.mix [.z,.z,.cb false,.bool,.bool,.bool,.cb false,.bool,.fn 245 [],.fn 245 []],.b],[],[]⟩,⟨.tup [.mix [.k 0,.z,.cb false,.bool,.bool,.cb false,.cb false,.bool,.fn 142 [],.fn 245 []],.one (.cb true)],[],[]⟩,⟨.tup [.mix [.k 6,.k 1,.cb false,.cb false,.cb false,.cb false,.cb false,.cb false,.fn 141 [],.fn 245 []],.one (.cb true)],[],[]⟩,⟨.tup [.mix [.k 0,.k 0,.cb false,.cb false,.cb false,.cb false,.cb true,.cb false,.fn 142 [],.fn 141 []],.one (.cb true)],[],[]⟩,⟨.tup [.mix [.k 0,.k 0,.cb true,.cb false,.cb false,.cb false,.cb false,.cb false,.fn 142 [],.fn 142 []],.one (.cb true)],[],[]⟩],((Int×Int×Bool×Bool×Bool×Bool×Bool) ⊕ ((Int×Bool×Bool×Bool) ⊕ ((Unit) ⊕ ((Unit) ⊕ (Unit))))),ii,WY,.e,[],none,[]⟩
def AHr:Kz:=sg AHq [] Tryz.func207
def OT (n:Nat) (b:Int) (i:BA) (j:BA) (k:LD) (l:Int) (m:BA) (o:LD) (a:Int) (p:BA) (c:LD) (d:LD) (e:LD) (f:LD) (g:LD) (h:Int):Option (Bool):=
 (if b=12 then (if 1<=a then (if a<=8 then some true else some false)else some false)else (if a=0 then some true else some false))
noncomputable def AHs:AH:=⟨208,Tryz.f208,false,[.agg [.y,.s,.s,.f 1,.y,.s,.q 3,.z,.s,.f 1,.q 8,.q 15,.q 15,.q 3,.z]],[],[⟨.one (.b),[],[]⟩],Bool,ii,OT,.e,[],none,[]⟩
def AHt:Kz:=sg AHs [] Tryz.func208
def WZ (n:Nat) (a:BA):Option (Bool):=
 (if a=ByteArray.empty then some true else some false)
noncomputable def AHu:AH:=⟨245,Tryz.f245,false,[.s],[],[⟨.one (.b),[],[]⟩],Bool,ii,WZ,.e,[],none,[]⟩
def AHv:Kz:=sg AHu [] Tryz.func245
mutual
def ZJ:Nat->Int->BA->BA->LD->Int->BA->LD->Int->BA->LD->LD->LD->LD->LD->Int->Int->Option (Bool×Int)
 | 0,_,_,_,_,_,_,_,_,_,_,_,_,_,_,_,_=>none
 | n+1,F,x,A,B,h,t,u,E,o,f,d,b,a,c,g,e=>
  AW (IntKind.wrap .i64 (e - 1)) fun i=>Au (O5 n F x A B h t u E o f d b a c g i) fun bI=>some (bI,e)
def EU:Nat->LD->Int->Int->Int->Option (Bool×Int)
 | 0,_,_,_,_=>none
 | n+1,r,v,z,h=>
  AO r fun I=>(if z<I then (if z<v then Ae r z fun x7=>Ba x7 fun E o bK d C bL c g bM bN bO bP bQ bR bT=>Im (ZJ n E o bK d C bL c g bM bN bO bP bQ bR bT h) fun G j=>Ax (!G) fun k=>(if k=true then some (false,j)else AW (IntKind.wrap .i64 (z+1)) fun bU=>EU n r v bU j)else EV n r v h)else EV n r v h)
def EV:Nat->LD->Int->Int->Option (Bool×Int)
 | 0,_,_,_=>none
 | n+1,r,v,J=>
  AO r fun bV=>(if bV<=v then some (true,J)else some (false,J))
def Bu:Nat->LD->Int->Int->Option (Bool×Int)
 | 0,_,_,_=>none
 | n+1,r,v,z3=>
  EU n r v 0 z3
def Wa:Nat->BA->BA->LD->Int->Option (Bool×Int)
 | 0,_,_,_,_=>none
 | n+1,s1,x,l3,z=>
  Au (MM n s1) fun b5=>(if b5=true then (if x=ByteArray.empty then AO l3 fun I=>Im (Bu n l3 I z) fun b7 E=>some (b7,E)else Au (KO n x) fun b9=>(if b9=true then AO l3 fun bX=>Im (Bu n l3 bX z) fun H C=>some (H,C)else some (false,z)))else some (false,z))
def Fk:Nat->LD->Int->Int->Int->Option (Bool×Int)
 | 0,_,_,_,_=>none
 | n+1,r,v,z,h=>
  AO r fun I=>(if z<I then (if z<v then Ae r z fun x7=>Cv x7 fun s8 o f=>Im (Wa n s8 o f h) fun H C=>Ax (!H) fun bY=>(if bY=true then some (false,C)else AW (IntKind.wrap .i64 (z+1)) fun bZ=>Fk n r v bZ C)else Fm n r v h)else Fm n r v h)
def Fm:Nat->LD->Int->Int->Option (Bool×Int)
 | 0,_,_,_=>none
 | n+1,r,v,g=>
  AO r fun e=>(if e<=v then some (true,g)else some (false,g))
def Jh:Nat->LD->Int->Int->Option (Bool×Int)
 | 0,_,_,_=>none
 | n+1,r,v,z3=>
  Fk n r v 0 z3
def Hq:Nat->LD->LD->LD->LD->Int->Int->Int->Bool->Bool->Bool->Bool->Option (Bool)
 | 0,_,_,_,_,_,_,_,_,_,_,_=>none
 | n+1,d,b,a,c,e,i,p,l,q,m,s=>
  Ax (!q) fun b0=>(if b0=true then AO b fun b1=>(if 0<b1 then some false else Ax (!m) fun b2=>(if b2=true then AO a fun b3=>(if 0<b3 then some false else AO c fun b4=>(if 0<b4 then some false else Fo n d b a c e i p l q m s))else AO c fun b6=>(if 0<b6 then some false else Fo n d b a c e i p l q m s)))else Ax (!m) fun b8=>(if b8=true then AO a fun ca=>(if 0<ca then some false else AO c fun cb=>(if 0<cb then some false else Fo n d b a c e i p l q m s))else AO c fun cc=>(if 0<cc then some false else Fo n d b a c e i p l q m s)))
def Fo:Nat->LD->LD->LD->LD->Int->Int->Int->Bool->Bool->Bool->Bool->Option (Bool)
 | 0,_,_,_,_,_,_,_,_,_,_,_=>none
 | n+1,d,b,a,c,e,i,p,l,q,m,s=>
  BO (JY n d 6 i p false l q m false s e) fun ce d4 d5 d6 d7 d8 d9 ea eb cf=>(if ce=true then AO b fun cg=>Im (Bu n b cg cf) fun ch cj=>(if ch=true then AO a fun ck=>Im (Bu n a ck cj) fun cl cm=>(if cl=true then Im (Jh n c 6 cm) fun co ec=>some co else some false)else some false)else some false)
def Hr:Nat->LD->LD->LD->LD->Int->Int->Bool->Bool->Bool->Option (Bool)
 | 0,_,_,_,_,_,_,_,_,_=>none
 | n+1,d,b,a,c,e,j,k,w,y=>
  Ax (!w) fun K=>(if K=true then AO b fun L=>(if 0<L then some false else AO a fun M=>(if 0<M then some false else AO c fun N=>(if 0<N then some false else Ht n d b a c e j k w y)))else AO a fun O=>(if 0<O then some false else AO c fun P=>(if 0<P then some false else Ht n d b a c e j k w y)))
def Ht:Nat->LD->LD->LD->LD->Int->Int->Bool->Bool->Bool->Option (Bool)
 | 0,_,_,_,_,_,_,_,_,_=>none
 | n+1,d,b,a,c,e,j,k,w,y=>
  BO (Ja n d 6 0 j false k w false false y e) fun Q dj dk dl dm dn dp dq dr R=>(if Q=true then AO b fun S=>Im (Bu n b S R) fun T U=>(if T=true then AO a fun V=>Im (Bu n a V U) fun W X=>(if W=true then Im (Jh n c 6 X) fun Y ds=>some Y else some false)else some false)else some false)
def O5:Nat->Int->BA->BA->LD->Int->BA->LD->Int->BA->LD->LD->LD->LD->LD->Int->Int->Option (Bool)
 | 0,_,_,_,_,_,_,_,_,_,_,_,_,_,_,_,_=>none
 | n+1,F,x,A,B,h,t,u,E,o,f,d,b,a,c,g,e=>
  bS (WY n F x A B h t u E o f d b a c g) (fun cp=>jE (some cp) fun i p l q m s G=>(if e<1 then some false else Ax (!G) fun cq=>(if cq=true then some false else Au (OT n F x A B h t u E o f d b a c g) fun cr=>Ax (!cr) fun cs=>(if cs=true then some false else Au (WZ n x) fun ct=>Ax (!ct) fun cu=>(if cu=true then some false else Au (WZ n A) fun cv=>Ax (!cv) fun cw=>(if cw=true then some false else AO d fun cx=>(if cx=p then Au (Gs n B i) fun cy=>Ax (!cy) fun cz=>(if cz=true then some false else AW (IntKind.wrap .i64 (e - 1)) fun cA=>Au (JW n h t u cA) fun cB=>Ax (!(false==cB)) fun cC=>(if cC=true then some false else Au (O4 n h t u) fun cD=>Ax (!cD) fun cE=>(if cE=true then some false else Au (Ro n o f) fun cF=>Ax (!(l==cF)) fun cG=>(if cG=true then some false else Ax (!l) fun cH=>(if cH=true then Au (Rp n o f) fun cI=>Ax (!cI) fun cJ=>(if cJ=true then some false else Hq n d b a c e i p l q m s)else Hq n d b a c e i p l q m s)))))else some false))))))) (fun cK=>bS (some cK) (fun cM=>jD (some cM) fun j k w y=>(if e<1 then some false else Au (OT n F x A B h t u E o f d b a c g) fun cN=>Ax (!cN) fun cO=>(if cO=true then some false else Au (KO n x) fun cQ=>Ax (!cQ) fun cS=>(if cS=true then some false else Au (WZ n A) fun cT=>Ax (!cT) fun cU=>(if cU=true then some false else AO d fun cV=>(if cV=j then Au (Gs n B 0) fun cW=>Ax (!cW) fun cX=>(if cX=true then some false else AW (IntKind.wrap .i64 (e - 1)) fun cY=>Au (JW n h t u cY) fun cZ=>Ax (!(false==cZ)) fun da=>(if da=true then some false else Au (O4 n h t u) fun db=>Ax (!db) fun dd=>(if dd=true then some false else Au (Ro n o f) fun de=>Ax (!(k==de)) fun dg=>(if dg=true then some false else Ax (!k) fun Z=>(if Z=true then Au (Rp n o f) fun aa=>Ax (!aa) fun ab=>(if ab=true then some false else Hr n d b a c e j k w y)else Hr n d b a c e j k w y)))))else some false)))))) (fun dh=>bS (some dh) (fun _=>(if e<1 then some false else Au (OT n F x A B h t u E o f d b a c g) fun ac=>Ax (!ac) fun ad=>(if ad=true then some false else Au (MM n x) fun ae=>Ax (!ae) fun af=>(if af=true then some false else Au (WZ n A) fun ag=>Ax (!ag) fun ah=>(if ah=true then some false else AO d fun ai=>(if ai=1 then Au (Gs n B 6) fun aj=>Ax (!aj) fun ak=>(if ak=true then some false else AW (IntKind.wrap .i64 (e - 1)) fun am=>Au (JW n h t u am) fun an=>Ax (!(false==an)) fun ao=>(if ao=true then some false else Au (O4 n h t u) fun aq=>Ax (!aq) fun ar=>(if ar=true then some false else Au (Ro n o f) fun au=>Ax (!(false==au)) fun av=>(if av=true then some false else Au (Rp n o f) fun aw=>Ax (!aw) fun ax=>(if ax=true then some false else AO b fun ay=>(if 0<ay then some false else AO a fun az=>(if 0<az then some false else AO c fun aA=>(if 0<aA then some false else BO (Jc n d 6 6 1 false false false false false false e) fun aB dt du dv dw dx dy dz dA aC=>(if aB=true then AO b fun aD=>Im (Bu n b aD aC) fun aE aF=>(if aE=true then AO a fun aG=>Im (Bu n a aG aF) fun aH aI=>(if aH=true then Im (Jh n c 6 aI) fun aJ dC=>some aJ else some false)else some false)else some false)))))))))else some false)))))) (fun di=>bS (some di) (fun _=>(if e<1 then some false else Au (OT n F x A B h t u E o f d b a c g) fun aK=>Ax (!aK) fun aL=>(if aL=true then some false else Au (KO n x) fun aM=>Ax (!aM) fun aN=>(if aN=true then some false else Au (MM n A) fun aO=>Ax (!aO) fun aP=>(if aP=true then some false else AO d fun aQ=>(if aQ=0 then Au (Gs n B 0) fun aR=>Ax (!aR) fun aS=>(if aS=true then some false else AW (IntKind.wrap .i64 (e - 1)) fun aT=>Au (JW n h t u aT) fun aU=>Ax (!(false==aU)) fun aV=>(if aV=true then some false else Au (O4 n h t u) fun aW=>Ax (!aW) fun aX=>(if aX=true then some false else Au (Ro n o f) fun aY=>Ax (!(false==aY)) fun aZ=>(if aZ=true then some false else Au (Rp n o f) fun a0=>Ax (!a0) fun a1=>(if a1=true then some false else AO b fun a2=>(if 0<a2 then some false else AO a fun a3=>(if 0<a3 then some false else BO (Je n d 6 0 0 false false false false true false e) fun a4 dD dE dF dG dH dI dJ dK a5=>(if a4=true then AO b fun a6=>Im (Bu n b a6 a5) fun a7 a8=>(if a7=true then AO a fun a9=>Im (Bu n a a9 a8) fun ba bb=>(if ba=true then Im (Jh n c 6 bb) fun bc dL=>some bc else some false)else some false)else some false))))))))else some false)))))) (fun _=>(if e<1 then some false else Au (OT n F x A B h t u E o f d b a c g) fun bd=>Ax (!bd) fun be=>(if be=true then some false else Au (KO n x) fun bf=>Ax (!bf) fun bg=>(if bg=true then some false else Au (KO n A) fun bh=>Ax (!bh) fun bi=>(if bi=true then some false else AO d fun bj=>(if bj=0 then Au (Gs n B 0) fun bl=>Ax (!bl) fun bm=>(if bm=true then some false else AW (IntKind.wrap .i64 (e - 1)) fun bn=>Au (JW n h t u bn) fun bo=>Ax (!(true==bo)) fun bp=>(if bp=true then some false else Au (Ro n o f) fun bq=>Ax (!(false==bq)) fun br=>(if br=true then some false else Au (Rp n o f) fun bs=>Ax (!bs) fun bt=>(if bt=true then some false else AO b fun bu=>(if 0<bu then some false else AO a fun bv=>(if 0<bv then some false else AO c fun bw=>(if 0<bw then some false else BO (Jg n d 6 0 0 true false false false false false e) fun bx dM dN dO dP dR dT dU dV bz=>(if bx=true then AO b fun bA=>Im (Bu n b bA bz) fun bB bC=>(if bB=true then AO a fun bD=>Im (Bu n a bD bC) fun bE bF=>(if bE=true then Im (Jh n c 6 bF) fun bG dX=>some bG else some false)else some false)else some false))))))))else some false)))))))))
end
noncomputable def AHw:AH:=⟨212,Tryz.f212,false,[.agg [.y,.s,.s,.f 1,.y,.s,.q 3,.z,.s,.f 1,.q 8,.q 15,.q 15,.q 3,.z],.v 0],[.c [.z]],[⟨.one (.b),[.c [.z]],[]⟩],Bool×Int,ii,ZJ,.e,[],none,[]⟩
noncomputable def xB:AH:=⟨145,Tryz.f145,false,[.q 15,.z,.one (.fn 212 [.e 0])],[.c [.z]],[⟨.one (.b),[.c [.z]],[]⟩],Bool×Int,ii,Bu,.e,[⟨26,[0,1,2,6,7],[.e 0],64,[.q 15,.z,.one (.fn 212 [.e 0]),.one (.cb false),.z],[.c [.z]],EU,.e⟩,
 ⟨7,[0,1,6],[.e 0],352,[.q 15,.z,.one (.cb false)],[.c [.z]],EV,.e⟩],none,[]⟩
noncomputable def AHx:AH:=⟨215,Tryz.f215,false,[.agg [.s,.s,.q 15],.v 0],[.c [.fn 212 [.e 1]],.c [.z]],[⟨.one (.b),[.c [.fn 212 [.e 1]],.c [.z]],[]⟩],Bool×Int,ii,Wa,.e,[],none,[]⟩
noncomputable def AHy:AH:=⟨214,Tryz.f214,false,[.q 3,.z,.one (.fn 215 [.e 0])],[.c [.fn 212 [.e 1]],.c [.z]],[⟨.one (.b),[.c [.fn 212 [.e 1]],.c [.z]],[]⟩],Bool×Int,ii,Jh,.e,[⟨26,[0,1,2,6,7],[.e 0,.e 1],64,[.q 3,.z,.one (.fn 215 [.e 0]),.one (.cb false),.z],[.c [.fn 212 [.e 1]],.c [.z]],Fk,.e⟩,
 ⟨7,[0,1,6],[.e 0,.e 1],352,[.q 3,.z,.one (.cb false)],[.c [.fn 212 [.e 1]],.c [.z]],Fm,.e⟩],none,[]⟩
noncomputable def ABt:AH:=⟨147,Tryz.f147,false,[.agg [.y,.s,.s,.f 1,.y,.s,.q 3,.z,.s,.f 1,.q 8,.q 15,.q 15,.q 3,.z],.z],[],[⟨.one (.b),[],[]⟩],Bool,ii,O5,.n 0 (.b .e (.b .e (.b (.b .e (.n 0 (.b (.b .e (.b .e (.b .e (.n 0 (.b (.b .e (.b .e (.b .e (.n 0 (.b (.b .e (.b .e (.b .e (.b .e (.b .e (.b .e (.b .e (.b .e (.b (.n 0 (.b (.b .e (.b .e (.b .e (.n 0 (.b (.b .e (.n 0 (.b (.b (.b .e (.b (.b .e (.b .e (.n 0 (.b (.b .e (.b .e (.b .e (.n 0 (.b (.b (.b .e (.b (.b .e (.b .e (.w (.b (.b (.b (.b (.b .e (.b (.b .e (.b .e (.b .e (.b .e (.b (.b (.b (.b (.b .e (.b .e (.b (.b .e (.b .e (.b .e (.b .e (.b .e (.b (.b (.b (.b (.b .e (.w .e)) .e) .e) .e) .e)))))) .e))) .e) .e) .e) .e))))) .e)) .e) .e) .e) .e)))) .e)) .e) .e))))) .e)))) .e)) .e) .e))) .e))))) .e)) .e))))))))) .e))))) .e))))) .e))) (.b (.b .e (.n 0 (.b (.b .e (.b .e (.b .e (.n 0 (.b (.b .e (.b .e (.b .e (.n 0 (.b (.b .e (.b .e (.b .e (.b .e (.b .e (.b .e (.b .e (.b .e (.b (.n 0 (.b (.b .e (.b .e (.b .e (.n 0 (.b (.b .e (.n 0 (.b (.b (.b .e (.b (.b .e (.b .e (.n 0 (.b (.b .e (.b .e (.b .e (.n 0 (.b (.b (.b .e (.b (.b .e (.b .e (.w (.b (.b (.b (.b (.b .e (.b (.b .e (.b .e (.b .e (.b .e (.b (.b (.b (.b (.b .e (.w .e)) .e) .e) .e) .e))))) .e)) .e) .e) .e) .e)))) .e)) .e) .e))))) .e)))) .e)) .e) .e))) .e))))) .e)) .e))))))))) .e))))) .e))))) .e))) (.b (.b .e (.n 0 (.b (.b .e (.b .e (.b .e (.n 0 (.b (.b .e (.b .e (.b .e (.n 0 (.b (.b .e (.b .e (.b .e (.b .e (.b .e (.b .e (.b .e (.b .e (.b (.n 0 (.b (.b .e (.b .e (.b .e (.n 0 (.b (.b .e (.n 0 (.b (.b .e (.b .e (.b .e (.n 0 (.b (.b (.b .e (.b (.b .e (.b .e (.w (.b (.b (.b (.b (.b .e (.b (.b .e (.b .e (.b .e (.b .e (.b (.b (.b (.b (.b .e (.b .e (.b (.b .e (.b .e (.b .e (.b .e (.b .e (.b (.b (.b (.b (.b .e (.w .e)) .e) .e) .e) .e)))))) .e))) .e) .e) .e) .e))))) .e)) .e) .e) .e) .e)))) .e)) .e) .e))))) .e))) .e))))) .e)) .e))))))))) .e))))) .e))))) .e))) .e))))),[⟨31,[2,3,4,5],[.o 0,.o 32,.o 256],2944,[.u 0,.u 32,.one (.cb false),.u 256],[.c [.y,.s,.s,.f 1,.y,.s,.q 3,.z,.s,.f 1,.q 8,.q 15,.q 15,.q 3,.z],.c [.z],.c [.z,.z,.cb false,.bool,.bool,.bool,.cb false,.bool,.fn 245 [],.fn 245 []]],fun n _ _ _ _ _ _ _ _ _ _ a d g h _ i j l m p r t=>Hq n a d g h i j l m p r t,.e⟩,
 ⟨63,[2,3,4,5],[.o 0,.o 32,.o 256],3936,[.u 0,.u 32,.one (.cb false),.u 256],[.c [.y,.s,.s,.f 1,.y,.s,.q 3,.z,.s,.f 1,.q 8,.q 15,.q 15,.q 3,.z],.c [.z],.c [.z,.z,.cb false,.bool,.bool,.bool,.cb false,.bool,.fn 245 [],.fn 245 []]],fun n _ _ _ _ _ _ _ _ _ _ a d g h _ i j l m p r t=>Fo n a d g h i j l m p r t,.e⟩,
 ⟨31,[2,3,4,5],[.o 0,.o 32,.o 256],2944,[.u 0,.u 32,.one (.cb false),.u 256],[.c [.y,.s,.s,.f 1,.y,.s,.q 3,.z,.s,.f 1,.q 8,.q 15,.q 15,.q 3,.z],.c [.z],.c [.k 0,.z,.cb false,.bool,.bool,.cb false,.cb false,.bool,.fn 142 [],.fn 245 []]],fun n _ _ _ _ _ _ _ _ _ _ a d g h _ i v x A B=>Hr n a d g h i v x A B,.e⟩,
 ⟨63,[2,3,4,5],[.o 0,.o 32,.o 256],3936,[.u 0,.u 32,.one (.cb false),.u 256],[.c [.y,.s,.s,.f 1,.y,.s,.q 3,.z,.s,.f 1,.q 8,.q 15,.q 15,.q 3,.z],.c [.z],.c [.k 0,.z,.cb false,.bool,.bool,.cb false,.cb false,.bool,.fn 142 [],.fn 245 []]],fun n _ _ _ _ _ _ _ _ _ _ a d g h _ i v x A B=>Ht n a d g h i v x A B,.e⟩],none,[]⟩
theorem AHz:Bb Tryz.prog inv (D3 [AHw,xB,AHx,AHy,ABt]):=gr [pG,pM,lM,WT,vO,vS,vW,wJ,xA,AHr,AHt,lN,ABq,ABr,AHv] ⟨ge Tryz.func212,ge Tryz.func145,ge Tryz.func215,ge Tryz.func214,ge Tryz.func147,trivial⟩
def AIa:Kz:=⟨ABt.c,AHz.2.2.2.2.1⟩
def ZK (n:Nat) (j:Int) (k:BA) (l:BA) (m:LD) (o:Int) (p:BA) (q:LD) (r:Int) (s:BA) (b:LD) (c:LD) (d:LD) (e:LD) (f:LD) (g:Int) (a:Int):Option (Bool×Int):=
 AW (IntKind.wrap .i64 (a - 1)) fun h=>Au (O5 n j k l m o p q r s b c d e f g h) fun i=>some (i,a)
noncomputable def AIb:AH:=⟨146,Tryz.f146,false,[.agg [.y,.s,.s,.f 1,.y,.s,.q 3,.z,.s,.f 1,.q 8,.q 15,.q 15,.q 3,.z],.v 0],[.c [.z]],[⟨.one (.b),[.c [.z]],[]⟩],Bool×Int,ii,ZK,.e,[],none,[]⟩
def AIc:Kz:=sg AIb [AIa] Tryz.func146
def Hu:Nat->LD->Int->Int->Option (Bool×Int)
 | 0,_,_,_=>none
 | n+1,c,d,a=>
  AO c fun b=>(if b<=d then some (true,a)else some (false,a))
def Hv:Nat->LD->Int->Int->Int->Option (Bool×Int)
 | 0,_,_,_,_=>none
 | n+1,a,c,d,e=>
  AO a fun w=>(if d<w then (if d<c then Ae a d fun x=>Ba x fun y z f g h i j k l m o p q r s=>Im (ZK n y z f g h i j k l m o p q r s e) fun t b=>Ax (!t) fun u=>(if u=true then some (false,b)else AW (IntKind.wrap .i64 (d+1)) fun v=>Hv n a c v b)else Hu n a c e)else Hu n a c e)
def Wb (n:Nat) (a:LD) (b:Int) (c:Int):Option (Bool×Int):=
 Hv n a b 0 c
noncomputable def AId:AH:=⟨145,Tryz.f145,false,[.q 15,.z,.one (.fn 146 [.e 0])],[.c [.z]],[⟨.one (.b),[.c [.z]],[]⟩],Bool×Int,ii,Wb,.e,[⟨26,[0,1,2,6,7],[.e 0],64,[.q 15,.z,.one (.fn 146 [.e 0]),.one (.cb false),.z],[.c [.z]],Hv,.e⟩,
 ⟨7,[0,1,6],[.e 0],352,[.q 15,.z,.one (.cb false)],[.c [.z]],Hu,.e⟩],none,[]⟩
def AIe:Kz:=sg AId [AIc] Tryz.func145
def OU:Nat->LD->LD->Int->Int->Option (Bool)
 | 0,_,_,_,_=>none
 | n+1,d,e,f,a=>
  (if a<f then Ae d a fun g=>B0 g fun h=>Ae e a fun i=>B0 i fun b=>(if h=b then AW (IntKind.wrap .i64 (a+1)) fun c=>OU n d e f c else some false)else some true)
def pS (n:Nat) (a:LD) (b:LD):Option (Bool):=
 AO a fun c=>AO b fun d=>(if c=d then AO a fun e=>OU n a b e 0 else some false)
noncomputable def AIf:AH:=⟨241,Tryz.f241,false,[.f 1,.f 1],[],[⟨.one (.b),[],[]⟩],Bool,ii,pS,.e,[⟨58,[0,1,4,12,13],[],288,[.f 1,.f 1,.one (.cb false),.z,.z],[],OU,.e⟩],none,[]⟩
def AIg:Kz:=sg AIf [] Tryz.func241
def pT (n:Nat) (a:BA) (b:LD) (c:BA) (d:LD):Option (Bool):=
 (if a=c then Au (pS n b d) fun e=>some e else some false)
noncomputable def AIh:AH:=⟨197,Tryz.f197,false,[.agg [.s,.f 1],.agg [.s,.f 1]],[],[⟨.one (.b),[],[]⟩],Bool,ii,pT,.e,[],none,[]⟩
def AIi:Kz:=sg AIh [AIg] Tryz.func197
mutual
def Hw:Nat->LD->LD->Int->Int->Option (Bool)
 | 0,_,_,_,_=>none
 | n+1,d,e,f,g=>
  (if g<f then Ae d g fun F=>Bj F fun E h i a b j c k=>Ae e g fun l=>Bj l fun m o p q r s t u=>Au (UP n E h i a b j c k m o p q r s t u) fun v=>Ax (!v) fun w=>(if w=true then some false else AW (IntKind.wrap .i64 (g+1)) fun x=>Hw n d e f x)else some true)
def UO:Nat->LD->LD->Option (Bool)
 | 0,_,_=>none
 | n+1,d,e=>
  AO d fun G=>AO e fun H=>(if G=H then AO d fun f=>Hw n d e f 0 else some false)
def UP:Nat->Int->Int->BA->BA->BA->LD->LD->Int->Int->Int->BA->BA->BA->LD->LD->Int->Option (Bool)
 | 0,_,_,_,_,_,_,_,_,_,_,_,_,_,_,_,_=>none
 | n+1,I,J,K,L,M,N,O,E,h,y,a,b,z,c,A,P=>
  (if I=h then (if J=y then (if K=a then (if L=b then Au (pT n M N z c) fun B=>(if B=true then Au (UO n O A) fun C=>some C else some false)else some false)else some false)else some false)else some false)
end
noncomputable def AIj:AH:=⟨198,Tryz.f198,false,[.q 8,.q 8,.one (.fn 140 [])],[],[⟨.one (.b),[],[]⟩],Bool,ii,UO,.e,[⟨58,[1,2,6,15,16,17],[],288,[.q 8,.one (.fn 140 []),.one (.cb false),.q 8,.z,.z],[],fun n a c d f=>Hw n c a d f,.e⟩],none,[]⟩
noncomputable def ABu:AH:=⟨140,Tryz.f140,false,[.agg [.y,.z,.s,.s,.s,.f 1,.q 8,.z],.agg [.y,.z,.s,.s,.s,.f 1,.q 8,.z]],[],[⟨.one (.b),[],[]⟩],Bool,ii,UP,.e,[],none,[]⟩
theorem AIk:Bb Tryz.prog inv (D3 [AIj,ABu]):=gr [AIi] ⟨ge Tryz.func198,ge Tryz.func140,trivial⟩
def AIl:Kz:=⟨ABu.c,AIk.2.1⟩
def Fq:Nat->Int->BA->LD->Int->BA->LD->LD->Int->Int->BA->BA->BA->LD->LD->Int->Int->Int->Bool->Option (Bool)
 | 0,_,_,_,_,_,_,_,_,_,_,_,_,_,_,_,_,_,_=>none
 | n+1,j,v,w,x,y,z,A,B,C,a,b,c,d,e,f,g,h,k=>
  (if j=1 then (if k=true then Qq (UN n false j v w x y z A B C a b c d e f g h) fun E T U V W X Y Z aa ab ac ad ae af ag ah ai aj=>some E else some false)else (if j=2 then (if k=true then Qq (JX n true j v w x y z A B C a b c d e f g h) fun F ak am an ao aq ar au av aw ax ay az aA aB aC aD aE=>some F else some false)else (if j=3 then Au (KO n v) fun G=>(if G=true then Qq (UN n false j v w x y z A B C a b c d e f g h) fun H aF aG aH I J K l m o p q r s t u aI i=>(if H=true then AW (IntKind.wrap .i64 (i - 1)) fun L=>Au (JW n I J K L) fun M=>(if M=true then Au (LS n m o p q r s t u) fun N=>Ax (!N) fun O=>(if O=true then AW (IntKind.wrap .i64 (i - 1)) fun P=>Au (GM n m o p q r s t u P) fun Q=>(if Q=true then AO l fun R=>Im (Wb n l R i) fun S aJ=>some S else some false)else some false)else some false)else some false)else some false)else some false)))
def Wc (n:Nat) (q:Int) (i:BA) (r:LD) (j:Int) (k:BA) (l:LD) (m:LD) (o:Int) (p:Int) (a:BA) (b:BA) (c:BA) (d:LD) (e:LD) (f:Int) (g:Int) (h:Int):Option (Bool):=
 Au (O4 n j k l) fun s=>(if s=true then AO m fun t=>(if t=0 then Au (UP n o p a b c d e f 0 0 ByteArray.empty ByteArray.empty ByteArray.empty ([]:LD) ([]:LD) 0) fun u=>(if u=true then Au (MM n i) fun v=>Fq n q i r j k l m o p a b c d e f g h v else Fq n q i r j k l m o p a b c d e f g h false)else Fq n q i r j k l m o p a b c d e f g h false)else Fq n q i r j k l m o p a b c d e f g h false)
noncomputable def AIm:AH:=⟨106,Tryz.f106,false,[.agg [.y,.s,.q 4,.y,.s,.q 3,.q 15,.y,.z,.s,.s,.s,.f 1,.q 8,.z,.z],.z],[],[⟨.one (.b),[],[]⟩],Bool,ii,Wc,.e,[⟨15,[2,3,4,5,6],[.o 0,.o 32],832,[.u 0,.u 32,.one (.cb false),.one (.fn 135 [.o 0,.o 32]),.b],[.c [.y,.s,.q 4,.y,.s,.q 3,.q 15,.y,.z,.s,.s,.s,.f 1,.q 8,.z,.z],.c [.z]],fun n a p r t v w x A B C d g h i j k l m=>Fq n p r t v w x A B C d g h i j k l m a,.e⟩],none,[]⟩
def AIn:Kz:=sg AIm [AGx,vL,pG,pM,AIl,lM,WT,WU,ZI,AIe] Tryz.func106
def ZL (n:Nat) (i:Int) (j:BA) (k:LD) (l:Int) (m:BA) (o:LD) (p:LD) (q:Int) (r:Int) (a:BA) (b:BA) (c:BA) (d:LD) (e:LD) (f:Int) (g:Int):Option (Bool):=
 Au (Wc n i j k l m o p q r a b c d e f g 39) fun h=>some h
noncomputable def AIo:AH:=⟨105,Tryz.f105,false,[.agg [.y,.s,.q 4,.y,.s,.q 3,.q 15,.y,.z,.s,.s,.s,.f 1,.q 8,.z,.z]],[],[⟨.one (.b),[],[]⟩],Bool,ii,ZL,.e,[],none,[]⟩
def AIp:Kz:=sg AIo [AIn] Tryz.func105
def Hx:Nat->LD->Int->Option (Bool)
 | 0,_,_=>none
 | n+1,b,c=>
  AO b fun a=>(if a<=c then some true else some false)
def Hy:Nat->LD->Int->Int->Option (Bool)
 | 0,_,_,_=>none
 | n+1,a,b,c=>
  AO a fun t=>(if c<t then (if c<b then Ae a c fun u=>BZ u fun v w x y d e f g h i j k l m o p=>Au (ZL n v w x y d e f g h i j k l m o p) fun q=>Ax (!q) fun r=>(if r=true then some false else AW (IntKind.wrap .i64 (c+1)) fun s=>Hy n a b s)else Hx n a b)else Hx n a b)
def ZM (n:Nat) (a:LD) (b:Int):Option (Bool):=
 Hy n a b 0
noncomputable def AIq:AH:=⟨104,Tryz.f104,false,[.q 16,.z,.one (.fn 105 [])],[],[⟨.one (.b),[],[]⟩],Bool,ii,ZM,.e,[⟨26,[0,1,2,6,7],[],64,[.q 16,.z,.one (.fn 105 []),.one (.cb false),.z],[],Hy,.e⟩,
 ⟨7,[0,1,6],[],352,[.q 16,.z,.one (.cb false)],[],Hx,.e⟩],none,[]⟩
def AIr:Kz:=sg AIq [AIp] Tryz.func104
def O6 (n:Nat) (u:Int) (v:BA) (o:LD) (p:LD) (q:LD):Option (Int×BA×LD×Int×BA×LD×LD×Int×Int×BA×BA×BA×LD×LD×Int×Int×Bool×LD×LD×LD):=
 (findF true (.str v) o (fun w=>BZ w fun r s t a b c d e f g h i j k l m=>(if r=u then some (r,s,t,a,b,c,d,e,f,g,h,i,j,k,l,m,true,o,p,q)else some (r,s,t,a,b,c,d,e,f,g,h,i,j,k,l,m,false,o,p,q))) (some (0,ByteArray.empty,([]:LD),0,ByteArray.empty,([]:LD),([]:LD),0,0,ByteArray.empty,ByteArray.empty,ByteArray.empty,([]:LD),([]:LD),0,0,false,o,p,q)))
noncomputable def AIs:AH:=⟨149,Tryz.f149,false,[.v 0,.y,.s],[.c [.w 1,.w 2,.w 3],.m17,.m17,.l2],[⟨.tup [.agg [.y,.s,.q 4,.y,.s,.q 3,.q 15,.y,.z,.s,.s,.s,.f 1,.q 8,.z,.z],.b],[.c [.w 1,.w 2,.x 0],.m17,.m17,.o],[.l2]⟩],Int×BA×LD×Int×BA×LD×LD×Int×Int×BA×BA×BA×LD×LD×Int×Int×Bool×LD×LD×LD,ii,O6,.g [.move (.e 3)] [] .e,[],none,[]⟩
def ABv:Kz:=sg AIs [] Tryz.func149
def OV:Nat->LD->BA->Int->Int->Option (BA×Int×BA×LD×Bool)
 | 0,_,_,_,_=>none
 | n+1,j,b,c,a=>
  (if a<c then Ae j a fun e=>Bt e fun d f g h=>(if d=b then some (d,f,g,h,true)else AW (IntKind.wrap .i64 (a+1)) fun i=>OV n j b c i)else some (ByteArray.empty,0,ByteArray.empty,([]:LD),false))
def UQ (n:Nat) (k:Int) (l:BA) (c:LD) (m:Int) (o:BA) (p:LD) (q:LD) (r:Int) (s:Int) (d:BA) (e:BA) (f:BA) (g:LD) (h:LD) (i:Int) (j:Int) (a:BA):Option (BA×Int×BA×LD×Bool):=
 AO c fun b=>OV n c a b 0
noncomputable def AIt:AH:=⟨154,Tryz.f154,false,[.agg [.y,.s,.q 4,.y,.s,.q 3,.q 15,.y,.z,.s,.s,.s,.f 1,.q 8,.z,.z],.s],[],[⟨.tup [.agg [.s,.y,.s,.q 3],.b],[],[]⟩],BA×Int×BA×LD×Bool,ii,UQ,.e,[⟨26,[1,4,5,9,10,11],[.o 32],224,[.s,.u 32,.one (.cb false),.q 4,.z,.z],[.c [.cs ByteArray.empty,.ci .u8 0,.cs ByteArray.empty,.nils true 3]],fun n a h d g=>OV n h a d g,.e⟩],none,[]⟩
def ABw:Kz:=sg AIt [] Tryz.func154
def Hz:Nat->Int->Int->LD->LD->LD->LD->Bool->Option (Bool×Int×Int×LD×LD×LD×LD)
 | 0,_,_,_,_,_,_,_=>none
 | n+1,g,a,b,c,d,e,f=>
  some (f,g,a,c,d,b,e)
mutual
def H0:Nat->LD->LD->Int->Int->LD->LD->LD->LD->LD->Bool->Int->Option (Bool×Int×Int×LD×LD×LD×LD)
 | 0,_,_,_,_,_,_,_,_,_,_,_=>none
 | n+1,j,k,i,b,c,g,d,e,f,h,a=>
  AO k fun l=>(if a<l then (if h=true then Ae g a fun m=>Bt m fun o t u v=>Ae j a fun p=>B0 p fun q=>(if o=q then H3 n j k i b c g d e f a true else H3 n j k i b c g d e f a false)else Hz n i b c d e f h)else Hz n i b c d e f h)
def H3:Nat->LD->LD->Int->Int->LD->LD->LD->LD->LD->Int->Bool->Option (Bool×Int×Int×LD×LD×LD×LD)
 | 0,_,_,_,_,_,_,_,_,_,_,_=>none
 | n+1,j,k,i,b,c,g,d,e,f,a,r=>
  AW (IntKind.wrap .i64 (a+1)) fun s=>H0 n j k i b c g d e f r s
end
def Gu:Nat->LD->LD->Int->Int->LD->LD->LD->LD->LD->Bool->Option (Bool×Int×Int×LD×LD×LD×LD)
 | 0,_,_,_,_,_,_,_,_,_,_=>none
 | n+1,h,i,j,a,b,c,d,e,f,g=>
  H0 n h i j a b c d e f g 0
def Wd (n:Nat) (q:Int) (z2:Int) (r:BA) (X:BA) (W:BA) (s:LD) (o:LD) (z8:Int) (f:Int) (b:Int) (d:LD) (c:LD) (e:LD) (a:LD):Option (Bool×Int×Int×LD×LD×LD×LD):=
 (if q=18 then (findF true (.str r) c (fun t=>BZ t fun Y Z u aa ab ac ad ae af ag ah ai aj ak am an=>AO u fun v=>AO o fun w=>(if v=w then some (true,f,b,d,c,a,e)else some (false,f,b,d,c,a,e))) (some (false,f,b,d,c,a,e)))else (if q=20 then TS (O6 n 2 r d c e) fun x y z A B C E F G H I J K L M N O g h i=>ZY (UQ n x y z A B C E F G H I J K L M N X) fun ao p aq ar P=>(if O=true then (if P=true then AO o fun Q=>(if 0<Q then (if p=0 then some (false,f,b,g,h,a,i)else some (true,f,b,g,h,a,i))else (if p=0 then some (true,f,b,g,h,a,i)else some (false,f,b,g,h,a,i)))else some (false,f,b,g,h,a,i))else some (false,f,b,g,h,a,i))else (if q=19 then TS (O6 n 1 r d c e) fun au av j aw ax ay az aA aB aC aD aE aF aG aH aI R k l m=>(if R=true then AO j fun S=>AO o fun T=>(if S=T then Gu n s o f b a j k l m true else Gu n s o f b a j k l m false)else Gu n s o f b a j k l m false)else (if W=ByteArray.empty then some (true,f,b,d,c,a,e)else (findF true (.str W) a (fun U=>Dj U fun V=>some (V,f,b,d,c,a,e)) (some (false,f,b,d,c,a,e)))))))
noncomputable def AIu:AH:=⟨108,Tryz.f108,false,[.v 0,.agg [.y,.z,.s,.s,.s,.f 1,.q 8,.z]],[.c [.a 1,.w 5,.z,.z],.c [.w 2,.w 3,.w 4],.m17,.m17,.l2,.m2],[⟨.one (.b),[.c [.a 1,.w 5,.z,.z],.c [.w 2,.w 3,.x 0],.m17,.m17,.o,.m2],[.l2]⟩],Bool×Int×Int×LD×LD×LD×LD,ii,Wd,.b (.g [.move (.e 4)] [] .e) (.b .e (.b .e (.b .e (.b .e (.g [.move (.e 4)] [] .e))))),[⟨6907,[0,3,4,11,12],[.e 0,.e 1,.e 2,.e 3,.e 4,.e 5,.o 0,.o 640,.o 512],1088,[.v 0,.u 0,.one (.cb false),.u 640,.b],[.c [.a 1,.w 5,.z,.z],.c [.w 2,.w 3,.x 512],.m17,.m17,.o,.m2,.c [.y,.z,.s,.s,.s,.f 1,.q 8,.z],.c [.y,.s,.q 4,.y,.s,.q 3,.q 15,.y,.z,.s,.s,.s,.f 1,.q 8,.z,.z],.l2],fun n A m d h i j _ _ _ _ _ r t _ _ _ l _ _ _ _ _ _ _ _ _ _ _ _ _ k=>Gu n r t m d j l h i k A,.e⟩,
 ⟨55258,[0,3,4,11,12,13],[.e 0,.e 1,.e 2,.e 3,.e 4,.e 5,.o 0,.o 640,.o 512],1120,[.v 0,.u 0,.one (.cb false),.u 640,.b,.z],[.c [.a 1,.w 5,.z,.z],.c [.w 2,.w 3,.x 512],.m17,.m17,.o,.m2,.c [.y,.z,.s,.s,.s,.f 1,.q 8,.z],.c [.y,.s,.q 4,.y,.s,.q 3,.q 15,.y,.z,.s,.s,.s,.f 1,.q 8,.z,.z],.l2],fun n B p m d h i j _ _ _ _ _ r t _ _ _ l _ _ _ _ _ _ _ _ _ _ _ _ _ k=>H0 n r t m d j l h i k B p,.e⟩,
 ⟨442067,[0,3,4,11,12,13],[.e 0,.e 1,.e 2,.e 3,.e 4,.e 5,.o 0,.o 640,.o 512],1824,[.v 0,.u 0,.one (.cb false),.u 640,.b,.z],[.c [.a 1,.w 5,.z,.z],.c [.w 2,.w 3,.x 512],.m17,.m17,.o,.m2,.c [.y,.z,.s,.s,.s,.f 1,.q 8,.z],.c [.y,.s,.q 4,.y,.s,.q 3,.q 15,.y,.z,.s,.s,.s,.f 1,.q 8,.z,.z],.l2],fun n C p m d h i j _ _ _ _ _ r t _ _ _ l _ _ _ _ _ _ _ _ _ _ _ _ _ k=>H3 n r t m d j l h i k p C,.e⟩,
 ⟨13815,[0,3,4,12],[.e 0,.e 1,.e 2,.e 3,.e 4,.e 5,.o 0,.o 512],1376,[.v 0,.u 0,.one (.cb false),.b],[.c [.a 1,.w 5,.z,.z],.c [.w 2,.w 3,.x 512],.m17,.m17,.o,.m2,.c [.y,.z,.s,.s,.s,.f 1,.q 8,.z],.l2],fun n E m d h i j _ _ _ _ _ _ _ _ k=>Hz n m d j h i k E,.e⟩],none,[]⟩
def AIv:Kz:=sg AIu [ABv,ABw] Tryz.func108
def Bh (n:Nat) (d:Bool) (e:Int) (f:Int) (a:LD) (b:LD) (c:LD):Option (LD×LD×LD):=
 Ax (!d) fun g=>(if g=true then Gf [.agg [.int .i64 e,.int .i64 f]] fun h=>Bw 16 c h fun i=>some (a,b,i)else some (a,b,c))
noncomputable def ABx:AH:=⟨56,Tryz.f56,true,[.v 0,.b,.z,.z],[.c [.w 1,.w 2,.w 3],.m17,.m17,.l2],[⟨.tup [],[.c [.w 1,.w 2,.x 0],.m17,.m17,.o],[.l2]⟩],LD×LD×LD,ii,Bh,.b .e (.g [.move (.e 3)] [] .e),[],none,[]⟩
def L4:Kz:=sg ABx [] Tryz.func56
def H4:Nat->BA->Int->Int->Int->LD->LD->LD->LD->Bool->Bool->Option (Bool×BA×Int×Int×LD×LD×LD×LD)
 | 0,_,_,_,_,_,_,_,_,_,_=>none
 | n+1,i,j,k,l,m,o,p,q,a,b=>
  Ax (!a) fun c=>Dq (Bh n c 60 j m o p) fun d e f=>B5 (.str i) [.bool true] q fun g=>AW (IntKind.wrap .i64 (k+1)) fun h=>some (b,i,h,l,d,e,g,f)
def MN (n:Nat) (a:BA) (d:Int) (e:Int) (f:Int) (g:LD) (h:LD) (i:LD) (b:LD):Option (Bool×BA×Int×Int×LD×LD×LD×LD):=
 (findF true (.str a) b (fun j=>Dj j fun c=>H4 n a d e f g h i b true c) (H4 n a d e f g h i b false false))
noncomputable def AIw:AH:=⟨148,Tryz.f148,false,[.v 0,.s,.z],[.c [.a 1,.w 5,.z,.z],.c [.w 2,.w 3,.w 4],.m17,.m17,.l2,.m2],[⟨.one (.fz 216 [.d (.bool),.p (.e 0),.d (.str)]),[.c [.a 1,.w 5,.z,.z],.c [.w 2,.w 3,.x 0],.m17,.m17,.o,.m2],[.l2]⟩],Bool×BA×Int×Int×LD×LD×LD×LD,ii,MN,.e,[⟨7,[2,3,4,6,7,8],[.e 0,.e 1,.e 2,.e 3,.e 4,.e 5,.o 0,.o 32,.o 384],480,[.z,.u 0,.u 32,.one (.nilf),.u 384,.b],[.c [.a 1,.w 5,.z,.z],.c [.w 2,.w 3,.w 4],.m17,.m17,.l2,.m2,.c [.a 0],.c [.s],.c [.bool]],fun n i f j k l m q r t h=>H4 n t i j k l m q r f h,.n 0 (.g [.cloz 6] [] .e)⟩],none,[]⟩
def AIx:Kz:=sg AIw [L4] Tryz.func148
def Rq (n:Nat) (p:BA) (i:Int) (j:Int) (k:Int) (l:LD) (m:LD) (o:LD) (a:LD):Option (Int×Int×LD×LD×LD×LD):=
 (findF true (.str p) a (fun q=>Dj q fun b=>Dq (Bh n b 60 i l m o) fun c d e=>some (j,k,c,d,a,e)) (Dq (Bh n false 60 i l m o) fun f g h=>some (j,k,f,g,a,h)))
noncomputable def AIy:AH:=⟨150,Tryz.f150,false,[.v 0,.s,.z],[.c [.a 1,.w 5,.z,.z],.c [.w 2,.w 3,.w 4],.m17,.m17,.l2,.m2],[⟨.tup [],[.c [.a 1,.w 5,.z,.z],.c [.w 2,.w 3,.x 0],.m17,.m17,.o,.m2],[.l2]⟩],Int×Int×LD×LD×LD×LD,ii,Rq,.e,[],none,[]⟩
def AIz:Kz:=sg AIy [L4] Tryz.func150
def pU (n:Nat) (g:BA) (h:LD) (i:Int) (j:BA) (k:Int) (l:Int) (m:LD) (o:LD) (p:LD) (b:LD) (c:LD):Option (Int×LD×Int×BA×Int×Int×LD×LD×LD×LD×LD):=
 AW (IntKind.wrap .i64 (l+1)) fun a=>AW (IntKind.wrap .i64 (a - 1)) fun d=>B5 (.str g) [.int .i64 d] c fun e=>AW (IntKind.wrap .i64 (a - 1)) fun f=>some (f,h,i,j,k,a,e,m,o,p,b)
noncomputable def X65:AH:=⟨65,Tryz.f65,true,[.v 0,.s],[.c [.q 16,.w 1,.z,.w 2,.w 3,.s,.z,.z,.w 4,.w 5],.l4,.l16,.t .flat true 2,.l9,.i2],[⟨.one (.z),[.c [.q 16,.x 0,.z,.x 1,.x 2,.s,.z,.z,.x 3,.w 5],.o,.o,.o,.o,.i2],[.l4,.l16,.t .flat true 2,.l9]⟩],Int×LD×Int×BA×Int×Int×LD×LD×LD×LD×LD,ii,pU,.g [.move (.e 1),.move (.e 2),.move (.e 3),.move (.e 4)] [] .e,[],none,[]⟩
def k65:Kz:=sg X65 [] Tryz.func65
def B3 (n:Nat) (l:Int) (m:Int) (o:Int) (p:Int) (q:Int) (r:BA) (s:LD) (t:Int) (u:BA) (b:Int) (c:Int) (d:LD) (e:LD) (f:LD) (g:LD) (h:LD):Option (Int×LD×Int×BA×Int×Int×LD×LD×LD×LD×LD):=
 Gf [.agg [.int .u8 l,.int .i64 m,.int .i64 o,.int .i64 p,.list false 1 [],.list false 1 [],.int .i64 q,.str r,.list false 1 []]] fun i=>Bw 128 g i fun a=>AO a fun j=>AW (IntKind.wrap .i64 (j - 1)) fun k=>some (k,s,t,u,b,c,h,d,e,f,a)
noncomputable def ABy:AH:=⟨69,Tryz.f69,true,[.p (.ext 0) 0,.mix [.y,.z,.z,.z,.nils false 1,.nils false 1,.z,.str,.nils false 1]],[.c [.q 16,.ow (.ext 1),.z,.ow (.ext 2),.ow (.ext 3),.str,.z,.z,.ow (.ext 4),.ow (.ext 5)],.l true 4,.l true 16,.t .flat true 2,.l true 9,.t (.fmap false) true 2],[⟨.one (.z),[.c [.q 16,.ow (.loc 0),.z,.ow (.loc 1),.ow (.loc 2),.str,.z,.z,.ow (.loc 3),.ow (.ext 5)],.gone,.gone,.gone,.gone,.t (.fmap false) true 2],[.l true 4,.l true 16,.t .flat true 2,.l true 9]⟩],Int×LD×Int×BA×Int×Int×LD×LD×LD×LD×LD,ii,B3,.g [.move (.ext 1),.move (.ext 2),.move (.ext 3)] [] .e,[],none,[]⟩
def G7:Kz:=sg ABy [] Tryz.func69
theorem sK (n:Nat):∀⦃m o p q r s t u w a b e f g i j x y z A B C E F G k l⦄,B3 n m o p q r s t u w a b e f g i j=some (x,y,z,A,B,C,E,F,G,k,l)->
  C0 Tryz.prog inv 69 [.c (.ptr (.ext 0) 0),.agg [.d (.int .u8 m),.d (.int .i64 o),.d (.int .i64 p),.d (.int .i64 q),.nils false 1,.nils false 1,.d (.int .i64 r),.d (.str s),.nils false 1]] [.cells [.d (.list true 16 t),.ow (.ext 1),.d (.int .i64 u),.ow (.ext 2),.ow (.ext 3),.d (.str w),.d (.int .i64 a),.d (.int .i64 b),.ow (.ext 4),.ow (.ext 5)],.tree .row true 4 e none,.tree .row true 16 f none,.tree .flat true 2 g none,.tree .row true 9 i none,.tree (.fmap false) true 2 j none] (.v (.d (.int .i64 x))) [.cells [.d (.list true 16 y),.ow (.loc 0),.d (.int .i64 z),.ow (.loc 1),.ow (.loc 2),.d (.str A),.d (.int .i64 B),.d (.int .i64 C),.ow (.loc 3),.ow (.ext 5)],.gone,.gone,.gone,.gone,.tree (.fmap false) true 2 E none] [.tree .row true 4 F none,.tree .row true 16 G none,.tree .flat true 2 k none,.tree .row true 9 l none]:=fun m o p q r s t u w a b e f g i j x y z A B C E F G k l h=>G7.ok n [.I m,.I o,.I p,.I q,.I r,.S s,.L t,.I u,.S w,.I a,.I b,.L e,.L f,.L g,.L i,.L j] _ h _ _ _ _ _ _ rfl rfl rfl rfl _ rfl
def MO (n:Nat) (J:BA) (K:LD) (L:Int) (M:BA) (N:Int) (O:Int) (P:LD) (Q:LD) (R:LD) (b:LD) (c:LD):Option (LD×Int×BA×Int×Int×LD×LD×LD×LD×LD):=
 BW (pU n J K L M N O P Q R b c) fun a d e f g h i j k l m=>BW (B3 n 1 a 0 0 0 ByteArray.empty d e f g h j k l m i) fun S o p q r s t u v w x=>BW (B3 n 7 a 0 0 0 ByteArray.empty o p q r s u v w x t) fun T y z A B C E F G H I=>some (y,z,A,B,C,E,F,G,H,I)
noncomputable def AJb:AH:=⟨155,Tryz.f155,true,[.v 0,.s],[.c [.q 16,.w 1,.z,.w 2,.w 3,.s,.z,.z,.w 4,.w 5],.l4,.l16,.t .flat true 2,.l9,.i2],[⟨.tup [],[.c [.q 16,.x 0,.z,.x 1,.x 2,.s,.z,.z,.x 3,.w 5],.o,.o,.o,.o,.i2],[.l4,.l16,.t .flat true 2,.l9]⟩],LD×Int×BA×Int×Int×LD×LD×LD×LD×LD,ii,MO,.n 0 (.w (.w .e)),[],none,[]⟩
def AJc:Kz:=sg AJb [G7,k65] Tryz.func155
def lO (n:Nat) (a:LD):Option LD:=
 (Yq a (some ([]:LD)) (Be (HY a=true) (Bw 16 ([]:LD) a fun b=>some b)))
noncomputable def AJd:AH:=⟨220,Tryz.f220,true,[.f 1],[],[⟨.one (.w (.o 0)),[],[.f1]⟩],LD,ii,lO,.b (.g [.treeS 2 false 1] [] .e) .e,[],none,[]⟩
def AJe:Kz:=sg AJd [] Tryz.func220
def KQ (n:Nat) (i:Int) (r:BA) (j:LD) (k:LD) (l:Int) (m:BA) (o:Int) (p:Int) (q:LD) (b:LD) (c:LD) (d:LD) (a:LD):Option (Int×Int×LD×Int×BA×Int×Int×LD×LD×LD×LD×LD×LD):=
 (findF false (.str r) a (fun e=>B1 e fun f=>Au (lO n j) fun g=>some (i,f,k,l,m,o,p,q,b,c,d,a,g)) (Au (lO n j) fun h=>some (i,0,k,l,m,o,p,q,b,c,d,a,h)))
noncomputable def AJf:AH:=⟨156,Tryz.f156,true,[.v 0,.y,.agg [.s,.f 1]],[.c [.q 16,.w 1,.z,.w 2,.w 3,.s,.z,.z,.w 4,.w 5],.l4,.l16,.t .flat true 2,.l9,.i2],[⟨.one (.mix [.y,.z,.k 0,.k 0,.x 0,.x 1,.k 0,.cs ByteArray.empty,.x 2]),[.c [.q 16,.w 1,.z,.w 2,.w 3,.s,.z,.z,.w 4,.w 5],.l4,.l16,.t .flat true 2,.l9,.i2],[.te .row false 1,.f1,.te .row false 1]⟩],Int×Int×LD×Int×BA×Int×Int×LD×LD×LD×LD×LD×LD,ii,KQ,.n 0 (.g [.treeC (.o 32) 4 false 1,.treeC (.o 32) 8 false 1] [] .e),[],none,[]⟩
def xC:Kz:=sg AJf [AJe] Tryz.func156
def H5:Nat->Int->LD->Int->BA->Int->Int->LD->LD->LD->LD->LD->Int->Option (LD×Int×BA×Int×Int×LD×LD×LD×LD×LD)
 | 0,_,_,_,_,_,_,_,_,_,_,_,_=>none
 | n+1,w,x,a,b,c,d,e,f,g,h,i,j=>
  AW (IntKind.wrap .i64 j) fun k=>BW (B3 n 3 k 0 0 w ByteArray.empty x a b c d e f g h i) fun y l m o p q r s t u v=>some (l,m,o,p,q,r,s,t,u,v)
def We (n:Nat) (r:Int) (p:Int) (s:BA) (t:BA) (u:BA) (v:LD) (w:LD) (x:Int) (q:LD) (a:Int) (b:BA) (c:Int) (d:Int) (e:LD) (f:LD) (g:LD) (h:LD) (i:LD):Option (LD×Int×BA×Int×Int×LD×LD×LD×LD×LD):=
 B5 (.int .u8 1) [.int .u8 1] [] fun j=>B5 (.int .u8 2) [.int .u8 2] j fun k=>B5 (.int .u8 3) [.int .u8 3] k fun l=>(findF false (.int .u8 r) l (fun m=>Ha m fun o=>H5 n p q a b c d e f g h i o) (H5 n p q a b c d e f g h i 0))
noncomputable def AJg:AH:=⟨158,Tryz.f158,true,[.v 0,.agg [.y,.z,.s,.s,.s,.f 1,.q 8,.z]],[.c [.q 16,.w 1,.z,.w 2,.w 3,.s,.z,.z,.w 4,.w 5],.l4,.l16,.t .flat true 2,.l9,.i2],[⟨.tup [],[.c [.q 16,.x 0,.z,.x 1,.x 2,.s,.z,.z,.x 3,.w 5],.o,.o,.o,.o,.i2],[.l4,.l16,.t .flat true 2,.l9]⟩],LD×Int×BA×Int×Int×LD×LD×LD×LD×LD,ii,We,.e,[⟨7,[0,3,4],[.e 0,.e 1,.e 2,.e 3,.e 4,.e 5,.o 0],320,[.v 0,.u 0,.y],[.c [.q 16,.w 1,.z,.w 2,.w 3,.s,.z,.z,.w 4,.w 5],.l4,.l16,.t .flat true 2,.l9,.i2,.c [.y,.z,.s,.s,.s,.f 1,.q 8,.z]],fun n a l9 b d g h i j l16 k l _ m _ _ _ _ _ _=>H5 n m l9 b d g h i j l16 k l a,.w .e⟩],none,[]⟩
def AJh:Kz:=sg AJg [G7] Tryz.func158
def Xw (n:Nat) (o:Int) (p:Int) (q:Int) (r:Int) (s:Int) (t:BA) (u:LD) (v:Int) (w:BA) (b:Int) (c:Int) (d:LD) (e:LD) (f:LD) (g:LD) (h:LD) (i:LD) (j:LD) (k:LD):Option (Int×LD×Int×BA×Int×Int×LD×LD×LD×LD×LD):=
 Bw 128 g ([.agg [.int .u8 o,.int .i64 p,.int .i64 q,.int .i64 r,.list false 1 i,.list false 1 j,.int .i64 s,.str t,.list false 1 k]]) fun a=>AO a fun l=>AW (IntKind.wrap .i64 (l - 1)) fun m=>some (m,u,v,w,b,c,h,d,e,f,a)
noncomputable def X69:AH:=⟨69,Tryz.f69,true,[.v 0,.mix [.y,.z,.z,.z,.w 6,.w 7,.z,.s,.w 8]],[.c [.q 16,.w 1,.z,.w 2,.w 3,.s,.z,.z,.w 4,.w 5],.l4,.l16,.t .flat true 2,.l9,.i2,.f1,.f1,.f1],[⟨.one (.z),[.c [.q 16,.x 0,.z,.x 1,.x 2,.s,.z,.z,.x 3,.w 5],.o,.o,.o,.o,.i2,.o,.o,.o],[.l4,.l16,.t .flat true 2,.l9]⟩],Int×LD×Int×BA×Int×Int×LD×LD×LD×LD×LD,ii,Xw,.g [.move (.e 1),.move (.e 2),.move (.e 3)] [] .e,[],none,[]⟩
def k69:Kz:=sg X69 [] Tryz.func69
def H6:Nat->BA->LD->LD->Int->BA->Int->Int->LD->LD->LD->LD->LD->Int->Option (LD×Int×BA×Int×Int×LD×LD×LD×LD×LD)
 | 0,_,_,_,_,_,_,_,_,_,_,_,_,_=>none
 | n+1,J,K,L,a,b,c,d,e,f,g,h,i,j=>
  K2 (KQ n j J K L a b c d e f g h i) fun k l m o p q r s t u v w x=>BW (Xw n k l 0 0 0 ByteArray.empty m o p q r s t u v w ([]:LD) x ([]:LD)) fun M y z A B C E F G H I=>some (y,z,A,B,C,E,F,G,H,I)
def Wf (n:Nat) (s:Int) (t:Int) (u:BA) (v:BA) (p:BA) (q:LD) (w:LD) (x:Int) (r:LD) (a:Int) (b:BA) (c:Int) (d:Int) (e:LD) (f:LD) (g:LD) (h:LD) (i:LD):Option (LD×Int×BA×Int×Int×LD×LD×LD×LD×LD):=
 B5 (.int .u8 4) [.int .u8 4] [] fun j=>B5 (.int .u8 5) [.int .u8 5] j fun k=>B5 (.int .u8 6) [.int .u8 6] k fun l=>(findF false (.int .u8 s) l (fun m=>Ha m fun o=>H6 n p q r a b c d e f g h i o) (H6 n p q r a b c d e f g h i 0))
noncomputable def AJj:AH:=⟨159,Tryz.f159,true,[.v 0,.agg [.y,.z,.s,.s,.s,.f 1,.q 8,.z]],[.c [.q 16,.w 1,.z,.w 2,.w 3,.s,.z,.z,.w 4,.w 5],.l4,.l16,.t .flat true 2,.l9,.i2],[⟨.tup [],[.c [.q 16,.x 0,.z,.x 1,.x 2,.s,.z,.z,.x 3,.w 5],.o,.o,.o,.o,.i2],[.l4,.l16,.t .flat true 2,.l9]⟩],LD×Int×BA×Int×Int×LD×LD×LD×LD×LD,ii,Wf,.e,[⟨7,[0,3,4],[.e 0,.e 1,.e 2,.e 3,.e 4,.e 5,.o 0],320,[.v 0,.u 0,.y],[.c [.q 16,.w 1,.z,.w 2,.w 3,.s,.z,.z,.w 4,.w 5],.l4,.l16,.t .flat true 2,.l9,.i2,.c [.y,.z,.s,.s,.s,.f 1,.q 8,.z]],fun n a l9 b d g h i j l16 k l _ _ _ _ m p _ _=>H6 n m p l9 b d g h i j l16 k l a,.n 0 (.w .e)⟩],none,[]⟩
def AJk:Kz:=sg AJj [xC,k69] Tryz.func159
def Wg (n:Nat) (v:Int) (y:Int) (z:BA) (A:BA) (B:BA) (C:LD) (E:LD) (F:Int) (w:LD) (a:Int) (b:BA) (c:Int) (d:Int) (e:LD) (f:LD) (g:LD) (h:LD) (i:LD):Option (LD×Int×BA×Int×Int×LD×LD×LD×LD×LD):=
 AW (IntKind.wrap .i64 v) fun j=>BW (B3 n 9 j 0 0 0 ByteArray.empty w a b c d e f g h i) fun x k l m o p q r s t u=>some (k,l,m,o,p,q,r,s,t,u)
noncomputable def AJl:AH:=⟨160,Tryz.f160,true,[.v 0,.agg [.y,.z,.s,.s,.s,.f 1,.q 8,.z]],[.c [.q 16,.w 1,.z,.w 2,.w 3,.s,.z,.z,.w 4,.w 5],.l4,.l16,.t .flat true 2,.l9,.i2],[⟨.tup [],[.c [.q 16,.x 0,.z,.x 1,.x 2,.s,.z,.z,.x 3,.w 5],.o,.o,.o,.o,.i2],[.l4,.l16,.t .flat true 2,.l9]⟩],LD×Int×BA×Int×Int×LD×LD×LD×LD×LD,ii,Wg,.w .e,[],none,[]⟩
def AJm:Kz:=sg AJl [G7] Tryz.func160
def Wh (n:Nat) (v:Int) (y:Int) (z:BA) (A:BA) (B:BA) (C:LD) (E:LD) (F:Int) (w:LD) (a:Int) (b:BA) (c:Int) (d:Int) (e:LD) (f:LD) (g:LD) (h:LD) (i:LD):Option (LD×Int×BA×Int×Int×LD×LD×LD×LD×LD):=
 AW (IntKind.wrap .i64 v) fun j=>BW (B3 n 10 j 0 0 0 ByteArray.empty w a b c d e f g h i) fun x k l m o p q r s t u=>some (k,l,m,o,p,q,r,s,t,u)
noncomputable def AJn:AH:=⟨161,Tryz.f161,true,[.v 0,.agg [.y,.z,.s,.s,.s,.f 1,.q 8,.z]],[.c [.q 16,.w 1,.z,.w 2,.w 3,.s,.z,.z,.w 4,.w 5],.l4,.l16,.t .flat true 2,.l9,.i2],[⟨.tup [],[.c [.q 16,.x 0,.z,.x 1,.x 2,.s,.z,.z,.x 3,.w 5],.o,.o,.o,.o,.i2],[.l4,.l16,.t .flat true 2,.l9]⟩],LD×Int×BA×Int×Int×LD×LD×LD×LD×LD,ii,Wh,.w .e,[],none,[]⟩
def AJo:Kz:=sg AJn [G7] Tryz.func161
def H7:Nat->LD->Int->BA->Int->Int->LD->LD->LD->LD->LD->Int->LD->Option (LD×Int×BA×Int×Int×LD×LD×LD×LD×LD)
 | 0,_,_,_,_,_,_,_,_,_,_,_,_=>none
 | n+1,x,a,b,c,d,e,f,g,h,i,j,k=>
  AO x fun l=>BW (B3 n 17 j l 0 0 ByteArray.empty k a b c d e f g h i) fun y m o p q r s t u v w=>some (m,o,p,q,r,s,t,u,v,w)
mutual
def Gv:Nat->BA->LD->LD->Int->BA->Int->Int->LD->LD->LD->LD->LD->Int->Int->Int->LD->Option (LD×Int×BA×Int×Int×LD×LD×LD×LD×LD)
 | 0,_,_,_,_,_,_,_,_,_,_,_,_,_,_,_,_=>none
 | n+1,q,p,r,a,b,c,d,e,f,g,h,i,m,j,k,l=>
  (if k<m then Ae r k fun s=>BZ s fun o t x y z A B C E F G H I J K L=>(if o=3 then (if t=q then H7 n p a b c d e f g h i j l else H8 n q p r a b c d e f g h i m j k l o)else H8 n q p r a b c d e f g h i m j k l o)else H7 n p a b c d e f g h i j l)
def H8:Nat->BA->LD->LD->Int->BA->Int->Int->LD->LD->LD->LD->LD->Int->Int->Int->LD->Int->Option (LD×Int×BA×Int×Int×LD×LD×LD×LD×LD)
 | 0,_,_,_,_,_,_,_,_,_,_,_,_,_,_,_,_,_=>none
 | n+1,q,p,r,a,b,c,d,e,f,g,h,i,m,j,k,l,o=>
  (if o=3 then AW (IntKind.wrap .i64 (j+1)) fun u=>AW (IntKind.wrap .i64 (k+1)) fun v=>Gv n q p r a b c d e f g h i m u v l else AW (IntKind.wrap .i64 (k+1)) fun w=>Gv n q p r a b c d e f g h i m j w l)
end
def Wi (n:Nat) (o:Int) (p:Int) (l:BA) (q:BA) (r:BA) (s:LD) (m:LD) (t:Int) (a:LD) (b:Int) (c:BA) (d:Int) (e:Int) (f:LD) (g:LD) (h:LD) (i:LD) (j:LD):Option (LD×Int×BA×Int×Int×LD×LD×LD×LD×LD):=
 AO a fun k=>Gv n l m a b c d e f g h i j k 0 0 a
noncomputable def AJp:AH:=⟨162,Tryz.f162,true,[.v 0,.agg [.y,.z,.s,.s,.s,.f 1,.q 8,.z]],[.c [.q 16,.w 1,.z,.w 2,.w 3,.s,.z,.z,.w 4,.w 5],.l4,.l16,.t .flat true 2,.l9,.i2],[⟨.tup [],[.c [.q 16,.x 0,.z,.x 1,.x 2,.s,.z,.z,.x 3,.w 5],.o,.o,.o,.o,.i2],[.l4,.l16,.t .flat true 2,.l9]⟩],LD×Int×BA×Int×Int×LD×LD×LD×LD×LD,ii,Wi,.e,[⟨58,[0,3,4,11,12,13],[.e 0,.e 1,.e 2,.e 3,.e 4,.e 5,.o 0],288,[.v 0,.u 0,.z,.q 16,.z,.z],[.c [.q 16,.w 1,.z,.w 2,.w 3,.s,.z,.z,.w 4,.w 5],.l4,.l16,.t .flat true 2,.l9,.i2,.c [.y,.z,.s,.s,.s,.f 1,.q 8,.z]],fun n l l9 m p r a b d g h i l16 j k _ _ B _ _ _ A _=>Gv n B A l9 a b d g h i l16 j k m l p r,.e⟩,
 ⟨7475,[0,3,4,6,11,12,13],[.e 0,.e 1,.e 2,.e 3,.e 4,.e 5,.o 0,.o 384],768,[.v 0,.u 0,.z,.u 384,.q 16,.z,.z],[.c [.q 16,.w 1,.z,.w 2,.w 3,.s,.z,.z,.w 4,.w 5],.l4,.l16,.t .flat true 2,.l9,.i2,.c [.y,.z,.s,.s,.s,.f 1,.q 8,.z],.c [.y,.s,.q 4,.y,.s,.q 3,.q 15,.y,.z,.s,.s,.s,.f 1,.q 8,.z,.z]],fun n l l9 m p r a b d g h i l16 j k _ _ B _ _ _ A _ C _ _ _ _ _ _ _ _ _ _ _ _ _ _ _=>H8 n B A l9 a b d g h i l16 j k m l p r C,.e⟩,
 ⟨15,[0,3,4],[.e 0,.e 1,.e 2,.e 3,.e 4,.e 5,.o 0],768,[.v 0,.u 0,.z],[.c [.q 16,.w 1,.z,.w 2,.w 3,.s,.z,.z,.w 4,.w 5],.l4,.l16,.t .flat true 2,.l9,.i2,.c [.y,.z,.s,.s,.s,.f 1,.q 8,.z]],fun n E F a b d g h i l16 j k _ _ _ _ _ _ A _=>H7 n A a b d g h i l16 j k E F,.w .e⟩],none,[]⟩
def AJq:Kz:=sg AJp [G7] Tryz.func162
def ZN (n:Nat) (i:BA) (j:Int) (k:BA) (l:LD) (e:Int) (f:Int) (g:BA) (d:BA) (h:BA) (a:LD) (b:LD) (c:Int):Option (Bool×Int×Int×BA×BA×BA×LD×LD×Int):=
 (if i=d then some (true,e,f,g,d,h,a,b,c)else some (false,e,f,g,d,h,a,b,c))
noncomputable def AJr:AH:=⟨226,Tryz.f226,false,[.agg [.s,.y,.s,.q 3],.v 0],[.c [.y,.z,.s,.s,.s,.f 1,.q 8,.z]],[⟨.one (.b),[.c [.y,.z,.s,.s,.s,.f 1,.q 8,.z]],[]⟩],Bool×Int×Int×BA×BA×BA×LD×LD×Int,ii,ZN,.e,[],none,[]⟩
def AJs:Kz:=sg AJr [] Tryz.func226
def H9:Nat->LD->Int->Int->Int->Int->BA->BA->BA->LD->LD->Int->Option (Int×Int×Int×BA×BA×BA×LD×LD×Int)
 | 0,_,_,_,_,_,_,_,_,_,_,_=>none
 | n+1,A,b,a,c,d,e,f,g,h,i,j=>
  (if a<b then Ae A a fun t=>Bt t fun u v w x=>jF (ZN n u v w x c d e f g h i j) fun y k l m o p q r s=>(if y=true then some (a,k,l,m,o,p,q,r,s)else AW (IntKind.wrap .i64 (a+1)) fun z=>H9 n A b z k l m o p q r s)else some ((-1),c,d,e,f,g,h,i,j))
def Wj (n:Nat) (b:LD) (c:Int) (d:Int) (e:BA) (f:BA) (g:BA) (h:LD) (i:LD) (j:Int):Option (Int×Int×Int×BA×BA×BA×LD×LD×Int):=
 AO b fun a=>H9 n b a 0 c d e f g h i j
noncomputable def AJt:AH:=⟨224,Tryz.f224,false,[.q 4,.one (.fn 226 [.e 0])],[.c [.y,.z,.s,.s,.s,.f 1,.q 8,.z]],[⟨.one (.z),[.c [.y,.z,.s,.s,.s,.f 1,.q 8,.z]],[]⟩],Int×Int×Int×BA×BA×BA×LD×LD×Int,ii,Wj,.e,[⟨26,[0,1,4,7,8],[.e 0],128,[.q 4,.one (.fn 226 [.e 0]),.k 0,.z,.z],[.c [.y,.z,.s,.s,.s,.f 1,.q 8,.z]],H9,.e⟩],none,[]⟩
def AJu:Kz:=sg AJt [AJs] Tryz.func224
def Gw:Nat->Int->BA->LD->Int->BA->Int->Int->LD->LD->LD->LD->LD->Int->Int->LD->Option (LD×LD×Int×BA×Int×Int×LD×LD×LD×LD×LD)
 | 0,_,_,_,_,_,_,_,_,_,_,_,_,_,_,_=>none
 | n+1,m,o,p,g,h,i,j,k,l,a,b,c,f,d,e=>
  (if d<f then Ae p d fun q=>BZ q fun r s t w x y z A B C E F G H I J=>(if r=m then (if s=o then some (t,e,g,h,i,j,k,l,a,b,c)else AW (IntKind.wrap .i64 (d+1)) fun u=>Gw n m o p g h i j k l a b c f u e)else AW (IntKind.wrap .i64 (d+1)) fun v=>Gw n m o p g h i j k l a b c f v e)else some (([]:LD),e,g,h,i,j,k,l,a,b,c))
def UR (n:Nat) (f:Int) (g:BA) (a:LD) (h:Int) (i:BA) (j:Int) (k:Int) (l:LD) (m:LD) (b:LD) (c:LD) (d:LD):Option (LD×LD×Int×BA×Int×Int×LD×LD×LD×LD×LD):=
 AO a fun e=>Gw n f g a h i j k l m b c d e 0 a
noncomputable def AJv:AH:=⟨225,Tryz.f225,false,[.v 0,.y,.s],[.c [.q 16,.w 1,.z,.w 2,.w 3,.s,.z,.z,.w 4,.w 5],.l4,.l16,.t .flat true 2,.l9,.i2],[⟨.one (.q 4),[.c [.q 16,.w 1,.z,.w 2,.w 3,.s,.z,.z,.w 4,.w 5],.l4,.l16,.t .flat true 2,.l9,.i2],[]⟩],LD×LD×Int×BA×Int×Int×LD×LD×LD×LD×LD,ii,UR,.e,[⟨26,[1,2,6,13,14,15],[.e 0,.e 1,.e 2,.e 3,.e 4,.e 5],256,[.y,.s,.one (.nils true 4),.q 16,.z,.z],[.c [.q 16,.w 1,.z,.w 2,.w 3,.s,.z,.z,.w 4,.w 5],.l4,.l16,.t .flat true 2,.l9,.i2],fun n i j k a b d l m o p r l9 f g h=>Gw n i j k l m o p r l9 f g h a b d,.e⟩],none,[]⟩
def ABz:Kz:=sg AJv [] Tryz.func225
def Wk (n:Nat) (W:Int) (Z:Int) (j:BA) (s4:BA) (s5:BA) (l6:LD) (X:LD) (z8:Int) (Y:LD) (a:Int) (b:BA) (c:Int) (d:Int) (e:LD) (f:LD) (g:LD) (h:LD) (i:LD):Option (LD×Int×BA×Int×Int×LD×LD×LD×LD×LD):=
 (if W=19 then AO X fun k=>BW (B3 n 11 0 k 0 0 j Y a b c d e f g h i) fun ae l m o p q r s t u v=>some (l,m,o,p,q,r,s,t,u,v)else BW (UR n 2 j Y a b c d e f g h i) fun w x y z A B C E F G H=>jF (Wj n w W Z j s4 s5 l6 X z8) fun I af ag J ah ai aj K ak=>AO K fun L=>BW (B3 n 12 I L 0 0 J x y z A B C E F G H) fun am M N O P Q R S T U V=>some (M,N,O,P,Q,R,S,T,U,V))
noncomputable def AJw:AH:=⟨163,Tryz.f163,true,[.v 0,.agg [.y,.z,.s,.s,.s,.f 1,.q 8,.z]],[.c [.q 16,.w 1,.z,.w 2,.w 3,.s,.z,.z,.w 4,.w 5],.l4,.l16,.t .flat true 2,.l9,.i2],[⟨.tup [],[.c [.q 16,.x 0,.z,.x 1,.x 2,.s,.z,.z,.x 3,.w 5],.o,.o,.o,.o,.i2],[.l4,.l16,.t .flat true 2,.l9]⟩],LD×Int×BA×Int×Int×LD×LD×LD×LD×LD,ii,Wk,.b (.w .e) (.n 1 (.w .e)),[],none,[]⟩
def AJx:Kz:=sg AJw [G7,AJu,ABz] Tryz.func163
def IA:Nat->LD->Int->BA->Int->Int->LD->LD->LD->LD->LD->Int->Option (LD×Int×BA×Int×Int×LD×LD×LD×LD×LD)
 | 0,_,_,_,_,_,_,_,_,_,_,_=>none
 | n+1,w,a,b,c,d,e,f,g,h,i,j=>
  AW (IntKind.wrap .i64 j) fun k=>BW (B3 n 19 k 0 0 0 ByteArray.empty w a b c d e f g h i) fun x l m o p q r s t u v=>some (l,m,o,p,q,r,s,t,u,v)
def Wl (n:Nat) (t:Int) (u:Int) (v:BA) (w:BA) (x:BA) (y:LD) (z:LD) (A:Int) (s:LD) (a:Int) (b:BA) (c:Int) (d:Int) (e:LD) (f:LD) (g:LD) (h:LD) (i:LD):Option (LD×Int×BA×Int×Int×LD×LD×LD×LD×LD):=
 B5 (.int .u8 21) [.int .u8 6] [] fun j=>B5 (.int .u8 23) [.int .u8 7] j fun k=>B5 (.int .u8 26) [.int .u8 8] k fun l=>B5 (.int .u8 27) [.int .u8 9] l fun m=>B5 (.int .u8 29) [.int .u8 10] m fun o=>B5 (.int .u8 31) [.int .u8 11] o fun p=>(findF false (.int .u8 t) p (fun q=>Ha q fun r=>IA n s a b c d e f g h i r) (IA n s a b c d e f g h i 0))
noncomputable def AJy:AH:=⟨164,Tryz.f164,true,[.v 0,.agg [.y,.z,.s,.s,.s,.f 1,.q 8,.z]],[.c [.q 16,.w 1,.z,.w 2,.w 3,.s,.z,.z,.w 4,.w 5],.l4,.l16,.t .flat true 2,.l9,.i2],[⟨.tup [],[.c [.q 16,.x 0,.z,.x 1,.x 2,.s,.z,.z,.x 3,.w 5],.o,.o,.o,.o,.i2],[.l4,.l16,.t .flat true 2,.l9]⟩],LD×Int×BA×Int×Int×LD×LD×LD×LD×LD,ii,Wl,.e,[⟨7,[0,4],[.e 0,.e 1,.e 2,.e 3,.e 4,.e 5],416,[.v 0,.y],[.c [.q 16,.w 1,.z,.w 2,.w 3,.s,.z,.z,.w 4,.w 5],.l4,.l16,.t .flat true 2,.l9,.i2],fun n a l9 b d g h i j l16 k l=>IA n l9 b d g h i j l16 k l a,.w .e⟩],none,[]⟩
def AJz:Kz:=sg AJy [G7] Tryz.func164
def IB:Nat->LD->Int->BA->Int->Int->LD->LD->LD->LD->LD->Int->Option (LD×Int×BA×Int×Int×LD×LD×LD×LD×LD)
 | 0,_,_,_,_,_,_,_,_,_,_,_=>none
 | n+1,w,a,b,c,d,e,f,g,h,i,j=>
  AW (IntKind.wrap .i64 j) fun k=>BW (B3 n 20 k 0 0 0 ByteArray.empty w a b c d e f g h i) fun x l m o p q r s t u v=>some (l,m,o,p,q,r,s,t,u,v)
def Wm (n:Nat) (k:Int) (l:Int) (m:BA) (o:BA) (p:BA) (q:LD) (r:LD) (s:Int) (j:LD) (a:Int) (b:BA) (c:Int) (d:Int) (e:LD) (f:LD) (g:LD) (h:LD) (i:LD):Option (LD×Int×BA×Int×Int×LD×LD×LD×LD×LD):=
 (if k=30 then IB n j a b c d e f g h i 10 else IB n j a b c d e f g h i 6)
noncomputable def AKa:AH:=⟨165,Tryz.f165,true,[.v 0,.agg [.y,.z,.s,.s,.s,.f 1,.q 8,.z]],[.c [.q 16,.w 1,.z,.w 2,.w 3,.s,.z,.z,.w 4,.w 5],.l4,.l16,.t .flat true 2,.l9,.i2],[⟨.tup [],[.c [.q 16,.x 0,.z,.x 1,.x 2,.s,.z,.z,.x 3,.w 5],.o,.o,.o,.o,.i2],[.l4,.l16,.t .flat true 2,.l9]⟩],LD×Int×BA×Int×Int×LD×LD×LD×LD×LD,ii,Wm,.e,[⟨15,[0,4],[.e 0,.e 1,.e 2,.e 3,.e 4,.e 5],192,[.v 0,.y],[.c [.q 16,.w 1,.z,.w 2,.w 3,.s,.z,.z,.w 4,.w 5],.l4,.l16,.t .flat true 2,.l9,.i2],fun n a l9 b d g h i j l16 k l=>IB n l9 b d g h i j l16 k l a,.w .e⟩],none,[]⟩
def AKb:Kz:=sg AKa [G7] Tryz.func165
def IC:Nat->BA->LD->LD->Int->BA->Int->Int->LD->LD->LD->LD->LD->Int->Bool->Option (LD×Int×BA×Int×Int×LD×LD×LD×LD×LD)
 | 0,_,_,_,_,_,_,_,_,_,_,_,_,_,_=>none
 | n+1,L,M,K,a,b,c,d,e,f,g,h,i,j,k=>
  (if k=true then K2 (KQ n j L M K a b c d e f g h i) fun l m o p q r s t u v w x y=>BW (Xw n l m 0 0 0 ByteArray.empty o p q r s t u v w x ([]:LD) y ([]:LD)) fun N z A B C E F G H I J=>some (z,A,B,C,E,F,G,H,I,J)else some (K,a,b,c,d,i,e,f,g,h))
def Wn (n:Nat) (x:Int) (y:Int) (z:BA) (A:BA) (u:BA) (v:LD) (B:LD) (C:Int) (w:LD) (a:Int) (b:BA) (c:Int) (d:Int) (e:LD) (f:LD) (g:LD) (h:LD) (i:LD):Option (LD×Int×BA×Int×Int×LD×LD×LD×LD×LD):=
 B5 (.int .u8 24) [.int .u8 22] [] fun j=>B5 (.int .u8 25) [.int .u8 23] j fun k=>B5 (.int .u8 28) [.int .u8 21] k fun l=>B5 (.int .u8 32) [.int .u8 24] l fun m=>B5 (.int .u8 33) [.int .u8 25] m fun o=>B5 (.int .u8 34) [.int .u8 26] o fun p=>B5 (.int .u8 35) [.int .u8 28] p fun q=>B5 (.int .u8 36) [.int .u8 29] q fun r=>(findF false (.int .u8 x) r (fun s=>Ha s fun t=>IC n u v w a b c d e f g h i t true) (IC n u v w a b c d e f g h i 0 false))
noncomputable def AKc:AH:=⟨166,Tryz.f166,true,[.v 0,.agg [.y,.z,.s,.s,.s,.f 1,.q 8,.z]],[.c [.q 16,.w 1,.z,.w 2,.w 3,.s,.z,.z,.w 4,.w 5],.l4,.l16,.t .flat true 2,.l9,.i2],[⟨.tup [],[.c [.q 16,.x 0,.z,.x 1,.x 2,.s,.z,.z,.x 3,.w 5],.o,.o,.o,.o,.i2],[.l4,.l16,.t .flat true 2,.l9]⟩],LD×Int×BA×Int×Int×LD×LD×LD×LD×LD,ii,Wn,.e,[⟨7,[0,3,4,5],[.e 0,.e 1,.e 2,.e 3,.e 4,.e 5,.o 0],608,[.v 0,.u 0,.y,.b],[.c [.q 16,.w 1,.z,.w 2,.w 3,.s,.z,.z,.w 4,.w 5],.l4,.l16,.t .flat true 2,.l9,.i2,.c [.y,.z,.s,.s,.s,.f 1,.q 8,.z]],fun n a d l9 h i j k l m l16 p r _ _ _ _ A B _ _=>IC n A B l9 h i j k l m l16 p r a d,.b (.n 0 (.w .e)) (.g [.move (.e 1),.move (.e 2),.move (.e 3),.move (.e 4)] [] .e)⟩],none,[]⟩
def AKd:Kz:=sg AKc [xC,k69] Tryz.func166
def OW (n:Nat) (L:Int) (I:BA) (A:LD) (B:Int) (C:BA) (E:Int) (F:Int) (G:LD) (H:LD) (b:LD) (c:LD) (a:LD):Option (LD×Int×BA×Int×Int×LD×LD×LD×LD×LD):=
 (findF false (.str I) a (fun d=>B1 d fun e=>BW (B3 n 2 e 0 0 0 ByteArray.empty A B C E F G H b c a) fun J f g h i j k l m o p=>some (f,g,h,i,j,k,l,m,o,p)) (BW (B3 n 2 0 0 0 0 ByteArray.empty A B C E F G H b c a) fun K q r s t u v w x y z=>some (q,r,s,t,u,v,w,x,y,z)))
theorem ACa (n:Nat):∀⦃f g i k l m o q r a b e r1 r2 r3 r4 r5 r6 r7 r8 r9 r10⦄,OW n f g i k l m o q r a b e=some (r1,r2,r3,r4,r5,r6,r7,r8,r9,r10)->
  Fc Tryz.prog inv (Qr ()) [(2,.v (.c (.ptr (.ext 0) 0)))] [.d (.int .i64 f),.d (.str g)] [.cells [.ptr (.ext 1) 0],.cells [.d (.list true 16 i),.ow (.ext 2),.d (.int .i64 k),.ow (.ext 3),.ow (.ext 4),.d (.str l),.d (.int .i64 m),.d (.int .i64 o),.ow (.ext 5),.ow (.ext 6)],.tree .row true 4 q none,.tree .row true 16 r none,.tree .flat true 2 a none,.tree .row true 9 b none,.tree (.fmap false) true 2 e none] fun j p n=>j=none/\p=[.cells [.ptr (.ext 1) 0],.cells [.d (.list true 16 r1),.ow (.loc 0),.d (.int .i64 r2),.ow (.loc 1),.ow (.loc 2),.d (.str r3),.d (.int .i64 r4),.d (.int .i64 r5),.ow (.loc 3),.ow (.ext 6)],.gone,.gone,.gone,.gone,.tree (.fmap false) true 2 r6 none]/\n=[.tree .row true 4 r7 none,.tree .row true 16 r8 none,.tree .flat true 2 r9 none,.tree .row true 9 r10 none]:=by
 intro f g i k l m o q r a b e r1 r2 r3 r4 r5 r6 r7 r8 r9 r10 h;unfold OW at h;refine Fc.of' GY FL rM rfl rfl rfl rfl rfl (by kernel_rfl) (fun M hM hI=>?_)
 try cbv
 replace h:=Pk h;rcases h with⟨s,hz,h⟩ | ⟨hz,h⟩
 ·replace h:=JO h;obtain⟨t,rfl,h⟩:=h;refine⟨some _,(M.lock_iff _).2 hz,?_⟩;clear hz
  try cbv
  replace h:=TR h;obtain⟨u,w,x,y,z,A,B,C,E,F,G,hr,h⟩:=h
  first | refine .inr (.inl ⟨[],?_⟩) | refine .inl ⟨[],?_⟩
  try cbv
  refine⟨false,?_⟩
  try cbv
  refine Kx hM hI [.ext 1,.ext 2,.ext 3,.ext 4,.ext 5,.ext 6] (sK _ hr) rfl (by simp) ⟨rfl,⟨rfl,⟨rfl,⟨rfl,⟨rfl,⟨rfl,trivial⟩⟩⟩⟩⟩⟩ ⟨trivial,⟨trivial,⟨trivial,⟨trivial,⟨trivial,⟨trivial,trivial⟩⟩⟩⟩⟩⟩ (by simp) ?_
  clear hr
  try cbv
  refine drawn ?_ ?_
  ·show _=true
   kernel_rfl
  try cbv
  obtain⟨rfl,rfl,rfl,rfl,rfl,rfl,rfl,rfl,rfl,rfl⟩:=XY h;refine⟨_,_,⟨rfl,rfl,rfl⟩,[],?_⟩
  try cbv
  exact⟨[.loc 288,.loc 289,.loc 290,.loc 291],rfl,⟨rfl,⟨rfl,⟨rfl,trivial⟩⟩⟩,⟨rfl,⟨rfl,⟨rfl,⟨rfl,trivial⟩⟩⟩⟩,trivial⟩
 ·refine⟨none,(M.lock_iff _).2 hz,?_⟩;clear hz
  try cbv
  replace h:=TR h;obtain⟨H,I,J,K,L,N,O,P,Q,R,S,hr,h⟩:=h
  first | refine .inr (.inl ⟨[],?_⟩) | refine .inl ⟨[],?_⟩
  try cbv
  refine⟨false,?_⟩
  try cbv
  refine Kx hM hI [.ext 1,.ext 2,.ext 3,.ext 4,.ext 5,.ext 6] (sK _ hr) rfl (by simp) ⟨rfl,⟨rfl,⟨rfl,⟨rfl,⟨rfl,⟨rfl,trivial⟩⟩⟩⟩⟩⟩ ⟨trivial,⟨trivial,⟨trivial,⟨trivial,⟨trivial,⟨trivial,trivial⟩⟩⟩⟩⟩⟩ (by simp) ?_
  clear hr
  try cbv
  refine drawn ?_ ?_
  ·show _=true
   kernel_rfl
  try cbv
  obtain⟨rfl,rfl,rfl,rfl,rfl,rfl,rfl,rfl,rfl,rfl⟩:=XY h;refine⟨_,_,⟨rfl,rfl,rfl⟩,[],?_⟩
  try cbv
  exact⟨[.loc 288,.loc 289,.loc 290,.loc 291],rfl,⟨rfl,⟨rfl,⟨rfl,trivial⟩⟩⟩,⟨rfl,⟨rfl,⟨rfl,⟨rfl,trivial⟩⟩⟩⟩,trivial⟩
mutual
def D4:Nat->LD->Int->LD->Int->BA->Int->Int->LD->LD->LD->LD->LD->Option (LD×Int×BA×Int×Int×LD×LD×LD×LD×LD)
 | 0,_,_,_,_,_,_,_,_,_,_,_,_=>none
 | n+1,b,a,c,d,e,f,g,h,i,j,k,l=>
  (if 0<=a then Ee n b a c d e f g h i j k l true else Ee n b a c d e f g h i j k l false)
def Ee:Nat->LD->Int->LD->Int->BA->Int->Int->LD->LD->LD->LD->LD->Bool->Option (LD×Int×BA×Int×Int×LD×LD×LD×LD×LD)
 | 0,_,_,_,_,_,_,_,_,_,_,_,_,_=>none
 | n+1,b,a,c,d,e,f,g,h,i,j,k,l,m=>
  (if m=true then Ae b a fun o=>B0 o fun p=>BO (OW n a p c d e f g i j k l h) fun q r s t u v w x y z=>AW (IntKind.wrap .i64 (a - 1)) fun A=>D4 n b A q r s t u v w x y z else some (c,d,e,f,g,h,i,j,k,l))
end
def US (n:Nat) (e:LD) (f:Int) (g:BA) (h:Int) (i:Int) (j:LD) (k:LD) (l:LD) (m:LD) (b:LD) (a:LD):Option (LD×Int×BA×Int×Int×LD×LD×LD×LD×LD):=
 AO a fun c=>AW (IntKind.wrap .i64 (c - 1)) fun d=>D4 n a d e f g h i b j k l m
theorem AKe (n:Nat):∀⦃B C E F G H I J K u a r1 r2 r3 r4 r5 r6 r7 r8 r9 r10⦄,US n B C E F G H I J K u a=some (r1,r2,r3,r4,r5,r6,r7,r8,r9,r10)->
    C0 Tryz.prog inv 167 [.c (.yl (.ext 0)),.c (.ptr (.ext 8) 0)] [.rnd Qr [(2,.v (.c (.ptr (.ext 1) 0)))],.cells [.ptr (.ext 2) 0],.cells [.d (.list true 16 B),.ow (.ext 3),.d (.int .i64 C),.ow (.ext 4),.ow (.ext 5),.d (.str E),.d (.int .i64 F),.d (.int .i64 G),.ow (.ext 6),.ow (.ext 7)],.tree .row true 4 H none,.tree .row true 16 I none,.tree .flat true 2 J none,.tree .row true 9 K none,.tree (.fmap false) true 2 u none,.cells [.d (.list false 1 a)]] (.t []) [.rnd Qr [(2,.v (.c (.ptr (.ext 1) 0)))],.cells [.ptr (.ext 2) 0],.cells [.d (.list true 16 r1),.ow (.loc 0),.d (.int .i64 r2),.ow (.loc 1),.ow (.loc 2),.d (.str r3),.d (.int .i64 r4),.d (.int .i64 r5),.ow (.loc 3),.ow (.ext 7)],.gone,.gone,.gone,.gone,.tree (.fmap false) true 2 r6 none,.cells [.d (.list false 1 a)]] [.tree .row true 4 r7 none,.tree .row true 16 r8 none,.tree .flat true 2 r9 none,.tree .row true 9 r10 none]:=by
 intro B C E F G H I J K u a r1 r2 r3 r4 r5 r6 r7 r8 r9 r10 h;unfold US at h;refine C0.of GY FL rM Tryz.func167 rfl (by kernel_rfl) rfl rfl rfl (fun M hM hI=>?_)
 try cbv
 refine K4 ?_
 try cbv
 replace h:=HV M h;obtain⟨L,hz,h⟩:=h;refine⟨L,hz,?_⟩;clear hz
 try cbv
 replace h:=Nf h;obtain⟨y,hz,h⟩:=h;refine⟨y,hz,?_⟩;clear hz
 try cbv
 refine Yo (T:=Nat×Int×LD×Int×BA×Int×Int×LD×LD×LD×LD×LD) [.move (.ext 3),.move (.ext 4),.move (.ext 5),.move (.ext 6)] [] [0,1,3] [.ext 0,.ext 1,.ext 2,.ext 3,.ext 4,.ext 5,.ext 6,.ext 7,.ext 8,.loc 128,.loc 160,.loc 192,.loc 224] 256 (fun t=>⟨[(0,.v (.c (.yl (.ext 0)))),sE 1 8,sI 3 t.2.1],[(.ext 0,.rnd Qr [sE 2 1]),(.ext 1,.cells [.ptr (.ext 2) 0]),(.ext 2,.cells [.d (.list true 16 t.2.2.1),.ow (.loc 128),.d (.int .i64 t.2.2.2.1),.ow (.loc 160),.ow (.loc 192),.d (.str t.2.2.2.2.1),.d (.int .i64 t.2.2.2.2.2.1),.d (.int .i64 t.2.2.2.2.2.2.1),.ow (.loc 224),.ow (.ext 7)]),(.ext 3,.gone),(.ext 4,.gone),(.ext 5,.gone),(.ext 6,.gone),(.ext 7,.tree (.fmap false) true 2 t.2.2.2.2.2.2.2.1 none),(.ext 8,.cells [.d (.list false 1 a)]),(.loc 128,.tree .row true 4 t.2.2.2.2.2.2.2.2.1 none),(.loc 160,.tree .row true 16 t.2.2.2.2.2.2.2.2.2.1 none),(.loc 192,.tree .flat true 2 t.2.2.2.2.2.2.2.2.2.2.1 none),(.loc 224,.tree .row true 9 t.2.2.2.2.2.2.2.2.2.2.2 none)],256⟩)
   (fun t=>t.1<=n/\D4 t.1 a t.2.1 t.2.2.1 t.2.2.2.1 t.2.2.2.2.1 t.2.2.2.2.2.1 t.2.2.2.2.2.2.1 t.2.2.2.2.2.2.2.1 t.2.2.2.2.2.2.2.2.1 t.2.2.2.2.2.2.2.2.2.1 t.2.2.2.2.2.2.2.2.2.2.1 t.2.2.2.2.2.2.2.2.2.2.2=some (r1,r2,r3,r4,r5,r6,r7,r8,r9,r10)) (fun t=>t.1) (n,(y,B,C,E,F,G,u,H,I,J,K)) ⟨Nat.le_refl _,h⟩ (by cbv) ?_
 clear h
 rintro⟨w,f,g,i,j,k,l,o,p,q,r,s⟩ ⟨hm1,h⟩
 replace hm1:w<=n:=hm1;obtain _ | w:=w
 ·replace h:D4 0 a f g i j k l o p q r s=some (r1,r2,r3,r4,r5,r6,r7,r8,r9,r10):=h;rw[D4]at h;cases h
 replace h:D4 (w+1) a f g i j k l o p q r s=some (r1,r2,r3,r4,r5,r6,r7,r8,r9,r10):=h;rw[D4]at h
 try cbv
 refine K4 ?_
 try cbv
 refine Yt 8 [0,1,3,8] [.ext 0,.ext 1,.ext 2,.ext 3,.ext 4,.ext 5,.ext 6,.ext 7,.ext 8,.loc 128,.loc 160,.loc 192,.loc 224] 320 (fun m b=>m<=w/\Ee m a f g i j k l o p q r s b=some (r1,r2,r3,r4,r5,r6,r7,r8,r9,r10)) ?_ ?_
 ·try cbv
  refine oB (fun e=>?_) (fun e=>?_)
  ·replace h:=AAy e h;clear e
   try cbv
   exact Pm (w,true) [0,1,3,8] [.ext 0,.ext 1,.ext 2,.ext 3,.ext 4,.ext 5,.ext 6,.ext 7,.ext 8,.loc 128,.loc 160,.loc 192,.loc 224] 320 ⟨by omega,h⟩ (by cbv)
  replace h:=AAz (Int.not_le.2 e) h;clear e
  try cbv
  exact Pm (w,false) [0,1,3,8] [.ext 0,.ext 1,.ext 2,.ext 3,.ext 4,.ext 5,.ext 6,.ext 7,.ext 8,.loc 128,.loc 160,.loc 192,.loc 224] 320 ⟨by omega,h⟩ (by cbv)
 clear h
 rintro⟨z,x⟩ ⟨hm2,h⟩
 try cbv
 replace hm2:z<=w:=hm2;obtain _ | z:=z
 ·replace h:Ee 0 a f g i j k l o p q r s x=some (r1,r2,r3,r4,r5,r6,r7,r8,r9,r10):=h;rw[Ee]at h;cases h
 replace h:Ee (z+1) a f g i j k l o p q r s x=some (r1,r2,r3,r4,r5,r6,r7,r8,r9,r10):=h;rw[Ee]at h
 try cbv
 cases x
 ·replace h:=itF h
  try cbv
  obtain⟨rfl,rfl,rfl,rfl,rfl,rfl,rfl,rfl,rfl,rfl⟩:=XY h;refine iW ?_
  try cbv
  exact⟨[.loc 128,.loc 160,.loc 192,.loc 224],rfl,rfl,⟨rfl,⟨rfl,⟨rfl,⟨rfl,⟨rfl,trivial⟩⟩⟩⟩⟩,⟨rfl,⟨rfl,⟨rfl,⟨rfl,trivial⟩⟩⟩⟩,trivial⟩
 replace h:=itT h
 try cbv
 refine K4 ?_
 try cbv
 refine K4 ?_
 try cbv
 replace h:=Ng h;obtain⟨N,⟨hx0,hx⟩,h⟩:=h;refine⟨N,hx0,hx,?_⟩;clear hx0 hx;replace h:=Nj h;obtain⟨Z,rfl,h⟩:=h
 try cbv
 replace h:=TQ h;obtain⟨O,P,Q,R,S,U,V,W,X,Y,hr,h⟩:=h;refine oM hM hI [.ext 1,.ext 2,.loc 128,.loc 160,.loc 192,.loc 224,.ext 7] (sl0:=[(2,.v (.c (.ptr (.ext 0) 0)))]) rfl rfl rfl rfl (ACa _ hr) rfl rfl rfl (by simp) ⟨rfl,⟨rfl,⟨rfl,⟨rfl,⟨rfl,⟨rfl,⟨rfl,trivial⟩⟩⟩⟩⟩⟩⟩ ⟨trivial,⟨trivial,⟨trivial,⟨trivial,⟨trivial,⟨trivial,⟨trivial,trivial⟩⟩⟩⟩⟩⟩⟩ (by simp) ?_
 clear hr
 try cbv
 refine⟨false,rfl,?_⟩
 try cbv
 replace h:=Nf h;obtain⟨A,hz,h⟩:=h;refine⟨A,hz,?_⟩;clear hz
 try cbv
 refine VY (z,(A,O,P,Q,R,S,U,V,W,X,Y)) [] [(512,128),(513,160),(514,192),(515,224)] [0,1,3] [.ext 0,.ext 1,.ext 2,.ext 3,.ext 4,.ext 5,.ext 6,.ext 7,.ext 8,.loc 512,.loc 513,.loc 514,.loc 515] 256 ⟨by omega,h⟩ (Nat.lt_succ_of_le (by omega)) ?_
 try cbv
def xD (n:Nat) (a:LD):Option (Bool):=
 Au (ZM n a 30) fun b=>some b
noncomputable def X54:AH:=⟨54,Tryz.f54,false,[.agg [.q 16]],[],[⟨.one (.b),[],[]⟩],Bool,ii,xD,.e,[],none,[]⟩
def k54:Kz:=sg X54 [AIr] Tryz.func54
mutual
def KR:Nat->LD->Int->Int->LD->LD->LD->Option (LD×LD×LD)
 | 0,_,_,_,_,_,_=>none
 | n+1,s,t,r,v,w,u=>
  (if r<t then Ae s r fun O=>BZ O fun b a c d e f g h i j k l m o p q=>(if b=3 then (findF true (.str a) w (fun z=>BZ z fun P Q R S T U V W X Y Z aa ab ac ad ae=>L5 n s t r v w u b a c d e f g h i j k l m o p q true) (L5 n s t r v w u b a c d e f g h i j k l m o p q false))else (findF true (.str a) v (fun A=>BZ A fun af ag ah ai aj ak am an ao aq ar au av aw ax ay=>L7 n s t r v w u b a c d e f g h i j k l m o p q true) (L7 n s t r v w u b a c d e f g h i j k l m o p q false)))else some (v,w,u))
def L5:Nat->LD->Int->Int->LD->LD->LD->Int->BA->LD->Int->BA->LD->LD->Int->Int->BA->BA->BA->LD->LD->Int->Int->Bool->Option (LD×LD×LD)
 | 0,_,_,_,_,_,_,_,_,_,_,_,_,_,_,_,_,_,_,_,_,_,_,_=>none
 | n+1,s,t,r,v,w,u,b,a,c,d,e,f,g,h,i,j,k,l,m,o,p,q,x=>
  Ax (!x) fun B=>(if B=true then B5 (.str a) [.int .u8 b,.str a,.list true 4 c,.int .u8 d,.str e,.list true 3 f,.list true 15 g,.int .u8 h,.int .i64 i,.str j,.str k,.str l,.list false 1 m,.list true 8 o,.int .i64 p,.int .i64 q] w fun C=>L6 n s t r v u x C else L6 n s t r v u x w)
def L6:Nat->LD->Int->Int->LD->LD->Bool->LD->Option (LD×LD×LD)
 | 0,_,_,_,_,_,_,_=>none
 | n+1,s,t,r,v,u,x,E=>
  Gf [.bool x] fun F=>Bw 1 u F fun G=>AW (IntKind.wrap .i64 (r+1)) fun H=>KR n s t H v E G
def L7:Nat->LD->Int->Int->LD->LD->LD->Int->BA->LD->Int->BA->LD->LD->Int->Int->BA->BA->BA->LD->LD->Int->Int->Bool->Option (LD×LD×LD)
 | 0,_,_,_,_,_,_,_,_,_,_,_,_,_,_,_,_,_,_,_,_,_,_,_=>none
 | n+1,s,t,r,v,w,u,b,a,c,d,e,f,g,h,i,j,k,l,m,o,p,q,y=>
  Ax (!y) fun I=>(if I=true then B5 (.str a) [.int .u8 b,.str a,.list true 4 c,.int .u8 d,.str e,.list true 3 f,.list true 15 g,.int .u8 h,.int .i64 i,.str j,.str k,.str l,.list false 1 m,.list true 8 o,.int .i64 p,.int .i64 q] v fun J=>L8 n s t r w u y J else L8 n s t r w u y v)
def L8:Nat->LD->Int->Int->LD->LD->Bool->LD->Option (LD×LD×LD)
 | 0,_,_,_,_,_,_,_=>none
 | n+1,s,t,r,w,u,y,K=>
  Gf [.bool y] fun L=>Bw 1 u L fun M=>AW (IntKind.wrap .i64 (r+1)) fun N=>KR n s t N K w M
end
def xE (n:Nat) (a:LD) (b:LD) (c:LD):Option (LD×LD×LD):=
 AO a fun d=>KR n a d 0 b c ([]:LD)
noncomputable def X55:AH:=⟨55,Tryz.f55,true,[.v 0,.agg [.q 16]],[.c [.w 1,.w 2,.nils true 2],.m17,.m17],[⟨.one (.w (.o 0)),[.c [.w 1,.w 2,.nils true 2],.m17,.m17],[.f1]⟩],LD×LD×LD,ii,xE,.g [.treeS 5 false 1] [] .e,[⟨58,[0,4,5,12,13,14],[.e 0,.e 1,.e 2,.o 224],256,[.v 0,.one (.nils false 1),.w (.o 224),.q 16,.z,.z],[.c [.w 1,.w 2,.nils true 2],.m17,.m17,.f1],KR,.e⟩,
 ⟨29903,[0,4,5,7,8,10,12,13,14],[.e 0,.e 1,.e 2,.o 224,.o 352],1152,[.v 0,.one (.nils false 1),.w (.o 224),.u 352,.w (.e 2),.b,.q 16,.z,.z],[.c [.w 1,.w 2,.nils true 2],.m17,.m17,.f1,.c [.y,.s,.q 4,.y,.s,.q 3,.q 15,.y,.z,.s,.s,.s,.f 1,.q 8,.z,.z]],fun n a d h i L M j k l m p r t x A B C E F G H I J=>L5 n d h i L M j k l m p r t x A B C E F G H I J a,.e⟩,
 ⟨59807,[0,4,5,8,10,12,13,14],[.e 0,.e 1,.e 2,.o 224],1376,[.v 0,.one (.nils false 1),.w (.o 224),.w (.e 2),.b,.q 16,.z,.z],[.c [.w 1,.w 2,.nils true 2],.m17,.m17,.f1],fun n a d h i L N j=>L6 n d h i L j a N,.n 0 (.g [] [(1472,224)] .e)⟩,
 ⟨29903,[0,4,5,7,8,10,12,13,14],[.e 0,.e 1,.e 2,.o 224,.o 352],992,[.v 0,.one (.nils false 1),.w (.o 224),.u 352,.w (.e 1),.b,.q 16,.z,.z],[.c [.w 1,.w 2,.nils true 2],.m17,.m17,.f1,.c [.y,.s,.q 4,.y,.s,.q 3,.q 15,.y,.z,.s,.s,.s,.f 1,.q 8,.z,.z]],fun n K d h i L M j k l m p r t x A B C E F G H I J=>L7 n d h i L M j k l m p r t x A B C E F G H I J K,.e⟩,
 ⟨59807,[0,4,5,8,10,12,13,14],[.e 0,.e 1,.e 2,.o 224],1216,[.v 0,.one (.nils false 1),.w (.o 224),.w (.e 1),.b,.q 16,.z,.z],[.c [.w 1,.w 2,.nils true 2],.m17,.m17,.f1],fun n K d h i O M j=>L8 n d h i M j K O,.n 0 (.g [] [(1312,224)] .e)⟩],none,[]⟩
def k55:Kz:=sg X55 [] Tryz.func55
mutual
def L9:Nat->LD->Int->LD->LD->LD->Bool->Option (LD×LD×LD)
 | 0,_,_,_,_,_,_=>none
 | n+1,a,b,g,h,i,q=>
  Dq (Bh n q 60 b g h i) fun r s t=>AO a fun c=>KS n a b c 0 r s t
def KS:Nat->LD->Int->Int->Int->LD->LD->LD->Option (LD×LD×LD)
 | 0,_,_,_,_,_,_,_=>none
 | n+1,a,b,c,e,j,k,l=>
  (if e<c then Ae a e fun u=>D0 u fun v w x=>Dq (ZO n v w x b j k l) fun y z A=>AW (IntKind.wrap .i64 (e+1)) fun B=>KS n a b c B y z A else some (j,k,l))
def KT:Nat->LD->Int->Int->Int->LD->LD->LD->Option (LD×LD×LD)
 | 0,_,_,_,_,_,_,_=>none
 | n+1,a,b,d,f,m,o,p=>
  (if f<d then Ae a f fun C=>D0 C fun E F G=>Dq (ZO n E F G b m o p) fun H I J=>AW (IntKind.wrap .i64 (f+1)) fun K=>KT n a b d K H I J else some (m,o,p))
def ZO:Nat->Int->BA->LD->Int->LD->LD->LD->Option (LD×LD×LD)
 | 0,_,_,_,_,_,_,_=>none
 | n+1,L,M,a,b,g,h,i=>
  (if L=4 then (findF true (.str M) g (fun N=>BZ N fun z9 O P Q R S T U V W X Y Z aa ab ac=>L9 n a b g h i true) (L9 n a b g h i false))else AO a fun d=>KT n a b d 0 g h i)
end
noncomputable def X58:AH:=⟨58,Tryz.f58,true,[.v 0,.agg [.y,.s,.q 3],.z],[.c [.w 1,.w 2,.w 3],.m17,.m17,.l2],[⟨.tup [],[.c [.w 1,.w 2,.x 0],.m17,.m17,.o],[.l2]⟩],LD×LD×LD,ii,ZO,.b .e (.g [.move (.e 3)] [] .e),[⟨53,[0,2,4,7],[.e 0,.e 1,.e 2,.e 3,.o 0],544,[.v 0,.z,.u 0,.b],[.c [.w 1,.w 2,.w 3],.m17,.m17,.l2,.c [.y,.s,.q 3]],fun n a f B C E _ _ d=>L9 n d a B C E f,.e⟩,
 ⟨30,[0,2,28,29,30],[.e 0,.e 1,.e 2,.e 3,.o 640],800,[.v 0,.z,.q 3,.z,.z],[.c [.w 1,.w 2,.x 640],.m17,.m17,.o,.l2],fun n a d h i j k l=>KS n d a h i j k l,.b (.n 0 (.g [] [(1056,640)] .e)) .e⟩,
 ⟨30,[0,2,28,29,30],[.e 0,.e 1,.e 2,.e 3,.o 256],288,[.v 0,.z,.q 3,.z,.z],[.c [.w 1,.w 2,.x 256],.m17,.m17,.o,.l2],fun n a d m p r t A=>KT n d a m p r t A,.b (.n 0 (.g [] [(544,256)] .e)) .e⟩],none,[]⟩
theorem K58:Bb Tryz.prog inv (D3 [X58]):=gr [L4] ⟨ge Tryz.func58,trivial⟩
def k58:Kz:=⟨X58.c,K58.1⟩
mutual
def MA:Nat->LD->Int->Int->Int->LD->LD->LD->LD->LD->Option (LD×LD×LD)
 | 0,_,_,_,_,_,_,_,_,_=>none
 | n+1,m,a,c,b,h,i,d,o,j=>
  (if b<c then Ae m b fun p=>Bt p fun k e f g=>(findF false (.str k) o (fun q=>B1 q fun r=>AW (IntKind.wrap .i64 (r+1)) fun s=>B5 (.str k) [.int .i64 s] o fun t=>MB n m a c b h i d j k e f g t) (B5 (.str k) [.int .i64 1] o fun u=>MB n m a c b h i d j k e f g u))else some (h,i,j))
def MB:Nat->LD->Int->Int->Int->LD->LD->LD->LD->BA->Int->BA->LD->LD->Option (LD×LD×LD)
 | 0,_,_,_,_,_,_,_,_,_,_,_,_,_=>none
 | n+1,m,a,c,b,h,i,d,j,k,e,f,g,l=>
  (findF false (.str k) l (fun v=>B1 v fun w=>(if w=1 then Dq (Bh n true 60 a h i j) fun x y z=>KU n m a c b d e f g l x y z else Dq (Bh n false 60 a h i j) fun A B C=>KU n m a c b d e f g l A B C)) (Dq (Bh n false 60 a h i j) fun E F G=>KU n m a c b d e f g l E F G))
def KU:Nat->LD->Int->Int->Int->LD->Int->BA->LD->LD->LD->LD->LD->Option (LD×LD×LD)
 | 0,_,_,_,_,_,_,_,_,_,_,_,_=>none
 | n+1,m,a,c,b,d,e,f,g,l,H,I,J=>
  Dq (ZO n e f g a H I J) fun K L M=>AW (IntKind.wrap .i64 (b+1)) fun N=>MA n m a c N K L d l M
end
def xF (n:Nat) (m:Int) (o:BA) (a:LD) (p:Int) (q:BA) (r:LD) (s:LD) (t:Int) (u:Int) (g:BA) (h:BA) (i:BA) (j:LD) (k:LD) (l:Int) (b:Int) (c:LD) (d:LD) (e:LD):Option (LD×LD×LD):=
 AO a fun f=>MA n a b f 0 c d a ([]:LD) e
noncomputable def X57:AH:=⟨57,Tryz.f57,true,[.v 0,.agg [.y,.s,.q 4,.y,.s,.q 3,.q 15,.y,.z,.s,.s,.s,.f 1,.q 8,.z,.z]],[.c [.w 1,.w 2,.w 3],.m17,.m17,.l2],[⟨.tup [],[.c [.w 1,.w 2,.x 0],.m17,.m17,.o],[.l2]⟩],LD×LD×LD,ii,xF,.g [.move (.e 3)] [] .e,[⟨30,[0,3,4,9,10,11],[.e 0,.e 1,.e 2,.e 3,.o 0,.o 32,.o 224],256,[.v 0,.u 0,.w (.o 32),.q 4,.z,.z],[.c [.w 1,.w 2,.x 224],.m17,.m17,.o,.c [.y,.s,.q 4,.y,.s,.q 3,.q 15,.y,.z,.s,.s,.s,.f 1,.q 8,.z,.z],.i2,.l2],fun n t a b i j _ _ d _ _ _ _ _ _ _ _ _ _ _ _ h A k=>MA n t h a b i j d A k,.e⟩,
 ⟨3891,[0,3,4,6,9,10,11],[.e 0,.e 1,.e 2,.e 3,.o 0,.o 32,.o 352,.o 224],608,[.v 0,.u 0,.w (.o 32),.u 352,.q 4,.z,.z],[.c [.w 1,.w 2,.x 224],.m17,.m17,.o,.c [.y,.s,.q 4,.y,.s,.q 3,.q 15,.y,.z,.s,.s,.s,.f 1,.q 8,.z,.z],.i2,.c [.s,.y,.s,.q 3],.l2],fun n t a b i j _ _ d _ _ _ _ _ _ _ _ _ _ _ _ h l B m p r k=>MB n t h a b i j d k B m p r l,.e⟩,
 ⟨7783,[0,3,4,6,9,10,11],[.e 0,.e 1,.e 2,.e 3,.o 0,.o 32,.o 352,.o 864],896,[.v 0,.u 0,.w (.o 32),.u 352,.q 4,.z,.z],[.c [.w 1,.w 2,.x 864],.m17,.m17,.o,.c [.y,.s,.q 4,.y,.s,.q 3,.q 15,.y,.z,.s,.s,.s,.f 1,.q 8,.z,.z],.i2,.c [.s,.y,.s,.q 3],.l2],fun n t a b C E _ _ d _ _ _ _ _ _ _ _ _ _ _ _ h l _ m p r F=>KU n t h a b d m p r l C E F,.n 0 (.g [] [(1056,224)] .e)⟩],none,[]⟩
def k57:Kz:=sg X57 [L4,k58] Tryz.func57
def sM (n:Nat) (a:LD) (b:LD) (c:LD):Option (LD×LD×LD):=
 some (a,b,c)
noncomputable def X59:AH:=⟨59,Tryz.f59,false,[.v 0],[.c [.w 1,.w 2,.w 3],.m17,.m17,.l2],[⟨.one (.u 0),[.c [.w 1,.w 2,.w 3],.m17,.m17,.l2],[.c [.a 0,.x 1,.k 0,.k 0],.te (.fmap true) true 2]⟩],LD×LD×LD,ii,sM,.e,[],none,[]⟩
def k59:Kz:=sg X59 [] Tryz.func59
def O7 (n:Nat) (a:Bool) (b:BA) (c:Int) (d:Int) (e:LD) (f:LD) (g:LD) (h:LD):Option (Int×Int×LD×LD×LD×LD):=
 B5 (.str b) [.bool a] h fun i=>some (c,d,e,f,g,i)
noncomputable def Wo:AH:=⟨216,Tryz.f216,false,[.rp [.bool],.one (.fb (.e 0)),.rp [.s]],[.c [.a 1,.w 5,.z,.z],.c [.w 2,.w 3,.w 4],.m17,.m17,.l2,.m2],[⟨.tup [],[.c [.a 1,.w 5,.z,.z],.c [.w 2,.w 3,.w 4],.m17,.m17,.l2,.m2],[]⟩],Int×Int×LD×LD×LD×LD,ii,O7,.e,[],none,[]⟩
theorem d216 (n:Nat):Wo.c.Om (WQ Tryz.prog inv) n:=sgD Wo [] Tryz.func216 (by kernel_rfl) (by kernel_rfl) (by kernel_rfl) n
def ACb:Kz:=sg Wo [] Tryz.func216
def OX:Nat->LD->LD->Int->Int->Option (Bool)
 | 0,_,_,_,_=>none
 | n+1,i,b,c,a=>
  (if a<c then Ae i a fun d=>Bt d fun e j k l=>(findF false (.str e) b (fun f=>B1 f fun g=>(if g=0 then some false else AW (IntKind.wrap .i64 (a+1)) fun h=>OX n i b c h)) (some false))else some true)
mutual
def D5:Nat->Int->BA->LD->Int->BA->LD->LD->Int->Int->BA->BA->BA->LD->LD->Int->Int->LD->Int->Int->LD->Option (Bool)
 | 0,_,_,_,_,_,_,_,_,_,_,_,_,_,_,_,_,_,_,_,_=>none
 | n+1,s,t,o,u,v,w,x,y,z,c,d,e,f,g,h,i,j,k,a,p=>
  (if a<k then Ae j a fun A=>Cv A fun b q R=>ZY (UQ n s t o u v w x y z c d e f g h i b) fun S m T U r=>(findF false (.str b) p (fun B=>B1 B fun C=>AW (IntKind.wrap .i64 (C+1)) fun E=>B5 (.str b) [.int .i64 E] p fun F=>IE n s t o u v w x y z c d e f g h i j k a b q m r F) (B5 (.str b) [.int .i64 1] p fun G=>IE n s t o u v w x y z c d e f g h i j k a b q m r G))else AO o fun H=>OX n o p H 0)
def IE:Nat->Int->BA->LD->Int->BA->LD->LD->Int->Int->BA->BA->BA->LD->LD->Int->Int->LD->Int->Int->BA->BA->Int->Bool->LD->Option (Bool)
 | 0,_,_,_,_,_,_,_,_,_,_,_,_,_,_,_,_,_,_,_,_,_,_,_,_=>none
 | n+1,s,t,o,u,v,w,x,y,z,c,d,e,f,g,h,i,j,k,a,b,q,m,r,l=>
  Ax (!r) fun I=>(if I=true then some false else (if q=ByteArray.empty then (if m=0 then (findF false (.str b) l (fun J=>B1 J fun K=>(if 1<K then some false else AW (IntKind.wrap .i64 (a+1)) fun L=>D5 n s t o u v w x y z c d e f g h i j k L l)) (AW (IntKind.wrap .i64 (a+1)) fun M=>D5 n s t o u v w x y z c d e f g h i j k M l))else some false)else (if m=0 then some false else (findF false (.str b) l (fun N=>B1 N fun O=>(if 1<O then some false else AW (IntKind.wrap .i64 (a+1)) fun P=>D5 n s t o u v w x y z c d e f g h i j k P l)) (AW (IntKind.wrap .i64 (a+1)) fun Q=>D5 n s t o u v w x y z c d e f g h i j k Q l)))))
end
def Wq (n:Nat) (j:Int) (k:BA) (l:LD) (m:Int) (o:BA) (p:LD) (q:LD) (r:Int) (s:Int) (b:BA) (c:BA) (d:BA) (e:LD) (f:LD) (g:Int) (h:Int) (a:LD):Option (Bool):=
 AO a fun i=>D5 n j k l m o p q r s b c d e f g h a i 0 ([]:LD)
noncomputable def AKg:AH:=⟨217,Tryz.f217,false,[.agg [.y,.s,.q 4,.y,.s,.q 3,.q 15,.y,.z,.s,.s,.s,.f 1,.q 8,.z,.z],.q 3],[],[⟨.one (.b),[],[]⟩],Bool,ii,Wq,.e,[⟨58,[2,4,5,13,14,15],[.o 0,.o 64],224,[.u 0,.one (.cb false),.w (.o 64),.q 3,.z,.z],[.c [.y,.s,.q 4,.y,.s,.q 3,.q 15,.y,.z,.s,.s,.s,.f 1,.q 8,.z,.z],.i2],fun n a d g v x t A B C E F G h i j k l m p r=>D5 n v x t A B C E F G h i j k l m p a d g r,.e⟩,
 ⟨14951,[2,4,5,7,8,9,13,14,15],[.o 0,.o 64,.o 320,.o 608],896,[.u 0,.one (.cb false),.w (.o 64),.u 320,.u 608,.b,.q 3,.z,.z],[.c [.y,.s,.q 4,.y,.s,.q 3,.q 15,.y,.z,.s,.s,.s,.f 1,.q 8,.z,.z],.i2,.c [.s,.s,.q 15],.c [.s,.y,.s,.q 3]],fun n H a d g v x t A B C E F G h i j k l m p I J K _ _ L _ _=>IE n v x t A B C E F G h i j k l m p a d g J K L H I,.e⟩,
 ⟨122,[4,5,52,53,54],[.o 64],384,[.one (.cb false),.w (.o 64),.q 4,.z,.z],[.i2],fun n t M N r=>OX n t r M N,.e⟩],none,[]⟩
def AKh:Kz:=sg AKg [ABw] Tryz.func217
def xG (n:Nat):Option (Unit):=
 some ()
noncomputable def AKi:AH:=⟨218,Tryz.f218,false,[],[],[⟨.tup [],[],[]⟩],Unit,ii,xG,.e,[],none,[]⟩
def AKj:Kz:=sg AKi [] Tryz.func218
def xH (n:Nat):Option (Unit):=
 some ()
noncomputable def AKk:AH:=⟨219,Tryz.f219,false,[],[],[⟨.tup [],[],[]⟩],Unit,ii,xH,.e,[],none,[]⟩
def AKl:Kz:=sg AKk [] Tryz.func219
mutual
def KV:Nat->LD->Int->Int->Int->Int->LD->LD->LD->LD->Option (Int×Int×LD×LD×LD×LD)
 | 0,_,_,_,_,_,_,_,_,_=>none
 | n+1,d,a,b,e,f,g,h,i,j=>
  (if b<a then Ae d b fun k=>Bj k fun l m o p q r s t=>Lw (mV n l m o p q r s t e f g h j i) fun u v w x y z=>AW (IntKind.wrap .i64 (b+1)) fun A=>KV n d a A u v w x y z else some (e,f,g,h,i,j))
def mV:Nat->Int->Int->BA->BA->BA->LD->LD->Int->Int->Int->LD->LD->LD->LD->Option (Int×Int×LD×LD×LD×LD)
 | 0,_,_,_,_,_,_,_,_,_,_,_,_,_,_=>none
 | n+1,S,T,U,V,W,X,d,R,B,c,C,E,F,G=>
  jE (Wd n S T U V W X d R B c C E F G) fun H I J K L M N=>Be (I=B) (Be (J=c) (Dq (Bh n H 60 R K L N) fun O P Q=>AO d fun a=>KV n d a 0 B c O P M Q))
end
noncomputable def X62:AH:=⟨62,Tryz.f62,false,[.v 0,.agg [.y,.z,.s,.s,.s,.f 1,.q 8,.z]],[.c [.a 1,.w 5,.z,.z],.c [.w 2,.w 3,.w 4],.m17,.m17,.l2,.m2],[⟨.tup [],[.c [.a 1,.w 5,.z,.z],.c [.w 2,.w 3,.x 0],.m17,.m17,.o,.m2],[.l2]⟩],Int×Int×LD×LD×LD×LD,ii,mV,.g [] [(0,0)] .e,[⟨30,[0,17,18,19],[.e 0,.e 1,.e 2,.e 3,.e 4,.e 5,.o 320],480,[.v 0,.q 8,.z,.z],[.c [.a 1,.w 5,.z,.z],.c [.w 2,.w 3,.x 320],.m17,.m17,.o,.m2,.l2],KV,.b (.n 0 (.g [] [(704,320)] .e)) .e⟩],none,[]⟩
theorem K62:Bb Tryz.prog inv (D3 [X62]):=gr [AIv,L4] ⟨ge Tryz.func62,trivial⟩
def k62:Kz:=⟨X62.c,K62.1⟩
mutual
def FU:Nat->LD->Int->Int->LD->Int->Int->LD->LD->LD->LD->Option (Int×Int×LD×LD×LD×LD)
 | 0,_,_,_,_,_,_,_,_,_,_=>none
 | n+1,E,B,z9,v,H,ag,q,b,P,Q=>
  (if z9<B then Ae E z9 fun aQ=>Ba aQ fun aR aS ah d F ai T e aj f c I i ak am=>jE (Rs n aR aS ah d F ai T e aj f c I i ak am H ag q b Q P) fun C r w s t j k=>AO j fun u=>FV n E B z9 C r w s t j k u 0 v else uK (xH n) (El n v H ag q b P Q))
def FV:Nat->LD->Int->Int->Int->Int->LD->LD->LD->LD->LD->Int->Int->LD->Option (Int×Int×LD×LD×LD×LD)
 | 0,_,_,_,_,_,_,_,_,_,_,_,_,_=>none
 | n+1,E,B,z9,C,r,w,s,t,j,k,u,x,y=>
  (if x<u then Be (0<=x/\x.toNat<j.length) (DV j (x.toNat) fun U=>Ch U fun an aT=>AW (IntKind.wrap .i64 (x+1)) fun ao=>FV n E B z9 C r w s t j k u ao (.agg [.bool an,.str aT]::y))else AW (IntKind.wrap .i64 (z9+1)) fun V=>FU n E B V y C r w s t k)
def El:Nat->LD->Int->Int->LD->LD->LD->LD->Option (Int×Int×LD×LD×LD×LD)
 | 0,_,_,_,_,_,_,_=>none
 | n+1,aq,W,X,z,A,J,K=>
  Eg aq (some (W,X,z,A,J,K)) fun aU R=>Ch aU fun aV aW=>Lw (O7 n aV aW W X z A K J) fun aA L ab ac ar M=>El n R aA L ab ac M ar
def OY:Nat->LD->Int->Int->LD->LD->LD->LD->Option (Int×Int×LD×LD×LD×LD)
 | 0,_,_,_,_,_,_,_=>none
 | n+1,E,z2,z3,o,l5,l6,Z=>
  AO E fun B=>FU n E B 0 ([]:LD) z2 z3 o l5 Z l6
def IG:Nat->LD->Int->LD->Int->Int->LD->Int->Int->LD->LD->LD->LD->Option (Int×Int×LD×LD×LD×LD)
 | 0,_,_,_,_,_,_,_,_,_,_,_,_=>none
 | n+1,E,z2,l3,aB,H,g,bl,bm,P,Q,bn,N=>
  (if H<aB then Ae l3 H fun dv=>B0 dv fun ah=>XX (MN n ah z2 bl bm P Q N bn) fun dw dx au l aX p f c=>AW (IntKind.wrap .i64 (H+1)) fun aY=>IG n E z2 l3 aB aY (.agg [.bool dw,.str dx]::g) au l aX p f c else Lw (OY n E bl bm P Q N bn) fun aZ dy a0 a1 a2 w=>Gx n g aZ dy a0 a1 a2 w)
def Gx:Nat->LD->Int->Int->LD->LD->LD->LD->Option (Int×Int×LD×LD×LD×LD)
 | 0,_,_,_,_,_,_,_=>none
 | n+1,s,aC,bo,k,Y,G,y=>
  Eg s (some (aC,bo,k,Y,G,y)) fun U a3=>Ch U fun bp bq=>Lw (O7 n bp bq aC bo k Y y G) fun V a4 av aw z A=>Gx n a3 V a4 av aw A z
def LU:Nat->LD->Int->LD->Int->Int->LD->LD->LD->LD->Option (Int×Int×LD×LD×LD×LD)
 | 0,_,_,_,_,_,_,_,_,_=>none
 | n+1,E,z2,l3,z4,z5,l6,Z,l8,l9=>
  AO l3 fun aB=>IG n E z2 l3 aB 0 ([]:LD) z4 z5 l6 Z l9 l8
def Fs:Nat->LD->Int->Int->Int->LD->LD->LD->LD->Option (Int×Int×LD×LD×LD×LD)
 | 0,_,_,_,_,_,_,_,_=>none
 | n+1,b,a,m,h,d,aD,aE,aF=>
  AO b fun L=>Ft n b a L 0 m h aD aE d b aF
def Ft:Nat->LD->Int->Int->Int->Int->Int->LD->LD->LD->LD->LD->Option (Int×Int×LD×LD×LD×LD)
 | 0,_,_,_,_,_,_,_,_,_,_,_=>none
 | n+1,b,a,L,aG,a5,aH,M,ax,a6,br,aI=>
  (if aG<L then Ae b aG fun dz=>Cv dz fun en bs bt=>(if bs=ByteArray.empty then Lw (LU n bt a ([]:LD) a5 aH M ax aI a6) fun dA dC ay dD dE a7=>AW (IntKind.wrap .i64 (aG+1)) fun dF=>Ft n b a L dF dA dC ay dD dE br a7 else Lw (LU n bt a ([.str bs]) a5 aH M ax aI a6) fun dG dH a8 a9 ba bb=>AW (IntKind.wrap .i64 (aG+1)) fun dI=>Ft n b a L dI dG dH a8 a9 ba br bb)else some (a5,aH,M,ax,a6,aI))
def Wr:Nat->Int->BA->BA->LD->Int->BA->LD->Int->BA->LD->LD->LD->LD->LD->Int->Int->Int->LD->LD->LD->LD->Option (Int×Int×LD×LD×LD×LD)
 | 0,_,_,_,_,_,_,_,_,_,_,_,_,_,_,_,_,_,_,_,_,_=>none
 | n+1,O,s2,s3,o,z5,s6,Z,B,s9,v,S,g,q,b,a,m,h,N,ae,af,d=>
  TS (O6 n 2 s3 N ae af) fun F ai T e aj f c aY aZ dJ dK dL a2 w dM aC dN k Y G=>(findF true (.str s2) d (fun dO=>Dj dO fun dP=>(if dP=true then (if dN=true then Au (Wq n F ai T e aj f c aY aZ dJ dK dL a2 w dM aC b) fun an=>Dq (Bh n an 60 a k Y G) fun bc dR dT=>Fs n b a m h d bc dR dT else Dq (Bh n false 60 a k Y G) fun aq av aw=>Fs n b a m h d aq av aw)else Dq (Bh n false 60 a k Y G) fun z A J=>Fs n b a m h d z A J)) (Dq (Bh n false 60 a k Y G) fun K bd R=>Fs n b a m h d K bd R))
def FW:Nat->LD->Int->Int->LD->Int->Int->LD->LD->LD->LD->Option (Int×Int×LD×LD×LD×LD)
 | 0,_,_,_,_,_,_,_,_,_,_=>none
 | n+1,E,B,z9,v,H,ag,q,b,P,Q=>
  (if z9<B then Ae E z9 fun aQ=>Ba aQ fun aR aS ah d F ai T e aj f c I i ak am=>jE (Rs n aR aS ah d F ai T e aj f c I i ak am H ag q b Q P) fun C r w s t j k=>AO j fun u=>FX n E B z9 C r w s t j k u 0 v else uK (xG n) (Em n v H ag q b P Q))
def FX:Nat->LD->Int->Int->Int->Int->LD->LD->LD->LD->LD->Int->Int->LD->Option (Int×Int×LD×LD×LD×LD)
 | 0,_,_,_,_,_,_,_,_,_,_,_,_,_=>none
 | n+1,E,B,z9,C,r,w,s,t,j,k,u,x,y=>
  (if x<u then Be (0<=x/\x.toNat<j.length) (DV j (x.toNat) fun U=>Ch U fun an aT=>AW (IntKind.wrap .i64 (x+1)) fun ao=>FX n E B z9 C r w s t j k u ao (.agg [.bool an,.str aT]::y))else AW (IntKind.wrap .i64 (z9+1)) fun V=>FW n E B V y C r w s t k)
def Em:Nat->LD->Int->Int->LD->LD->LD->LD->Option (Int×Int×LD×LD×LD×LD)
 | 0,_,_,_,_,_,_,_=>none
 | n+1,aq,W,X,z,A,J,K=>
  Eg aq (some (W,X,z,A,J,K)) fun aU R=>Ch aU fun aV aW=>Lw (O7 n aV aW W X z A K J) fun aA L ab ac ar M=>Em n R aA L ab ac M ar
def OZ:Nat->LD->Int->Int->LD->LD->LD->LD->Option (Int×Int×LD×LD×LD×LD)
 | 0,_,_,_,_,_,_,_=>none
 | n+1,E,z2,z3,o,l5,l6,Z=>
  AO E fun B=>FW n E B 0 ([]:LD) z2 z3 o l5 Z l6
def II:Nat->LD->LD->Int->Int->Int->LD->LD->LD->LD->Option (Int×Int×LD×LD×LD×LD)
 | 0,_,_,_,_,_,_,_,_,_=>none
 | n+1,o,g,a,m,h,d,c,I,i=>
  Dq (sM n c I i) fun ak a0 a1=>AO o fun r=>IJ n o g a m h d r 0 ak a0 o 0 0 ([]:LD) a1
def IJ:Nat->LD->LD->Int->Int->Int->LD->Int->Int->LD->LD->LD->Int->Int->LD->LD->Option (Int×Int×LD×LD×LD×LD)
 | 0,_,_,_,_,_,_,_,_,_,_,_,_,_,_,_=>none
 | n+1,o,g,a,m,h,d,r,be,s,t,j,aL,u,G,y=>
  (if be<r then Ae o be fun U=>B0 U fun dU=>XX (MN n dU a aL u s t y G) fun bp bq V a4 av aw z A=>AW (IntKind.wrap .i64 (be+1)) fun dV=>IJ n o g a m h d r dV av aw j V a4 z A else Lw (OZ n g aL u s t y G) fun dX eo R aD aE aF=>(if dX<=60 then Dq (Bh n true 4 a R aD aF) fun dY ab ac=>some (m,h,dY,ab,d,ac)else Dq (Bh n false 4 a R aD aF) fun ar M ax=>some (m,h,ar,M,d,ax)))
def Ws:Nat->Int->BA->BA->LD->Int->BA->LD->Int->BA->LD->LD->LD->LD->LD->Int->Int->Int->LD->LD->LD->LD->Option (Int×Int×LD×LD×LD×LD)
 | 0,_,_,_,_,_,_,_,_,_,_,_,_,_,_,_,_,_,_,_,_,_=>none
 | n+1,O,s2,s3,o,z5,s6,Z,B,s9,v,S,g,q,b,a,m,h,N,ae,af,d=>
  (if 0<h then Dq (Bh n true 61 a N ae af) fun d0 d1 T=>II n o g a m h d d0 d1 T else Dq (Bh n false 61 a N ae af) fun aX p f=>II n o g a m h d aX p f)
def IK:Nat->Int->BA->BA->LD->Int->BA->LD->Int->BA->LD->LD->LD->LD->LD->Int->Int->Int->Int->Int->LD->LD->LD->LD->LD->Option (Int×Int×LD×LD×LD×LD×LD)
 | 0,_,_,_,_,_,_,_,_,_,_,_,_,_,_,_,_,_,_,_,_,_,_,_,_=>none
 | n+1,O,s2,s3,o,z5,s6,Z,B,s9,v,S,g,q,b,a,F,au,l,e,p,f,c,I,i=>
  (if au<F then Ae S au fun d2=>Bj d2 fun am C d3 d4 d5 t j aL=>Lw (mV n am C d3 d4 d5 t j aL l e p f i c) fun u x y d6 a3 bc=>AW (IntKind.wrap .i64 (au+1)) fun ao=>IK n O s2 s3 o z5 s6 Z B s9 v S g q b a F ao u x y d6 a3 I bc else (if O=1 then XX (MN n s2 a l e p f i c) fun d7 d8 W X z A J K=>Bw 8 ([]:LD) ([.agg [.bool d7,.str d8]]) fun bd=>Cz n W X z A J bd K else (if O=2 then TS (O6 n 1 s2 p f i) fun ep eq aE aA er ab ac aH es et eu ev aI ew ex ey d9 bf bg ay=>(if d9=true then AO aE fun ea=>AO o fun eb=>(if ea=eb then Dq (Bh n true 60 a bf bg ay) fun a7 ec ed=>Gy n o a l e c a7 ec O ed else Dq (Bh n false 60 a bf bg ay) fun a8 a9 ba=>Gy n o a l e c a8 a9 O ba)else Dq (Bh n false 60 a bf bg ay) fun bb ee ef=>Gy n o a l e c bb ee O ef)else (if O=3 then Lw (Rq n s9 a l e p f i c) fun bu bv bw bx bz bA=>Cz n bu bv bw bx bz ([]:LD) bA else (if O=5 then Lw (Rq n s2 a l e p f i c) fun bB bC bD bE bF bG=>Cz n bB bC bD bE bF ([]:LD) bG else (if O=12 then Dq (ZO n z5 s6 Z a p f i) fun bH bI bJ=>XX (MN n s2 a l e bH bI bJ c) fun bK bL bM bN bO bP bQ bR=>XX (MN n s3 a bM bN bO bP bR bQ) fun bT bU bV bW bX bY bZ b0=>Bw 8 ([]:LD) ([.agg [.bool bK,.str bL],.agg [.bool bT,.str bU]]) fun b1=>Cz n bV bW bX bY bZ b1 b0 else (if O=8 then Lw (Wr n O s2 s3 o z5 s6 Z B s9 v I g q b a l e p f i c) fun b2 b3 b4 b5 b6 b7=>Cz n b2 b3 b4 b5 b6 ([]:LD) b7 else (if O=10 then Lw (Ws n O s2 s3 o z5 s6 Z B s9 v I g q b a l e p f i c) fun b8 b9 ca cb cc ce=>Cz n b8 b9 ca cb cc ([]:LD) ce else (if O=9 then AW (IntKind.wrap .i64 (e+1)) fun cf=>Lw (LU n g a ([]:LD) l cf p f i c) fun cg ch cj ck cl cm=>AW (IntKind.wrap .i64 (ch - 1)) fun co=>Cz n cg co cj ck cl ([]:LD) cm else (if O=11 then Lw (Rq n s9 a l e p f i c) fun cp cq cr cs ct cu=>Gf [.str s2] fun cv=>Lw (LU n g a cv cp cq cr cs cu ct) fun cw cx cy cz cA cB=>Cz n cw cx cy cz cA ([]:LD) cB else Lw (LU n g a ([]:LD) l e p f i c) fun cC cD cE cF cG cH=>Lw (LU n q a ([]:LD) cC cD cE cF cH cG) fun cI cJ cK cM cN cO=>Cz n cI cJ cK cM cN ([]:LD) cO))))))))))
def Gy:Nat->LD->Int->Int->Int->LD->LD->LD->Int->LD->Option (Int×Int×LD×LD×LD×LD×LD)
 | 0,_,_,_,_,_,_,_,_,_=>none
 | n+1,o,a,l,e,c,eg,eh,ez,ei=>
  AO o fun aM=>IL n o a aM 0 l e eg eh c o ([]:LD) ei
def IL:Nat->LD->Int->Int->Int->Int->Int->LD->LD->LD->LD->LD->LD->Option (Int×Int×LD×LD×LD×LD×LD)
 | 0,_,_,_,_,_,_,_,_,_,_,_,_=>none
 | n+1,o,a,aM,bh,cQ,cS,cT,cU,cV,ej,cW,aP=>
  (if bh<aM then Ae o bh fun cX=>B0 cX fun cY=>XX (MN n cY a cQ cS cT cU aP cV) fun cZ da db dd de dg dh di=>Bw 8 cW ([.agg [.bool cZ,.str da]]) fun dj=>AW (IntKind.wrap .i64 (bh+1)) fun dk=>IL n o a aM dk db dd de dg dh ej dj di else Cz n cQ cS cT cU cV cW aP)
def Cz:Nat->Int->Int->LD->LD->LD->LD->LD->Option (Int×Int×LD×LD×LD×LD×LD)
 | 0,_,_,_,_,_,_,_=>none
 | n+1,dl,dm,dn,dp,dq,dr,ds=>
  some (dl,dm,dn,dp,dq,dr,ds)
def Rs:Nat->Int->BA->BA->LD->Int->BA->LD->Int->BA->LD->LD->LD->LD->LD->Int->Int->Int->LD->LD->LD->LD->Option (Int×Int×LD×LD×LD×LD×LD)
 | 0,_,_,_,_,_,_,_,_,_,_,_,_,_,_,_,_,_,_,_,_,_=>none
 | n+1,O,s2,s3,o,z5,s6,Z,B,s9,v,S,g,q,b,a,m,h,N,ae,af,d=>
  AO S fun F=>IK n O s2 s3 o z5 s6 Z B s9 v S g q b a F 0 m h N ae d S af
end
noncomputable def sN:AH:=⟨60,Tryz.f60,false,[.v 0,.q 15,.one (.fn 219 [])],[.c [.a 1,.w 5,.z,.z],.c [.w 2,.w 3,.w 4],.m17,.m17,.l2,.m2],[⟨.tup [],[.c [.a 1,.w 5,.z,.z],.c [.w 2,.w 3,.x 0],.m17,.m17,.o,.m2],[.l2]⟩],Int×Int×LD×LD×LD×LD,ii,OY,.g [.move (.e 4)] [] .e,[⟨10,[0,2,10,11,12,1000],[.e 0,.e 1,.e 2,.e 3,.e 4,.e 5,.o 96],128,[.v 0,.one (.fn 219 []),.q 15,.z,.z,.df 216 [.h,.p (.e 0),.h]],[.c [.a 1,.w 5,.z,.z],.c [.w 2,.w 3,.x 96],.m17,.m17,.o,.m2,.l2],FU,.e⟩,
 ⟨2662,[0,2,10,11,12,18,19,20,1000],[.e 0,.e 1,.e 2,.e 3,.e 4,.e 5,.o 352,.o 353],448,[.v 0,.one (.fn 219 []),.q 15,.z,.z,.w (.o 352),.z,.z,.df 216 [.h,.p (.e 0),.h]],[.c [.a 1,.w 5,.z,.z],.c [.w 2,.w 3,.x 353],.m17,.m17,.o,.m2,.n 216 [.h,.p (.e 0),.h],.l2],fun n u y A d f i j k l m r s t=>FV n u y A j k l m r s t d f i,.b .e (.g [] [(353,96)] .e)⟩,
 ⟨0,[1000],[.e 0,.e 1,.e 2,.e 3,.e 4,.e 5,.o 96],224,[.df 216 [.h,.p (.e 0),.h]],[.c [.a 1,.w 5,.z,.z],.c [.w 2,.w 3,.x 96],.m17,.m17,.o,.m2,.l2],El,.e⟩],some (216,[.h,.p (.e 0),.h]),[Wo.c]⟩
noncomputable def ACc:AH:=⟨153,Tryz.f153,false,[.v 0,.q 15,.z,.f 1],[.c [.a 1,.w 5,.z,.z],.c [.w 2,.w 3,.w 4],.m17,.m17,.l2,.m2],[⟨.tup [],[.c [.a 1,.w 5,.z,.z],.c [.w 2,.w 3,.x 0],.m17,.m17,.o,.m2],[.l2]⟩],Int×Int×LD×LD×LD×LD,ii,LU,.g [.move (.e 4)] [] .e,[⟨10,[0,1,2,10,11,12,1000],[.e 0,.e 1,.e 2,.e 3,.e 4,.e 5,.o 96],128,[.v 0,.q 15,.z,.f 1,.z,.z,.df 216 [.h,.p (.e 0),.h]],[.c [.a 1,.w 5,.z,.z],.c [.w 2,.w 3,.x 96],.m17,.m17,.o,.m2,.l2],IG,.b (.n 0 (.g [] [(352,96)] .e)) .e⟩,
 ⟨0,[1000],[.e 0,.e 1,.e 2,.e 3,.e 4,.e 5,.o 224],256,[.df 216 [.h,.p (.e 0),.h]],[.c [.a 1,.w 5,.z,.z],.c [.w 2,.w 3,.x 224],.m17,.m17,.o,.m2,.l2],Gx,.e⟩],some (216,[.h,.p (.e 0),.h]),[Wo.c]⟩
noncomputable def ACd:AH:=⟨151,Tryz.f151,false,[.v 0,.agg [.y,.s,.s,.f 1,.y,.s,.q 3,.z,.s,.f 1,.q 8,.q 15,.q 15,.q 3,.z]],[.c [.a 1,.w 5,.z,.z],.c [.w 2,.w 3,.w 4],.m17,.m17,.l2,.m2],[⟨.tup [],[.c [.a 1,.w 5,.z,.z],.c [.w 2,.w 3,.x 0],.m17,.m17,.o,.m2],[.l2]⟩],Int×Int×LD×LD×LD×LD,ii,Wr,.e,[⟨15,[0,3],[.e 0,.e 1,.e 2,.e 3,.e 4,.e 5,.o 0,.o 1184],1216,[.v 0,.u 0],[.c [.a 1,.w 5,.z,.z],.c [.w 2,.w 3,.x 1184],.m17,.m17,.o,.m2,.c [.y,.s,.s,.f 1,.y,.s,.q 3,.z,.s,.f 1,.q 8,.q 15,.q 15,.q 3,.z],.l2],fun n i j k l m _ _ _ _ _ _ _ _ _ _ _ _ _ d h p=>Fs n d h i j m k l p,.e⟩,
 ⟨62,[0,3,43,44,45],[.e 0,.e 1,.e 2,.e 3,.e 4,.e 5,.o 0,.o 1184],1344,[.v 0,.u 0,.q 3,.z,.z],[.c [.a 1,.w 5,.z,.z],.c [.w 2,.w 3,.x 1184],.m17,.m17,.o,.m2,.c [.y,.s,.s,.f 1,.y,.s,.q 3,.z,.s,.f 1,.q 8,.q 15,.q 15,.q 3,.z],.l2],fun n d r t A B C E F _ _ _ _ _ _ _ _ _ _ _ _ _ G h H=>Ft n d h r t A B C E F G H,.b (.b (.b (.n 0 (.g [] [(1760,1184)] .e)) (.n 0 (.g [] [(1856,1184)] .e))) .e) .e⟩],none,[]⟩
noncomputable def sO:AH:=⟨60,Tryz.f60,false,[.v 0,.q 15,.one (.fn 218 [])],[.c [.a 1,.w 5,.z,.z],.c [.w 2,.w 3,.w 4],.m17,.m17,.l2,.m2],[⟨.tup [],[.c [.a 1,.w 5,.z,.z],.c [.w 2,.w 3,.x 0],.m17,.m17,.o,.m2],[.l2]⟩],Int×Int×LD×LD×LD×LD,ii,OZ,.g [.move (.e 4)] [] .e,[⟨10,[0,2,10,11,12,1000],[.e 0,.e 1,.e 2,.e 3,.e 4,.e 5,.o 96],128,[.v 0,.one (.fn 218 []),.q 15,.z,.z,.df 216 [.h,.p (.e 0),.h]],[.c [.a 1,.w 5,.z,.z],.c [.w 2,.w 3,.x 96],.m17,.m17,.o,.m2,.l2],FW,.e⟩,
 ⟨2662,[0,2,10,11,12,18,19,20,1000],[.e 0,.e 1,.e 2,.e 3,.e 4,.e 5,.o 352,.o 353],448,[.v 0,.one (.fn 218 []),.q 15,.z,.z,.w (.o 352),.z,.z,.df 216 [.h,.p (.e 0),.h]],[.c [.a 1,.w 5,.z,.z],.c [.w 2,.w 3,.x 353],.m17,.m17,.o,.m2,.n 216 [.h,.p (.e 0),.h],.l2],fun n u y A d f i j k l m r s t=>FX n u y A j k l m r s t d f i,.b .e (.g [] [(353,96)] .e)⟩,
 ⟨0,[1000],[.e 0,.e 1,.e 2,.e 3,.e 4,.e 5,.o 96],224,[.df 216 [.h,.p (.e 0),.h]],[.c [.a 1,.w 5,.z,.z],.c [.w 2,.w 3,.x 96],.m17,.m17,.o,.m2,.l2],Em,.e⟩],some (216,[.h,.p (.e 0),.h]),[Wo.c]⟩
noncomputable def ACe:AH:=⟨152,Tryz.f152,false,[.v 0,.agg [.y,.s,.s,.f 1,.y,.s,.q 3,.z,.s,.f 1,.q 8,.q 15,.q 15,.q 3,.z]],[.c [.a 1,.w 5,.z,.z],.c [.w 2,.w 3,.w 4],.m17,.m17,.l2,.m2],[⟨.tup [],[.c [.a 1,.w 5,.z,.z],.c [.w 2,.w 3,.x 0],.m17,.m17,.o,.m2],[.l2]⟩],Int×Int×LD×LD×LD×LD,ii,Ws,.e,[⟨7,[0,3],[.e 0,.e 1,.e 2,.e 3,.e 4,.e 5,.o 0,.o 384],416,[.v 0,.u 0],[.c [.a 1,.w 5,.z,.z],.c [.w 2,.w 3,.x 384],.m17,.m17,.o,.m2,.c [.y,.s,.s,.f 1,.y,.s,.q 3,.z,.s,.f 1,.q 8,.q 15,.q 15,.q 3,.z],.l2],fun n d h l m i _ _ _ p _ _ _ _ _ _ _ j _ _ k r=>II n p j k d h i l m r,.e⟩,
 ⟨122,[0,3,4,25,26,27],[.e 0,.e 1,.e 2,.e 3,.e 4,.e 5,.o 0,.o 544,.o 545,.o 384],736,[.v 0,.u 0,.u 544,.f 1,.z,.z],[.c [.a 1,.w 5,.z,.z],.c [.w 2,.w 3,.x 384],.m17,.m17,.o,.m2,.c [.y,.s,.s,.f 1,.y,.s,.q 3,.z,.s,.f 1,.q 8,.q 15,.q 15,.q 3,.z],.c [.a 1,.x 545,.z,.z],.m2,.l2],fun n p t A d h B C i _ _ _ E _ _ _ _ _ _ _ j _ _ k F G H I=>IJ n p j k d h i t A B C E F G H I,.b (.n 0 (.g [] [(992,384)] .e)) .e⟩],none,[]⟩
noncomputable def xI:AH:=⟨107,Tryz.f107,true,[.v 0,.agg [.y,.s,.s,.f 1,.y,.s,.q 3,.z,.s,.f 1,.q 8,.q 15,.q 15,.q 3,.z]],[.c [.a 1,.w 5,.z,.z],.c [.w 2,.w 3,.w 4],.m17,.m17,.l2,.m2],[⟨.one (.w (.o 0)),[.c [.a 1,.w 5,.z,.z],.c [.w 2,.w 3,.x 1],.m17,.m17,.o,.m2],[.n 216 [.h,.p (.e 0),.h],.l2]⟩],Int×Int×LD×LD×LD×LD×LD,ii,Rs,.g [.move (.e 4)] [] .e,[⟨26,[0,3,4,13,14,15],[.e 0,.e 1,.e 2,.e 3,.e 4,.e 5,.o 0,.o 192],224,[.v 0,.u 0,.one (.nils false 1),.q 8,.z,.z],[.c [.a 1,.w 5,.z,.z],.c [.w 2,.w 3,.x 192],.m17,.m17,.o,.m2,.c [.y,.s,.s,.f 1,.y,.s,.q 3,.z,.s,.f 1,.q 8,.q 15,.q 15,.q 3,.z],.l2],fun n r t A i j B C k X Y Z l z5 s6 l7 z8 s9 E F G H I d J=>IK n X Y Z l z5 s6 l7 z8 s9 E r G H I d t A i j B C k F J,.b (.n 0 (.g [] [(448,192)] .e)) (.b .e (.b .e (.b .e (.b .e (.b .e (.b (.n 0 (.g [.fnlS 7 216 [.h,.p (.e 0),.h]] [(768,672),(736,608)] .e)) (.b .e (.b (.n 0 (.g [.fnlS 7 216 [.h,.p (.e 0),.h]] [(800,672),(768,608)] .e)) (.b .e (.b (.n 2 (.g [] [(1408,672),(1344,608)] .e)) (.b .e (.b (.n 0 (.g [.fnlS 7 216 [.h,.p (.e 0),.h]] [(832,672),(800,608)] .e)) (.b .e (.b (.n 0 (.g [.fnlS 7 216 [.h,.p (.e 0),.h]] [(896,672),(864,608)] .e)) (.b .e (.b (.n 0 (.g [.fnlS 7 216 [.h,.p (.e 0),.h]] [(1568,672),(1280,608)] .e)) (.b .e (.b (.n 0 (.g [.freeze (.o 1376)] [] (.g [.fnlS 7 216 [.h,.p (.e 0),.h]] [(1440,672),(1408,608)] .e))) (.n 1 (.g [.fnlS 7 216 [.h,.p (.e 0),.h]] [(1312,672),(1280,608)] .e))))))))))))))))))))⟩,
 ⟨7867,[0,3,4,7,24],[.e 0,.e 1,.e 2,.e 3,.e 4,.e 5,.o 0,.o 1408],1440,[.v 0,.u 0,.one (.nils false 1),.one (.nils false 1),.y],[.c [.a 1,.w 5,.z,.z],.c [.w 2,.w 3,.x 1408],.m17,.m17,.o,.m2,.c [.y,.s,.s,.f 1,.y,.s,.q 3,.z,.s,.f 1,.q 8,.q 15,.q 15,.q 3,.z],.l2],fun n _ i j K L k M _ _ l _ _ _ _ _ _ _ _ _ _ d N=>Gy n l d i j k K L M N,.g [.fnlS 7 216 [.h,.p (.e 0),.h]] [] .e⟩,
 ⟨31470,[0,3,4,7,24,78,79,80],[.e 0,.e 1,.e 2,.e 3,.e 4,.e 5,.o 0,.o 1568,.o 1408],1600,[.v 0,.u 0,.one (.nils false 1),.w (.o 1568),.y,.f 1,.z,.z],[.c [.a 1,.w 5,.z,.z],.c [.w 2,.w 3,.x 1408],.m17,.m17,.o,.m2,.c [.y,.s,.s,.f 1,.y,.s,.q 3,.z,.s,.f 1,.q 8,.q 15,.q 15,.q 3,.z],.n 216 [.h,.p (.e 0),.h],.l2],fun n _ l O P Q R S T U _ _ _ V _ _ _ _ _ _ _ _ _ _ d W m=>IL n l d O P Q R S T U V W m,.b (.n 1 (.g [] [(1952,1568),(1888,1408)] .e)) (.g [] [(1568,672),(1408,608)] .e)⟩,
 ⟨31,[4,7],[.e 0,.e 1,.e 2,.e 3,.e 4,.e 5,.o 672,.o 608],1632,[.one (.nils false 1),.w (.o 672)],[.c [.a 1,.w 5,.z,.z],.c [.w 2,.w 3,.x 608],.m17,.m17,.o,.m2,.n 216 [.h,.p (.e 0),.h],.l2],Cz,.e⟩],none,[]⟩
theorem ACf:Bb Tryz.prog inv (D3 [sN,ACc,ACd,sO,ACe,xI]):=grD [AIx,ABv,AIz,ACb,AKh,AKj,AKl,L4,k58,k59,k62] d216 (by simp[sN,ACc,ACd,sO,ACe,xI]) ⟨⟨Tryz.func60,by kernel_rfl,by kernel_rfl,by kernel_rfl⟩,⟨Tryz.func153,by kernel_rfl,by kernel_rfl,by kernel_rfl⟩,⟨Tryz.func151,by kernel_rfl,by kernel_rfl,by kernel_rfl⟩,⟨Tryz.func60,by kernel_rfl,by kernel_rfl,by kernel_rfl⟩,⟨Tryz.func152,by kernel_rfl,by kernel_rfl,by kernel_rfl⟩,⟨Tryz.func107,by kernel_rfl,by kernel_rfl,by kernel_rfl⟩,trivial⟩
def AKm:Kz:=⟨xI.c,ACf.2.2.2.2.2.1⟩
def zP (n:Nat) (u:Int) (v:Int) (w:LD) (x:LD) (y:LD) (z:LD) (A:Int) (B:BA) (C:LD) (i:Int) (j:BA) (k:LD) (l:LD) (a:Int) (b:Int) (c:BA) (d:BA) (e:BA) (f:LD) (g:LD) (h:Int) (m:Int):Option (Int×Int×LD×LD×LD×Int×BA×LD×Int×BA×LD×LD×Int×Int×BA×BA×BA×LD×LD×Int×Int×LD):=
 Lw (mV n a b c d e f g h u v w x y z) fun o p q r s t=>some (o,p,q,r,s,A,B,C,i,j,k,l,a,b,c,d,e,f,g,h,m,t)
noncomputable def X61:AH:=⟨61,Tryz.f61,false,[.v 0,.v 7],[.c [.a 1],.c [.a 2,.w 6,.z,.z],.c [.w 3,.w 4,.w 5],.m17,.m17,.l2,.m2,.c [.y,.s,.q 4,.y,.s,.q 3,.q 15,.y,.z,.s,.s,.s,.f 1,.q 8,.z,.z]],[⟨.tup [],[.c [.a 1],.c [.a 2,.w 6,.z,.z],.c [.w 3,.w 4,.x 0],.m17,.m17,.o,.m2,.c [.y,.s,.q 4,.y,.s,.q 3,.q 15,.y,.z,.s,.s,.s,.f 1,.q 8,.z,.z]],[.l2]⟩],Int×Int×LD×LD×LD×Int×BA×LD×Int×BA×LD×LD×Int×Int×BA×BA×BA×LD×LD×Int×Int×LD,ii,zP,.e,[],none,[]⟩
def k61:Kz:=sg X61 [k62] Tryz.func61
def KW:Nat->LD->Int->Int->LD->LD->LD->Int->BA->LD->Int->BA->LD->LD->Int->Int->BA->BA->BA->LD->LD->Int->Int->LD->Option (Int×Int×LD×LD×LD×Int×BA×LD×Int×BA×LD×LD×Int×Int×BA×BA×BA×LD×LD×Int×Int×LD)
 | 0,_,_,_,_,_,_,_,_,_,_,_,_,_,_,_,_,_,_,_,_,_,_,_=>none
 | n+1,I,j,k,l,m,o,p,q,r,s,t,u,v,w,a,b,c,d,e,f,g,h,i=>
  Eg I (some (j,k,l,m,o,p,q,r,s,t,u,v,w,a,b,c,d,e,f,g,h,i)) fun x y=>Ch x fun z A=>Lw (O7 n z A j k l m i o) fun B C E F G H=>KW n y B C E F H p q r s t u v w a b c d e f g h G
mutual
def MC:Nat->LD->Int->BA->LD->Int->BA->LD->LD->Int->Int->BA->BA->BA->LD->LD->Int->Int->Int->Int->LD->Int->Int->LD->LD->LD->LD->Option (Int×Int×LD×LD×LD×Int×BA×LD×Int×BA×LD×LD×Int×Int×BA×BA×BA×LD×LD×Int×Int×LD)
 | 0,_,_,_,_,_,_,_,_,_,_,_,_,_,_,_,_,_,_,_,_,_,_,_,_,_,_=>none
 | n+1,A,B,C,c,d,e,f,g,h,i,j,k,l,m,o,p,q,r,a,E,F,G,H,I,J,K=>
  (if a<r then Ae A a fun M=>Ba M fun N O P Q R S T U V W X Y Z aa ab=>jE (Rs n N O P Q R S T U V W X Y Z aa ab F G H I K J) fun t u v w x b y=>AO b fun z=>MD n A B C c d e f g h i j k l m o p q r a t u v w x b y z 0 E else Ys (zP n F G H I K J B C c d e f g h i j k l m o p q) fun ac ad ae af ag ah ai aj ak am an ao aq ar au av aw ax ay az aA aB=>KW n E ac ad ae af ag ah ai aj ak am an ao aq ar au av aw ax ay az aA aB)
def MD:Nat->LD->Int->BA->LD->Int->BA->LD->LD->Int->Int->BA->BA->BA->LD->LD->Int->Int->Int->Int->Int->Int->LD->LD->LD->LD->LD->Int->Int->LD->Option (Int×Int×LD×LD×LD×Int×BA×LD×Int×BA×LD×LD×Int×Int×BA×BA×BA×LD×LD×Int×Int×LD)
 | 0,_,_,_,_,_,_,_,_,_,_,_,_,_,_,_,_,_,_,_,_,_,_,_,_,_,_,_,_,_=>none
 | n+1,A,B,C,c,d,e,f,g,h,i,j,k,l,m,o,p,q,r,a,t,u,v,w,x,b,y,z,s,L=>
  (if s<z then Be (0<=s/\s.toNat<b.length) (DV b (s.toNat) fun aC=>Ch aC fun aD aE=>AW (IntKind.wrap .i64 (s+1)) fun aF=>MD n A B C c d e f g h i j k l m o p q r a t u v w x b y z aF (.agg [.bool aD,.str aE]::L))else AW (IntKind.wrap .i64 (a+1)) fun aG=>MC n A B C c d e f g h i j k l m o p q r aG L t u v w x y)
end
def xJ (n:Nat) (q:LD) (r:Int) (s:Int) (t:LD) (u:LD) (v:LD) (w:LD) (x:Int) (y:BA) (a:LD) (b:Int) (c:BA) (d:LD) (e:LD) (f:Int) (g:Int) (h:BA) (i:BA) (j:BA) (k:LD) (l:LD) (m:Int) (o:Int):Option (Int×Int×LD×LD×LD×Int×BA×LD×Int×BA×LD×LD×Int×Int×BA×BA×BA×LD×LD×Int×Int×LD):=
 AO q fun p=>MC n q x y a b c d e f g h i j k l m o p 0 ([]:LD) r s t u w v
noncomputable def X60:AH:=⟨60,Tryz.f60,false,[.v 0,.q 15,.one (.fn 61 [.e 6,.e 7])],[.c [.a 1,.w 5,.z,.z],.c [.w 2,.w 3,.w 4],.m17,.m17,.l2,.m2,.c [.a 0],.c [.y,.s,.q 4,.y,.s,.q 3,.q 15,.y,.z,.s,.s,.s,.f 1,.q 8,.z,.z]],[⟨.tup [],[.c [.a 1,.w 5,.z,.z],.c [.w 2,.w 3,.x 0],.m17,.m17,.o,.m2,.c [.a 0],.c [.y,.s,.q 4,.y,.s,.q 3,.q 15,.y,.z,.s,.s,.s,.f 1,.q 8,.z,.z]],[.l2]⟩],Int×Int×LD×LD×LD×Int×BA×LD×Int×BA×LD×LD×Int×Int×BA×BA×BA×LD×LD×Int×Int×LD,ii,xJ,.g [.move (.e 4)] [] .e,[⟨10,[0,2,10,11,12,1000],[.e 0,.e 1,.e 2,.e 3,.e 4,.e 5,.e 6,.e 7,.o 96],128,[.v 0,.one (.fn 61 [.e 6,.e 7]),.q 15,.z,.z,.df 216 [.h,.p (.e 0),.h]],[.c [.a 1,.w 5,.z,.z],.c [.w 2,.w 3,.x 96],.m17,.m17,.o,.m2,.c [.a 0],.c [.y,.s,.q 4,.y,.s,.q 3,.q 15,.y,.z,.s,.s,.s,.f 1,.q 8,.z,.z],.l2],fun n I d i J K L M N O P Q j k l m r t u A B C E F G H R=>MC n I P Q j k l m r t u A B C E F G H d i J K L M N O R,.e⟩,
 ⟨2662,[0,2,10,11,12,18,19,20,1000],[.e 0,.e 1,.e 2,.e 3,.e 4,.e 5,.e 6,.e 7,.o 352,.o 353],448,[.v 0,.one (.fn 61 [.e 6,.e 7]),.q 15,.z,.z,.w (.o 352),.z,.z,.df 216 [.h,.p (.e 0),.h]],[.c [.a 1,.w 5,.z,.z],.c [.w 2,.w 3,.x 353],.m17,.m17,.o,.m2,.c [.a 0],.c [.y,.s,.q 4,.y,.s,.q 3,.q 15,.y,.z,.s,.s,.s,.f 1,.q 8,.z,.z],.n 216 [.h,.p (.e 0),.h],.l2],fun n I d i S T U V W X Y Z P Q j k l m r t u A B C E F G H aa ab=>MD n I P Q j k l m r t u A B C E F G H d i V W X Y Z aa ab S T U,.b .e (.g [] [(353,96)] .e)⟩,
 ⟨0,[1000],[.e 0,.e 1,.e 2,.e 3,.e 4,.e 5,.e 6,.e 7,.o 192],224,[.df 216 [.h,.p (.e 0),.h]],[.c [.a 1,.w 5,.z,.z],.c [.w 2,.w 3,.x 192],.m17,.m17,.o,.m2,.c [.a 0],.c [.y,.s,.q 4,.y,.s,.q 3,.q 15,.y,.z,.s,.s,.s,.f 1,.q 8,.z,.z],.l2],KW,.e⟩],some (216,[.h,.p (.e 0),.h]),[Wo.c]⟩
def k60:Kz:=sgF X60 [AKm,ACb,k61] d216 rfl Tryz.func60 (by kernel_rfl) (by kernel_rfl) (by kernel_rfl)
def xK (n:Nat) (b:LD) (a:LD) (c:LD):Option (LD×LD×LD):=
 (findF true (.str Gg) a (fun r=>BZ r fun G H s t I u v w x y z A B C E F=>AO s fun d=>(if d=0 then (if t=1 then Dq (Bh n true 62 0 b a c) fun e f g=>some (e,f,g)else Dq (Bh n false 62 0 b a c) fun h i j=>some (h,i,j))else Dq (Bh n false 62 0 b a c) fun k l m=>some (k,l,m))) (Dq (Bh n false 62 0 b a c) fun o p q=>some (o,p,q)))
noncomputable def X63:AH:=⟨63,Tryz.f63,false,[.v 0],[.c [.w 1,.w 2,.w 3],.m17,.m17,.l2],[⟨.tup [],[.c [.w 1,.w 2,.x 0],.m17,.m17,.o],[.l2]⟩],LD×LD×LD,ii,xK,.e,[],none,[]⟩
def k63:Kz:=sg X63 [L4] Tryz.func63
mutual
def I0:Nat->LD->LD->Int->Int->LD->LD->LD->Option LD
 | 0,_,_,_,_,_,_,_=>none
 | n+1,x,w,y,h,B,C,E=>
  (if h<y then Ae x h fun N=>BZ N fun c i a d e f g j k l m o p q r b=>Be (0<=h/\h.toNat<w.length) (DV w (h.toNat) fun O=>FP O fun P=>Ax (!P) fun Q=>Dq (Bh n Q 60 b B C E) fun R S T=>Dq (xF n c i a d e f g j k l m o p q r b R S T) fun F G H=>(if c=3 then Dq (ZO n d e f b F G H) fun U V W=>Dq (sM n U V W) fun s t u=>AO a fun v=>ME n x w y h c i a d e f g j k l m o p q r b s t u v 0 a ([]:LD)else AW (IntKind.wrap .i64 (h+1)) fun X=>I0 n x w y X F G H))else Dq (xK n B C E) fun ao aq Y=>some Y)
def ME:Nat->LD->LD->Int->Int->Int->BA->LD->Int->BA->LD->LD->Int->Int->BA->BA->BA->LD->LD->Int->Int->LD->LD->LD->Int->Int->LD->LD->Option LD
 | 0,_,_,_,_,_,_,_,_,_,_,_,_,_,_,_,_,_,_,_,_,_,_,_,_,_,_,_=>none
 | n+1,x,w,y,h,c,i,a,d,e,f,g,j,k,l,m,o,p,q,r,b,s,t,u,v,z,A,I=>
  (if z<v then Ae a z fun Z=>Bt Z fun aa ar au av=>B5 (.str aa) [.bool true] I fun ab=>AW (IntKind.wrap .i64 (z+1)) fun ac=>ME n x w y h c i a d e f g j k l m o p q r b s t u v ac A ab else AO A fun ad=>Ys (xJ n g ad 0 s t u I c i A d e f g j k l m o p q r b) fun ae aw J K ax ay az aA aB aC aD aE aF aG aH aI aJ aK aL aM L M=>(if ae<=60 then Dq (Bh n true 4 L J K M) fun af ag ah=>AW (IntKind.wrap .i64 (h+1)) fun ai=>I0 n x w y ai af ag ah else Dq (Bh n false 4 L J K M) fun aj ak am=>AW (IntKind.wrap .i64 (h+1)) fun an=>I0 n x w y an aj ak am))
end
def xL (n:Nat) (a:LD):Option LD:=
 Au (xD n a) fun b=>Ax (!b) fun c=>(if c=true then Gf [.agg [.int .i64 2,.int .i64 0]] fun d=>some d else Dq (xE n a ([]:LD) ([]:LD)) fun e f g=>AO a fun h=>I0 n a g h 0 e f ([]:LD))
noncomputable def X20:AH:=⟨20,Tryz.f20,true,[.agg [.q 16]],[],[⟨.one (.w (.o 0)),[],[.l2]⟩],LD,ii,xL,.n 0 (.b (.b .e (.n 0 (.g [.treeC (.o 256) 2 true 2] [] .e))) .e),[⟨250,[2,3,4,23,24,25],[.o 256,.o 160,.o 192,.o 576,.o 384],608,[.one (.nils true 2),.u 256,.w (.o 384),.q 16,.z,.z],[.c [.x 160,.x 192,.x 576],.m17,.m17,.l2,.f1],fun n a d h i j l m=>I0 n a m d h i j l,.b (.n 1 (.b (.b .e (.g [] [(1184,576)] .e)) .e)) .e⟩,
 ⟨8205274,[2,3,4,6,7,23,24,25,54,55,56],[.o 256,.o 160,.o 192,.o 1472,.o 384,.o 736,.o 1568,.o 1536,.o 1537],1760,[.one (.nils true 2),.u 256,.w (.o 384),.u 736,.u 1568,.q 16,.z,.z,.q 4,.z,.z],[.c [.x 160,.x 192,.x 1472],.m17,.m17,.l2,.f1,.c [.y,.s,.q 4,.y,.s,.q 3,.q 15,.y,.z,.s,.s,.s,.f 1,.q 8,.z,.z],.c [.ptr (.o 1536) 0],.c [.ptr (.o 256) 0,.x 1537,.k 0,.k 0],.m2],fun n a d h p r t v A B m C E F G H I J K L M N O P Q R S T=>ME n a m d h C E p G H I J K L M N O P Q R S v A B r t F T,.b .e (.n 1 (.g [] [(2432,576)] .e))⟩],none,[]⟩
def k20:Kz:=sg X20 [k55,k54,L4,k57,k58,k59,k60,k63] Tryz.func20
mutual
def UT:Nat->Int->BA->LD->Int->Int->LD->LD->Option (Int×BA×LD)
 | 0,_,_,_,_,_,_,_=>none
 | n+1,b,c,a,d,e,o,m=>
  (if e<d then Ae a e fun p=>D0 p fun q f g=>Dq (F64 n q f g) fun h i j=>Bw 48 m ([.agg [.int .u8 h,.str i,.list true 3 j]]) fun k=>AW (IntKind.wrap .i64 (e+1)) fun l=>UT n b c a d l o k else some (b,c,m))
def F64:Nat->Int->BA->LD->Option (Int×BA×LD)
 | 0,_,_,_=>none
 | n+1,b,c,a=>
  AO a fun d=>UT n b c a d 0 a ([]:LD)
end
noncomputable def X64:AH:=⟨64,Tryz.f64,true,[.agg [.y,.s,.q 3]],[],[⟨.one (.mix [.y,.s,.x 0]),[],[.l true 3]⟩],Int×BA×LD,ii,F64,.g [.treeS 3 true 3] [] .e,[⟨58,[1,2,3,7,8,9],[.o 0,.o 32,.o 224],256,[.u 0,.u 32,.w (.o 224),.q 3,.z,.z],[.c [.y,.s,.q 3],.c [.ci .u8 0,.cs ByteArray.empty,.nils true 3],.l true 3],fun n a d f h i j k=>UT n h i a d f j k,.b (.n 1 (.g [] [(544,224)] .e)) .e⟩],none,[]⟩
theorem K64:Bb Tryz.prog inv (D3 [X64]):=gr [] ⟨ge Tryz.func64,trivial⟩
def k64:Kz:=⟨X64.c,K64.1⟩
def UU:Nat->Int->BA->LD->Int->Int->LD->LD->Option (Int×BA×LD)
 | 0,_,_,_,_,_,_,_=>none
 | n+1,p,q,r,b,a,d,c=>
  (if a<b then Ae r a fun e=>Bt e fun f g h i=>Dq (F64 n g h i) fun j k l=>Bw 64 c ([.agg [.str f,.int .u8 j,.str k,.list true 3 l]]) fun m=>AW (IntKind.wrap .i64 (a+1)) fun o=>UU n p q r b o d m else some (p,q,c))
def xM (n:Nat) (c:Int) (d:BA) (a:LD) (l:Int) (m:BA) (o:LD) (p:LD) (q:Int) (r:Int) (e:BA) (f:BA) (g:BA) (h:LD) (i:LD) (j:Int) (k:Int):Option (Int×BA×LD):=
 AO a fun b=>UU n c d a b 0 a ([]:LD)
noncomputable def X21:AH:=⟨21,Tryz.f21,true,[.agg [.y,.s,.q 4,.y,.s,.q 3,.q 15,.y,.z,.s,.s,.s,.f 1,.q 8,.z,.z]],[],[⟨.one (.mix [.y,.s,.x 0,.ci .u8 0,.cs ByteArray.empty,.x 1,.x 2,.ci .u8 0,.k 0,.cs ByteArray.empty,.cs ByteArray.empty,.cs ByteArray.empty,.x 3,.x 4,.k 0,.k 0]),[],[.l4,.te .row true 3,.te .row true 15,.te .row false 1,.te .row true 8]⟩],Int×BA×LD,ii,xM,.g [.treeS 3 true 4] [] .e,[⟨58,[1,2,3,7,8,9],[.o 0,.o 32,.o 224],256,[.u 0,.u 32,.w (.o 224),.q 4,.z,.z],[.c [.y,.s,.q 4,.y,.s,.q 3,.q 15,.y,.z,.s,.s,.s,.f 1,.q 8,.z,.z],.c [.ci .u8 0,.cs ByteArray.empty,.nils true 4,.ci .u8 0,.cs ByteArray.empty,.nils true 3,.nils true 15,.ci .u8 0,.k 0,.cs ByteArray.empty,.cs ByteArray.empty,.cs ByteArray.empty,.nils false 1,.nils true 8,.k 0,.k 0],.l4],fun n j a d l m h _ _ _ _ _ _ _ _ _ _ _ _ _ i=>UU n l m j a d h i,.b (.n 0 (.g [] [(672,224)] .e)) (.g [.treeC (.o 32) 5 true 3,.treeC (.o 32) 6 true 15,.treeC (.o 32) 12 false 1,.treeC (.o 32) 13 true 8] [] .e)⟩],none,[]⟩
def k21:Kz:=sg X21 [k64] Tryz.func21
def Oa (n:Nat) (o:Int) (p:LD) (q:Int) (r:BA) (s:Int) (t:Int) (u:LD) (v:LD) (w:LD) (a:LD) (b:LD):Option (Int×LD×Int×BA×Int×Int×LD×LD×LD×LD×LD):=
 BW (B3 n o 0 0 0 0 ByteArray.empty p q r s t u v w a b) fun c d e f g h i j k l m=>some (c,d,e,f,g,h,i,j,k,l,m)
noncomputable def AKn:AH:=⟨221,Tryz.f221,true,[.v 0,.y],[.c [.q 16,.w 1,.z,.w 2,.w 3,.s,.z,.z,.w 4,.w 5],.l4,.l16,.t .flat true 2,.l9,.i2],[⟨.one (.fz 247 [.p (.e 0),.d (.z)]),[.c [.q 16,.x 0,.z,.x 1,.x 2,.s,.z,.z,.x 3,.w 5],.o,.o,.o,.o,.i2],[.l4,.l16,.t .flat true 2,.l9]⟩],Int×LD×Int×BA×Int×Int×LD×LD×LD×LD×LD,ii,Oa,.w (.g [.cloz 4] [] .e),[],none,[]⟩
def AKo:Kz:=sg AKn [G7] Tryz.func221
def O8 (n:Nat) (b:Int) (p:LD) (q:Int) (r:BA) (s:Int) (t:Int) (u:LD) (v:LD) (w:LD) (a:LD) (c:LD):Option (LD×Int×BA×Int×Int×LD×LD×LD×LD×LD):=
 AO a fun d=>Be (0<=b/\b.toNat<a.length) (DV a (b.toNat) fun e=>Ci e fun f x g h i j k l m=>O3 a (b.toNat) (.agg [.int .u8 f,.int .i64 d,.int .i64 g,.int .i64 h,.list false 1 i,.list false 1 j,.int .i64 k,.str l,.list false 1 m]) fun o=>some (p,q,r,s,t,c,u,v,w,o))
noncomputable def AKp:AH:=⟨247,Tryz.f247,true,[.one (.fb (.e 0)),.rp [.z]],[.c [.q 16,.w 1,.z,.w 2,.w 3,.s,.z,.z,.w 4,.w 5],.l4,.l16,.t .flat true 2,.l9,.i2],[⟨.tup [],[.c [.q 16,.x 0,.z,.x 1,.x 2,.s,.z,.z,.x 3,.w 5],.o,.o,.o,.o,.i2],[.l4,.l16,.t .flat true 2,.l9]⟩],LD×Int×BA×Int×Int×LD×LD×LD×LD×LD,ii,O8,.g [.move (.e 1),.move (.e 2),.move (.e 3),.close (.e 4),.move (.e 4)] [] .e,[],none,[]⟩
def AKq:Kz:=sg AKp [] Tryz.func247
mutual
def MF:Nat->Int->Int->BA->BA->BA->LD->LD->Int->Int->Int->LD->Int->BA->Int->Int->LD->LD->LD->LD->LD->LD->Option (LD×Int×BA×Int×Int×LD×LD×LD×LD×LD)
 | 0,_,_,_,_,_,_,_,_,_,_,_,_,_,_,_,_,_,_,_,_,_=>none
 | n+1,a,m,o,p,q,r,v,s,t,u,b,c,d,e,f,g,l,h,i,j,k=>
  (if u<t then Ae v u fun aq=>Bj aq fun ar au av aw ax ay az aA=>BO (lP n ar au av aw ax ay az aA b c d e f h i j k g) fun aB aC aD aE aF aG aH aI aJ aK=>AW (IntKind.wrap .i64 (u+1)) fun aL=>MF n a m o p q r v s t aL aB aC aD aE aF aG l aH aI aJ aK else uK (vC n) (AW (IntKind.wrap .i64 a) fun aM=>(if aM<37 then Be (0<=a/\a<37) ((if FE [0,24,25,28,32,33,34,35,36] a.toNat=true then BO (Wn n a m o p q r l s b c d e f h i j k g) fun aN aO aP aQ aR aS aT aU aV aW=>some (aN,aO,aP,aQ,aR,aS,aT,aU,aV,aW)else (if FE [1,2,3] a.toNat=true then BO (We n a m o p q r l s b c d e f h i j k g) fun aX aY aZ a0 a1 a2 a3 a4 a5 a6=>some (aX,aY,aZ,a0,a1,a2,a3,a4,a5,a6)else (if FE [4,5,6] a.toNat=true then BO (Wf n a m o p q r l s b c d e f h i j k g) fun a7 a8 a9 ba bb bc bd be bf bg=>some (a7,a8,a9,ba,bb,bc,bd,be,bf,bg)else (if FE [7,8] a.toNat=true then BO (Wg n a m o p q r l s b c d e f h i j k g) fun bh bi bj bl bm bn bo bp bq br=>some (bh,bi,bj,bl,bm,bn,bo,bp,bq,br)else (if FE [9,10,11,12,13,14,15,16,17] a.toNat=true then BO (Wh n a m o p q r l s b c d e f h i j k g) fun bs bt bu bv bw bx bz w x y=>some (bs,bt,bu,bv,bw,bx,bz,w,x,y)else (if FE [18] a.toNat=true then BO (Wi n a m o p q r l s b c d e f h i j k g) fun z A B C E F G H I J=>some (z,A,B,C,E,F,G,H,I,J)else (if FE [19,20] a.toNat=true then BO (Wk n a m o p q r l s b c d e f h i j k g) fun K L M N O P Q R S T=>some (K,L,M,N,O,P,Q,R,S,T)else (if FE [21,23,26,27,29,31] a.toNat=true then BO (Wl n a m o p q r l s b c d e f h i j k g) fun U V W X Y Z aa ab ac ad=>some (U,V,W,X,Y,Z,aa,ab,ac,ad)else (if FE [22,30] a.toNat=true then BO (Wm n a m o p q r l s b c d e f h i j k g) fun ae af ag ah ai aj ak am an ao=>some (ae,af,ag,ah,ai,aj,ak,am,an,ao)else none))))))))))else some (b,c,d,e,f,g,h,i,j,k))))
def lP:Nat->Int->Int->BA->BA->BA->LD->LD->Int->LD->Int->BA->Int->Int->LD->LD->LD->LD->LD->Option (LD×Int×BA×Int×Int×LD×LD×LD×LD×LD)
 | 0,_,_,_,_,_,_,_,_,_,_,_,_,_,_,_,_,_,_=>none
 | n+1,a,m,o,p,q,r,v,s,l9,bA,bB,bC,bD,bE,bF,bG,bH,bI=>
  AO v fun t=>MF n a m o p q r v s t 0 l9 bA bB bC bD bI v bE bF bG bH
end
noncomputable def X67:AH:=⟨67,Tryz.f67,true,[.v 0,.agg [.y,.z,.s,.s,.s,.f 1,.q 8,.z]],[.c [.q 16,.w 1,.z,.w 2,.w 3,.s,.z,.z,.w 4,.w 5],.l4,.l16,.t .flat true 2,.l9,.i2],[⟨.tup [],[.c [.q 16,.x 0,.z,.x 1,.x 2,.s,.z,.z,.x 3,.w 5],.o,.o,.o,.o,.i2],[.l4,.l16,.t .flat true 2,.l9]⟩],LD×Int×BA×Int×Int×LD×LD×LD×LD×LD,ii,lP,.g [.move (.e 1),.move (.e 2),.move (.e 3),.move (.e 4)] [] .e,[⟨26,[0,3,8,9,10],[.e 0,.e 1,.e 2,.e 3,.e 4,.e 5,.o 0,.o 160,.o 192,.o 224,.o 256],288,[.v 0,.u 0,.q 8,.z,.z],[.c [.q 16,.x 160,.z,.x 192,.x 224,.s,.z,.z,.x 256,.w 5],.o,.o,.o,.o,.i2,.c [.y,.z,.s,.s,.s,.f 1,.q 8,.z],.l4,.l16,.t .flat true 2,.l9],fun n E a d h i j k l m F G H I J K p L r A B C=>MF n F G H I J K E L a d h i j k l m p r A B C,.b (.n 0 (.g [] [(512,160),(513,192),(514,224),(515,256)] .e)) (.n 0 (.b (.b (.w .e) .e) .e))⟩],none,[]⟩
theorem K67:Bb Tryz.prog inv (D3 [X67]):=gr [AFz,AJh,AJk,AJm,AJo,AJq,AJx,AJz,AKb,AKd] ⟨ge Tryz.func67,trivial⟩
def k67:Kz:=⟨X67.c,K67.1⟩
def pV (n:Nat) (a:LD):Option LD:=
 some a
noncomputable def AKr:AH:=⟨111,Tryz.f111,true,[.f 1],[],[⟨.one (.one (.fn 167 [.loc 0])),[],[.c [.f 1]]⟩],LD,ii,pV,.e,[],none,[]⟩
def AKs:Kz:=sg AKr [] Tryz.func111
theorem AKt (n:Nat):∀⦃a b⦄,pV n a=some b->
  C0 Tryz.prog inv 111 [.d (.list false 1 a)] [] (.v (.c (.fn 167 [.loc 0]))) [] [.cells [.d (.list false 1 b)]]:=fun a b h=>AKs.ok n [.L a] _ h _ _ _ _ _ _ rfl rfl rfl rfl _ rfl
def Wt (n:Nat) (o:LD) (p:LD) (q:Int) (r:BA) (s:Int) (t:Int) (u:LD) (v:LD) (w:LD) (a:LD) (b:LD):Option (LD×Int×BA×Int×Int×LD×LD×LD×LD×LD):=
 Au (pV n o) fun c=>BO (US n p q r s t u v w a b c) fun d e f g h i j k l m=>some (d,e,f,g,h,i,j,k,l,m)
theorem T68 (n:Nat):∀⦃e f g i j k l m o a b r1 r2 r3 r4 r5 r6 r7 r8 r9 r10⦄,Wt n e f g i j k l m o a b=some (r1,r2,r3,r4,r5,r6,r7,r8,r9,r10)->
    C0 Tryz.prog inv 68 [.c (.ptr (.ext 0) 0),.d (.list false 1 e)] [.cells [.d (.list true 16 f),.ow (.ext 1),.d (.int .i64 g),.ow (.ext 2),.ow (.ext 3),.d (.str i),.d (.int .i64 j),.d (.int .i64 k),.ow (.ext 4),.ow (.ext 5)],.tree .row true 4 l none,.tree .row true 16 m none,.tree .flat true 2 o none,.tree .row true 9 a none,.tree (.fmap false) true 2 b none] (.t []) [.cells [.d (.list true 16 r1),.ow (.loc 0),.d (.int .i64 r2),.ow (.loc 1),.ow (.loc 2),.d (.str r3),.d (.int .i64 r4),.d (.int .i64 r5),.ow (.loc 3),.ow (.ext 5)],.gone,.gone,.gone,.gone,.tree (.fmap false) true 2 r6 none] [.tree .row true 4 r7 none,.tree .row true 16 r8 none,.tree .flat true 2 r9 none,.tree .row true 9 r10 none]:=by
 intro e f g i j k l m o a b r1 r2 r3 r4 r5 r6 r7 r8 r9 r10 h;unfold Wt at h;refine C0.of GY FL rM Tryz.func68 rfl (by kernel_rfl) rfl rfl rfl (fun M hM hI=>?_)
 try cbv
 refine K4 ?_
 try cbv
 refine K4 ?_
 try cbv
 replace h:=oL h;obtain⟨p,hr,h⟩:=h;refine oC rfl rfl ?_
 try cbv
 refine⟨true,?_⟩
 try cbv
 refine Kx hM hI [] (AKt _ hr) rfl (by simp) trivial trivial (by simp) ?_
 clear hr
 try cbv
 replace h:=TQ h;obtain⟨q,r,s,u,w,x,y,z,A,B,hr,h⟩:=h;refine Vg hM hI [.loc 96,.loc 0,.ext 0,.ext 1,.ext 2,.ext 3,.ext 4,.ext 5,.loc 64] [(2,.v (.c (.ptr (.loc 0) 0)))] rfl ⟨rfl,trivial⟩ (AKe _ hr) rfl (by simp) ⟨rfl,⟨rfl,⟨rfl,⟨rfl,⟨rfl,⟨rfl,⟨rfl,⟨rfl,⟨rfl,trivial⟩⟩⟩⟩⟩⟩⟩⟩⟩ ⟨trivial,⟨trivial,⟨trivial,⟨trivial,⟨trivial,⟨trivial,⟨trivial,⟨trivial,⟨trivial,trivial⟩⟩⟩⟩⟩⟩⟩⟩⟩ (by simp) ?_
 clear hr
 try cbv
 obtain⟨rfl,rfl,rfl,rfl,rfl,rfl,rfl,rfl,rfl,rfl⟩:=XY h;refine iW ?_
 try cbv
 exact⟨[.loc 128,.loc 129,.loc 130,.loc 131],rfl,rfl,⟨rfl,⟨rfl,trivial⟩⟩,⟨rfl,⟨rfl,⟨rfl,⟨rfl,trivial⟩⟩⟩⟩,trivial⟩
noncomputable def c68:BD:=⟨68,[.p (.ext 0) 0,.f 1],[.c [.q 16,.ow (.ext 1),.z,.ow (.ext 2),.ow (.ext 3),.str,.z,.z,.ow (.ext 4),.ow (.ext 5)],.l true 4,.l true 16,.t .flat true 2,.l true 9,.t (.fmap false) true 2],[⟨.tup [],[.c [.q 16,.ow (.loc 0),.z,.ow (.loc 1),.ow (.loc 2),.str,.z,.z,.ow (.loc 3),.ow (.ext 5)],.gone,.gone,.gone,.gone,.t (.fmap false) true 2],[.l true 4,.l true 16,.t .flat true 2,.l true 9]⟩],LD×Int×BA×Int×Int×LD×LD×LD×LD×LD,ii,Wt⟩
def k68:Kz:=⟨c68,fun n=>N9 fun a b k l m o q r s c d p h t u v w a b e f g i xs j=>by cases e;cases f;cases j;cases g;cases i;exact T68 n h⟩
def Ob (n:Nat) (l:Int) (m:Int) (o:Int) (p:Int) (q:Int) (r:BA) (s:LD) (t:Int) (u:BA) (b:Int) (c:Int) (d:LD) (e:LD) (f:LD) (g:LD) (h:LD) (i:LD):Option (Int×LD×Int×BA×Int×Int×LD×LD×LD×LD×LD):=
 Bw 128 g ([.agg [.int .u8 l,.int .i64 m,.int .i64 o,.int .i64 p,.list false 1 i,.list false 1 [],.int .i64 q,.str r,.list false 1 []]]) fun a=>AO a fun j=>AW (IntKind.wrap .i64 (j - 1)) fun k=>some (k,s,t,u,b,c,h,d,e,f,a)
noncomputable def ACh:AH:=⟨69,Tryz.f69,true,[.v 0,.mix [.y,.z,.z,.z,.w 6,.nils false 1,.z,.s,.nils false 1]],[.c [.q 16,.w 1,.z,.w 2,.w 3,.s,.z,.z,.w 4,.w 5],.l4,.l16,.t .flat true 2,.l9,.i2,.f1],[⟨.one (.z),[.c [.q 16,.x 0,.z,.x 1,.x 2,.s,.z,.z,.x 3,.w 5],.o,.o,.o,.o,.i2,.o],[.l4,.l16,.t .flat true 2,.l9]⟩],Int×LD×Int×BA×Int×Int×LD×LD×LD×LD×LD,ii,Ob,.g [.move (.e 1),.move (.e 2),.move (.e 3)] [] .e,[],none,[]⟩
def ACi:Kz:=sg ACh [] Tryz.func69
mutual
def KX:Nat->LD->Int->LD->Int->BA->Int->Int->LD->LD->LD->LD->LD->Option (LD×Int×BA×Int×Int×LD×LD×LD×LD×LD)
 | 0,_,_,_,_,_,_,_,_,_,_,_,_=>none
 | n+1,l1,z2,l3,z4,s5,z6,z7,l8,l9,i,j,b=>
  BW (pW n l1 z2 l3 z4 s5 z6 z7 l8 l9 i j b) fun C a0 hf a hg hh hi cz a5 f g=>BO (Wt n hi C a0 hf a hg cz a5 f g hh) fun c hj hk q W r cX hl hm a6=>some (c,hj,hk,q,W,r,cX,hl,hm,a6)
def G0:Nat->LD->Int->LD->Int->Int->Int->LD->Int->BA->Int->Int->LD->LD->LD->LD->LD->LD->Option (LD×Int×BA×Int×Int×LD×LD×LD×LD×LD)
 | 0,_,_,_,_,_,_,_,_,_,_,_,_,_,_,_,_,_=>none
 | n+1,d,a,s,e,E,X,O,P,aM,Q,aN,R,p,S,T,w,cA=>
  (if X<E then Ae d X fun hn=>Cv hn fun a7 aO U=>AO s fun V=>G1 n d a s e E X O P aM Q aN R p S T w a7 aO U V s 0 cA else AO p fun L=>IM n p L 0 O P aM Q aN R S T w cA)
def G1:Nat->LD->Int->LD->Int->Int->Int->LD->Int->BA->Int->Int->LD->LD->LD->LD->LD->BA->BA->LD->Int->LD->Int->LD->Option (LD×Int×BA×Int×Int×LD×LD×LD×LD×LD)
 | 0,_,_,_,_,_,_,_,_,_,_,_,_,_,_,_,_,_,_,_,_,_,_,_=>none
 | n+1,d,a,s,e,E,X,O,P,aM,Q,aN,R,p,S,T,w,a7,aO,U,V,a1,Y,F=>
  (if Y<V then Ae a1 Y fun ho=>Bt ho fun hp dG dH cH=>(if hp=a7 then DV F (e.toNat) fun dI=>Ci dI fun a8 Z a9 dJ G aa dK dL ba=>Be (0<=e/\e.toNat<F.length) (gd (e.toNat) (e.toNat) (AO F fun ab=>Be (0<=Y/\Y.toNat<G.length) (DV G (Y.toNat) fun dM=>B1 dM fun cI=>AW (IntKind.wrap .i64 (Y+1)) fun aS=>O3 G (Y.toNat) (.int .i64 ab) fun ac=>O3 F (e.toNat) (.agg [.int .u8 a8,.int .i64 Z,.int .i64 a9,.int .i64 dJ,.list false 1 ac,.list false 1 aa,.int .i64 dK,.str dL,.list false 1 ba]) fun bb=>G1 n d a s e E X O P aM Q aN R p S T w a7 aO U V a1 aS bb)))else DV F (e.toNat) fun dN=>Ci dN fun dO bc bd dP ad ae be bf bg=>AW (IntKind.wrap .i64 (Y+1)) fun dR=>O3 F (e.toNat) (.agg [.int .u8 dO,.int .i64 bc,.int .i64 bd,.int .i64 dP,.list false 1 ad,.list false 1 ae,.int .i64 be,.str bf,.list false 1 bg]) fun bh=>G1 n d a s e E X O P aM Q aN R p S T w a7 aO U V a1 dR bh)else (if aO=ByteArray.empty then BO (KX n U a O P aM Q aN S T w F R) fun bi bj dT dU bl bm af ag bn ah=>BO (Wt n ([]:LD) bi bj dT dU bl af ag bn ah bm) fun bo dV dX bp bq br ai aj ak am=>BW (Oa n 14 bo dV dX bp bq ai aj ak am br) fun bs dY bt d0 d1 bu bv an ao aq ar=>Bw 8 p ([.int .i64 bs]) fun bw=>AW (IntKind.wrap .i64 (X+1)) fun cJ=>G0 n d a s e E cJ dY bt d0 d1 bu bv bw an ao aq ar else BO (MO n aO O P aM Q aN S T w F R) fun bx cK d2 bz d3 bA d4 bB au bC=>Gf [.str aO] fun bD=>BO (KX n U a bx cK d2 bz d3 d4 bB au bC bA) fun bE av bF bG bH aw ax ay bI bJ=>BO (Wt n bD bE av bF bG bH ax ay bI bJ aw) fun bK bL bM bN az bO aA aB aC aD=>BW (Oa n 14 bK bL bM bN az aA aB aC aD bO) fun d5 d6 bP d7 cM bQ d8 bR bT bU aE=>Bw 8 p ([.int .i64 d5]) fun aF=>AW (IntKind.wrap .i64 (X+1)) fun d9=>G0 n d a s e E d9 d6 bP d7 cM bQ d8 aF bR bT bU aE))
def IM:Nat->LD->Int->Int->LD->Int->BA->Int->Int->LD->LD->LD->LD->LD->Option (LD×Int×BA×Int×Int×LD×LD×LD×LD×LD)
 | 0,_,_,_,_,_,_,_,_,_,_,_,_,_=>none
 | n+1,p,L,aG,cN,aT,cO,cQ,aU,aV,M,N,aW,aX=>
  (if aG<L then Be (0<=aG/\aG.toNat<p.length) (DV p (aG.toNat) fun ea=>B1 ea fun aY=>BO (O8 n aY cN aT cO cQ aU M N aW aX aV) fun aH bV bW bX bY aI bZ b0 b1 b2=>AW (IntKind.wrap .i64 (aG+1)) fun b3=>IM n p L b3 aH bV bW bX bY aI bZ b0 b1 b2)else some (cN,aT,cO,cQ,aU,aV,M,N,aW,aX))
def Wu:Nat->Int->BA->BA->LD->Int->BA->LD->Int->BA->LD->LD->LD->LD->LD->Int->Int->LD->Int->BA->Int->Int->LD->LD->LD->LD->LD->Option (LD×Int×BA×Int×Int×LD×LD×LD×LD×LD)
 | 0,_,_,_,_,_,_,_,_,_,_,_,_,_,_,_,_,_,_,_,_,_,_,_,_,_,_=>none
 | n+1,H,s2,s3,l4,z5,s6,l7,z8,s9,i,j,b,C,d,aL,a,x,k,y,z,A,f,g,c,h,B=>
  K2 (KQ n 4 s2 ([]:LD) x k y z A f g c h B) fun q W r I J t K u aP l m o v=>BW (Xw n q W 0 0 0 ByteArray.empty r I J t K u aP l m o ([]:LD) v ([]:LD)) fun iv hq b5 cY hr cZ b6 aQ da aR db=>BW (UR n 2 s3 hq b5 cY hr cZ aQ da aR db b6) fun s dd b7 hs ht de b8 b9 dg dh ca=>AO s fun a2=>Lv 8 (.int .i64 0) a2 a2 fun di=>BW (Ob n 16 0 0 0 0 s3 dd b7 hs ht de b8 b9 dg dh ca di) fun e cb hu hv dj dk dl dm hw hx cc=>AO d fun E=>G0 n d a s e E 0 cb hu hv dj dk dl ([]:LD) dm hw hx cc
def Wv:Nat->Int->BA->BA->LD->Int->BA->LD->Int->BA->LD->LD->LD->LD->LD->Int->Int->LD->Int->BA->Int->Int->LD->LD->LD->LD->LD->Option (LD×Int×BA×Int×Int×LD×LD×LD×LD×LD)
 | 0,_,_,_,_,_,_,_,_,_,_,_,_,_,_,_,_,_,_,_,_,_,_,_,_,_,_=>none
 | n+1,H,s2,s3,l4,z5,s6,l7,z8,s9,i,j,b,C,d,aL,a,x,k,y,z,A,f,g,c,h,B=>
  (if H=6 then BW (Oa n 15 x k y z A f g c h B) fun q hy hz hA dn t a6 u aP l m=>BO (KX n b a hy hz hA dn t u aP l m a6) fun o hB hC ce b5 hD hE hF b6 aQ=>BW (Oa n 14 o hB hC ce b5 hE hF b6 aQ hD) fun dp aR dq dr ds b7 a3 cf dt b8 b9=>BO (O8 n q aR dq dr ds b7 cf dt b8 b9 a3) fun dg du hG a2 hH dv cb dw dx dy=>BO (KX n C a dg du hG a2 hH cb dw dx dy dv) fun dz hI hJ dA eb cc hK hL O hM=>BO (O8 n dp dz hI hJ dA eb hK hL O hM cc) fun dC Q hN hO hP S T w cA hQ=>some (dC,Q,hN,hO,hP,S,T,w,cA,hQ)else (if H=7 then AO h fun cC=>Ae j 0 fun hR=>Bj hR fun hS V hT hU hV cD cE dG=>BO (lP n hS V hT hU hV cD cE dG x k y z A f g c h B) fun hW ec ed a8 Z ee cg G aa ch=>BW (Oa n 15 hW ec ed a8 Z cg G aa ch ee) fun ef ba ab eg cI cj eh ei ej ck ad=>BO (KX n b a ba ab eg cI cj ei ej ck ad eh) fun ae be bf ek aS ac bb el bh bx=>BW (B3 n 14 cC 0 0 0 ByteArray.empty ae be bf ek aS bb el bh bx ac) fun cK cl bz em en cm bB au bC bD bi=>BO (O8 n ef cl bz em en cm au bC bD bi bB) fun eo ep eq bl er af ag bn ah bo=>some (eo,ep,eq,bl,er,af,ag,bn,ah,bo)else (if H=8 then BO (Wu n H s2 s3 l4 z5 s6 l7 z8 s9 i j b C d aL a x k y z A f g c h B) fun es co et bq eu ai aj ak am ev=>some (es,co,et,bq,eu,ai,aj,ak,am,ev)else (if H=9 then BW (B3 n 32 0 0 0 0 ByteArray.empty x k y z A f g c h B) fun ip ew cp ex bu ey an ao aq ar bw=>BO (KX n b a ew cp ex bu ey ao aq ar bw an) fun bE av bF bG bH aw ax ay bI bJ=>BW (B3 n 34 0 0 0 0 ByteArray.empty bE av bF bG bH ax ay bI bJ aw) fun iq ez eA eB az eC aA aB aC aD cq=>some (ez,eA,eB,az,eC,aA,aB,aC,aD,cq)else (if H=10 then AO c fun cV=>AW (IntKind.wrap .i64 (a+cV)) fun bP=>AO l4 fun cr=>BW (B3 n 33 bP cr 0 0 ByteArray.empty x k y z A f g c h B) fun cM eD cs eE eF eG aE aF eH ct eI=>Bw 48 ct ([.agg [.list false 1 l4,.list true 15 b]]) fun eJ=>some (eD,cs,eE,eF,eG,aE,aF,eH,eJ,eI)else (if H=11 then BW (pU n s2 x k y z A f g c h B) fun aZ eK eL eM aU eN M N aW aX eO=>BW (B3 n 1 aZ 0 0 0 ByteArray.empty eK eL eM aU eN N aW aX eO M) fun aY aH bV bW bX bY aI bZ b0 b1 b2=>K2 (KQ n 30 s9 i aH bV bW bX bY bZ b0 b1 b2 aI) fun b3 eP cu eQ eR eS eT eU eV eW eX cv cw=>BW (Xw n b3 eP aZ 0 0 ByteArray.empty cu eQ eR eS eT eU eV eW eX cv ([]:LD) cw ([]:LD)) fun ir cx eY eZ e0 e1 e2 e3 e4 e5 e6=>BO (KX n b a cx eY eZ e0 e1 e3 e4 e5 e6 e2) fun e7 e8 e9 fa fb fc fe ff fg fh=>BW (B3 n 31 0 0 0 0 ByteArray.empty e7 e8 e9 fa fb fe ff fg fh fc) fun it fi fj fk fl fm fn fo fq fr fs=>Gf [.str s2] fun ft=>BO (Wt n ft fi fj fk fl fm fo fq fr fs fn) fun fu fv fw fx fy fz fA fB fC fD=>some (fu,fv,fw,fx,fy,fz,fA,fB,fC,fD)else (if H=13 then BO (KX n b a x k y z A f g c h B) fun fE fF fG fH fI fJ fK fL fM fN=>some (fE,fF,fG,fH,fI,fJ,fK,fL,fM,fN)else some (x,k,y,z,A,B,f,g,c,h))))))))
def G2:Nat->Int->BA->BA->LD->Int->BA->LD->Int->BA->LD->LD->LD->LD->LD->Int->Int->Int->Int->LD->Int->BA->Int->Int->LD->LD->LD->LD->LD->LD->Option (((LD×Int×BA×Int×Int×LD×LD×LD×LD×LD×LD) ⊕ (LD×LD×Int×BA×Int×Int×LD×LD×LD×LD×LD)))
 | 0,_,_,_,_,_,_,_,_,_,_,_,_,_,_,_,_,_,_,_,_,_,_,_,_,_,_,_,_,_=>none
 | n+1,H,s2,s3,l4,z5,s6,l7,z8,s9,i,j,b,C,d,aL,a,q,W,r,I,J,t,K,u,aP,l,m,o,v=>
  (if W<q then Ae j W fun hX=>Bj hX fun ce b5 cY dD hY b6 aQ dp=>(if H=7 then AW (IntKind.wrap .i64 (W+1)) fun dE=>G2 n H s2 s3 l4 z5 s6 l7 z8 s9 i j b C d aL a q dE r I J t K u aP l m o v else BO (lP n ce b5 cY dD hY b6 aQ dp r I J t K l m o v u) fun aR dq dr ds b7 a3 cf dt b8 b9=>AW (IntKind.wrap .i64 (W+1)) fun du=>G2 n H s2 s3 l4 z5 s6 l7 z8 s9 i j b C d aL a q du aR dq dr ds b7 a3 aP cf dt b8 b9)else (if H=1 then BO (MO n s2 r I J t K l m o v u) fun ca a2 hZ e h0 dw dx dy dz dl=>Gf [.str s2] fun dm=>some (.inl (ca,a2,hZ,e,h0,dw,dm,dx,dy,dz,dl))else (if H=2 then AO l4 fun dA=>BW (B3 n 13 0 dA 0 0 s2 r I J t K l m o v u) fun eb cc E h1 h2 P dC h3 h4 R p=>AO l4 fun cF=>IP n l4 cF 0 cc E h1 h2 P dC H l4 h3 h4 R p else (if H=3 then K2 (KQ n 8 s9 i r I J t K l m o v u) fun ab fO fP cj fQ bc bd ck ad ae fR fS bg=>BW (Xw n ab fO 0 0 0 ByteArray.empty fP cj fQ bc bd ck ad ae fR fS ([]:LD) bg ([]:LD)) fun aS ac fT fU fV fW fX cl fY fZ bA=>K2 (KQ n 7 s9 i ac fT fU fV fW cl fY fZ bA fX) fun cm f0 au f1 f2 f3 bj f4 f5 f6 bm af ag=>BW (Xw n cm f0 0 0 0 ByteArray.empty au f1 f2 f3 bj f4 f5 f6 bm af ([]:LD) ag ([]:LD)) fun iu ah f7 f8 co bp f9 br ai aj ak=>some (.inl (ah,f7,f8,co,bp,f9,([]:LD),br,ai,aj,ak))else (if H=4 then BO (MO n ByteArray.empty r I J t K l m o v u) fun am bs ga bt cp gb gc bv an ao=>Gf [.str ByteArray.empty] fun aq=>BO (Wt n aq am bs ga bt cp gc bv an ao gb) fun ar gg gj av gl gm gn aw ax ay=>some (.inl (ar,gg,gj,av,gl,gm,([]:LD),gn,aw,ax,ay))else (if H=5 then K2 (KQ n 8 s2 ([]:LD) r I J t K l m o v u) fun go gp bK bL bM bN az bO aA aB aC aD cq=>BW (Xw n go gp 0 0 0 ByteArray.empty bK bL bM bN az bO aA aB aC aD ([]:LD) cq ([]:LD)) fun cV gq cr gt bQ cs bR bT bU aE aF=>some (.inl (gq,cr,gt,bQ,cs,bR,([]:LD),bT,bU,aE,aF))else (if H=12 then BW (B3 n 27 0 0 0 z8 ByteArray.empty r I J t K l m o v u) fun cJ ct L gu aZ aT gv gw gx aV M=>BO (MO n s3 ct L gu aZ aT gw gx aV M gv) fun N gy gz gA aY aH gB gC gD gE=>BO (MO n s2 N gy gz gA aY gB gC gD gE aH) fun aI gF gG gH gI gJ gK cu gL gM=>Gf [.str s3,.str s2] fun gN=>some (.inl (aI,gF,gG,gH,gI,gJ,gN,gK,cu,gL,gM))else BO (Wv n H s2 s3 l4 z5 s6 l7 z8 s9 i aP b C d aL a r I J t K l m o v u) fun gO gP gQ gS gT cv cw gU cx gV=>some (.inl (gO,gP,gQ,gS,gT,cv,([]:LD),cw,gU,cx,gV)))))))))
def IP:Nat->LD->Int->Int->LD->Int->BA->Int->Int->LD->Int->LD->LD->LD->LD->LD->Option (((LD×Int×BA×Int×Int×LD×LD×LD×LD×LD×LD) ⊕ (LD×LD×Int×BA×Int×Int×LD×LD×LD×LD×LD)))
 | 0,_,_,_,_,_,_,_,_,_,_,_,_,_,_,_=>none
 | n+1,l4,cF,dF,w,gW,gX,cC,gY,U,V,a1,gZ,F,cD,cE=>
  (if dF<cF then Ae l4 dF fun h5=>B0 h5 fun dH=>BO (MO n dH w gW gX cC gY gZ F cD cE U) fun cH g0 g1 Z a9 cg G aa ch g2=>AW (IntKind.wrap .i64 (dF+1)) fun g3=>IP n l4 cF g3 cH g0 g1 Z a9 cg V a1 G aa ch g2 else some (.inr (a1,w,gW,gX,cC,gY,U,gZ,F,cD,cE)))
def Ww:Nat->Int->BA->BA->LD->Int->BA->LD->Int->BA->LD->LD->LD->LD->LD->Int->Int->LD->Int->BA->Int->Int->LD->LD->LD->LD->LD->Option (((LD×Int×BA×Int×Int×LD×LD×LD×LD×LD×LD) ⊕ (LD×LD×Int×BA×Int×Int×LD×LD×LD×LD×LD)))
 | 0,_,_,_,_,_,_,_,_,_,_,_,_,_,_,_,_,_,_,_,_,_,_,_,_,_,_=>none
 | n+1,H,s2,s3,l4,z5,s6,l7,z8,s9,i,j,b,C,d,aL,a,x,k,y,z,A,f,g,c,h,B=>
  AO j fun q=>G2 n H s2 s3 l4 z5 s6 l7 z8 s9 i j b C d aL a q 0 x k y z A B j f g c h
def KY:Nat->LD->Int->Int->Int->LD->Int->BA->Int->Int->LD->LD->LD->LD->LD->LD->Option (LD×Int×BA×Int×Int×LD×LD×LD×LD×LD×LD)
 | 0,_,_,_,_,_,_,_,_,_,_,_,_,_,_,_=>none
 | n+1,l1,z2,cy,a0,g4,a,g5,k,g6,cz,a5,f,g,c,h=>
  (if a0<cy then Ae l1 a0 fun h6=>Ba h6 fun q h7 h8 cX dn h9 a6 ia ib l m o v ic ce=>bS (Ww n q h7 h8 cX dn h9 a6 ia ib l m o v ic ce z2 g4 a g5 k g6 f g c h cz) (fun id=>BW (some id) fun ie ig dD cZ ih aQ da aR db s dd=>Bw 16 a5 da fun ij=>AW (IntKind.wrap .i64 (a0+1)) fun dj=>KY n l1 z2 cy dj ie ig dD cZ ih aQ ij aR db s dd) (fun ik=>BW (some ik) fun a3 cf de il im dE dh ca io di dv=>Be (HY a3=true) (Bw 16 a5 a3 fun cb=>AW (IntKind.wrap .i64 (a0+1)) fun dk=>KY n l1 z2 cy dk cf de il im dE dh cb ca io di dv))else some (g4,a,g5,k,g6,cz,a5,f,g,c,h))
def pW:Nat->LD->Int->LD->Int->BA->Int->Int->LD->LD->LD->LD->LD->Option (LD×Int×BA×Int×Int×LD×LD×LD×LD×LD×LD)
 | 0,_,_,_,_,_,_,_,_,_,_,_,_=>none
 | n+1,l1,z2,l3,z4,s5,z6,z7,l8,l9,i,j,b=>
  AO l1 fun cy=>KY n l1 z2 cy 0 l3 z4 s5 z6 z7 b ([]:LD) l8 l9 i j
end
noncomputable def AKu:AH:=⟨222,Tryz.f222,true,[.v 0,.q 15,.z],[.c [.q 16,.w 1,.z,.w 2,.w 3,.s,.z,.z,.w 4,.w 5],.l4,.l16,.t .flat true 2,.l9,.i2],[⟨.tup [],[.c [.q 16,.x 0,.z,.x 1,.x 2,.s,.z,.z,.x 3,.w 5],.o,.o,.o,.o,.i2],[.l4,.l16,.t .flat true 2,.l9]⟩],LD×Int×BA×Int×Int×LD×LD×LD×LD×LD,ii,KX,.n 0 (.g [.freeze (.o 128)] [] .e),[],none,[]⟩
noncomputable def AKv:AH:=⟨223,Tryz.f223,true,[.v 0,.agg [.y,.s,.s,.f 1,.y,.s,.q 3,.z,.s,.f 1,.q 8,.q 15,.q 15,.q 3,.z],.z],[.c [.q 16,.w 1,.z,.w 2,.w 3,.s,.z,.z,.w 4,.w 5],.l4,.l16,.t .flat true 2,.l9,.i2],[⟨.tup [],[.c [.q 16,.x 0,.z,.x 1,.x 2,.s,.z,.z,.x 3,.w 5],.o,.o,.o,.o,.i2],[.l4,.l16,.t .flat true 2,.l9]⟩],LD×Int×BA×Int×Int×LD×LD×LD×LD×LD,ii,Wu,.n 0 (.w (.n 0 (.w (.g [.fnlS 8 247 [.p (.e 0),.h]] [] .e)))),[⟨506,[0,2,6,7,8,36,37,38],[.e 0,.e 1,.e 2,.e 3,.e 4,.e 5,.o 864,.o 640,.o 641,.o 642,.o 643],896,[.v 0,.z,.q 4,.z,.w (.o 864),.q 3,.z,.z],[.c [.q 16,.x 640,.z,.x 641,.x 642,.s,.z,.z,.x 643,.w 5],.o,.o,.o,.o,.i2,.n 247 [.p (.e 0),.h],.l4,.l16,.t .flat true 2,.l9],fun n d i j k l m r A B C E F a G H I V=>G0 n k d i j l m r A B C E F a G H I V,.e⟩,
 ⟨259274,[0,2,6,7,8,10,36,37,38,42,43,44],[.e 0,.e 1,.e 2,.e 3,.e 4,.e 5,.o 864,.o 992,.o 640,.o 641,.o 642,.o 643],1152,[.v 0,.z,.q 4,.z,.w (.o 864),.u 992,.q 3,.z,.z,.q 4,.z,.z],[.c [.q 16,.x 640,.z,.x 641,.x 642,.s,.z,.z,.x 643,.w 5],.o,.o,.o,.o,.i2,.n 247 [.p (.e 0),.h],.c [.s,.s,.q 15],.l4,.l16,.t .flat true 2,.l9],fun n d i j k l m W X Y r A B C E F a Z aa ab G H I ac=>G1 n k d i j l m r A B C E F a G H I Z aa ab X W Y ac,.b (.b (.b (.o (.o 643) 7 44 (.n 0 (.g [.close (.o 1540),.close (.o 643)] [] .e))) (.o (.o 643) 7 44 (.g [.close (.o 643)] [] .e))) .e) (.b .e (.b (.n 3 (.g [] [(1696,864),(1632,640),(1633,641),(1634,642),(1635,643)] .e)) (.n 1 (.g [.freeze (.o 1504)] [] (.n 1 (.g [] [(1952,864),(1888,640),(1889,641),(1890,642),(1891,643)] .e))))))⟩,
 ⟨510,[96,97,98],[.e 0,.e 1,.e 2,.e 3,.e 4,.e 5,.o 864,.o 640,.o 641,.o 642,.o 643],1024,[.w (.o 864),.z,.z],[.c [.q 16,.x 640,.z,.x 641,.x 642,.s,.z,.z,.x 643,.w 5],.o,.o,.o,.o,.i2,.n 247 [.p (.e 0),.h],.l4,.l16,.t .flat true 2,.l9],fun n J K L M N O P Q a R S T U=>IM n a J K L M N O P Q R S T U,.b (.n 1 (.g [] [(1184,640),(1185,641),(1186,642),(1187,643)] .e)) .e⟩],none,[]⟩
noncomputable def AKw:AH:=⟨157,Tryz.f157,true,[.v 0,.agg [.y,.s,.s,.f 1,.y,.s,.q 3,.z,.s,.f 1,.q 8,.q 15,.q 15,.q 3,.z],.z],[.c [.q 16,.w 1,.z,.w 2,.w 3,.s,.z,.z,.w 4,.w 5],.l4,.l16,.t .flat true 2,.l9,.i2],[⟨.tup [],[.c [.q 16,.x 0,.z,.x 1,.x 2,.s,.z,.z,.x 3,.w 5],.o,.o,.o,.o,.i2],[.l4,.l16,.t .flat true 2,.l9]⟩],LD×Int×BA×Int×Int×LD×LD×LD×LD×LD,ii,Wv,.b .e (.b .e (.b (.n 2 (.w .e)) (.b .e (.b .e (.b .e (.b (.w (.n 0 (.w .e))) (.b .e (.b (.w .e) (.b .e (.b (.n 0 (.w (.n 0 (.w (.n 0 (.w (.g [.freeze (.o 1504)] [] .e))))))) (.b .e (.b .e (.g [.move (.e 1),.move (.e 2),.move (.e 3),.move (.e 4)] [] .e))))))))))))),[],none,[]⟩
noncomputable def AKx:AH:=⟨109,Tryz.f109,true,[.v 0,.agg [.y,.s,.s,.f 1,.y,.s,.q 3,.z,.s,.f 1,.q 8,.q 15,.q 15,.q 3,.z],.z],[.c [.q 16,.w 1,.z,.w 2,.w 3,.s,.z,.z,.w 4,.w 5],.l4,.l16,.t .flat true 2,.l9,.i2],[⟨.one (.w (.o 0)),[.c [.q 16,.x 1,.z,.x 2,.x 3,.s,.z,.z,.x 4,.w 5],.o,.o,.o,.o,.i2],[.f1,.l4,.l16,.t .flat true 2,.l9]⟩,⟨.one (.f 1),[.c [.q 16,.x 0,.z,.x 1,.x 2,.s,.z,.z,.x 3,.w 5],.o,.o,.o,.o,.i2],[.l4,.l16,.t .flat true 2,.l9]⟩],((LD×Int×BA×Int×Int×LD×LD×LD×LD×LD×LD) ⊕ (LD×LD×Int×BA×Int×Int×LD×LD×LD×LD×LD)),ii,Ww,.g [.move (.e 1),.move (.e 2),.move (.e 3),.move (.e 4)] [] .e,[⟨26,[0,2,4,6,12,13,14],[.e 0,.e 1,.e 2,.e 3,.e 4,.e 5,.o 0,.o 192,.o 224,.o 256,.o 288],320,[.v 0,.z,.u 0,.one (.nils false 1),.q 8,.z,.z],[.c [.q 16,.x 192,.z,.x 224,.x 256,.s,.z,.z,.x 288,.w 5],.o,.o,.o,.o,.i2,.c [.y,.s,.s,.f 1,.y,.s,.q 3,.z,.s,.f 1,.q 8,.q 15,.q 15,.q 3,.z],.l4,.l16,.t .flat true 2,.l9],fun n a d h i j k l m p r Z s2 s3 l4 z5 s6 l7 z8 s9 A B C E F G H I J K=>G2 n Z s2 s3 l4 z5 s6 l7 z8 s9 A d C E F G a h i j k l m p r B H I J K,.b (.b (.b .e (.n 0 (.g [] [(640,192),(641,224),(642,256),(643,288)] .e))) .e) (.b .e (.b .e (.b .e (.b (.w .e) (.b .e (.b (.n 0 (.w (.n 0 (.w (.g [.treeS 6 false 1] [] .e))))) (.b .e (.b (.n 0 (.g [.freeze (.o 768)] [] (.g [.treeS 6 false 1] [] .e))) (.b .e (.b (.n 0 (.w (.g [.treeS 6 false 1] [] .e))) (.b .e (.b (.w .e) (.n 0 (.g [.treeS 6 false 1] [] .e))))))))))))))⟩,
 ⟨15082,[0,2,4,6,26,51,52,53],[.e 0,.e 1,.e 2,.e 3,.e 4,.e 5,.o 0,.o 768,.o 769,.o 770,.o 771],928,[.v 0,.z,.u 0,.one (.nils false 1),.y,.f 1,.z,.z],[.c [.q 16,.x 768,.z,.x 769,.x 770,.s,.z,.z,.x 771,.w 5],.o,.o,.o,.o,.i2,.c [.y,.s,.s,.f 1,.y,.s,.q 3,.z,.s,.f 1,.q 8,.q 15,.q 15,.q 3,.z],.l4,.l16,.t .flat true 2,.l9],fun n _ _ l4 L M N O P Q R S T _ _ U _ _ _ _ _ _ _ _ _ _ _ V W X Y=>IP n l4 L M N O P Q R S T U V W X Y,.b (.n 0 (.g [] [(1120,768),(1121,769),(1122,770),(1123,771)] .e)) .e⟩],none,[]⟩
noncomputable def X66:AH:=⟨66,Tryz.f66,true,[.v 0,.q 15,.z],[.c [.q 16,.w 1,.z,.w 2,.w 3,.s,.z,.z,.w 4,.w 5],.l4,.l16,.t .flat true 2,.l9,.i2],[⟨.one (.w (.o 0)),[.c [.q 16,.x 1,.z,.x 2,.x 3,.s,.z,.z,.x 4,.w 5],.o,.o,.o,.o,.i2],[.f1,.l4,.l16,.t .flat true 2,.l9]⟩],LD×Int×BA×Int×Int×LD×LD×LD×LD×LD×LD,ii,pW,.g [.treeS 7 false 1,.move (.e 1),.move (.e 2),.move (.e 3),.move (.e 4)] [] .e,[⟨58,[0,2,6,7,10,11,12],[.e 0,.e 1,.e 2,.e 3,.e 4,.e 5,.o 160,.o 192,.o 224,.o 256,.o 288],320,[.v 0,.z,.one (.nils false 1),.w (.o 160),.q 15,.z,.z],[.c [.q 16,.x 192,.z,.x 224,.x 256,.s,.z,.z,.x 288,.w 5],.o,.o,.o,.o,.i2,.f1,.l4,.l16,.t .flat true 2,.l9],fun n A B a d f h i j k l m p r u y=>KY n B A a d f h i j k l m p r u y,.b (.n 0 (.b (.n 0 (.g [] [(640,160),(609,192),(610,224),(611,256),(612,288)] .e)) (.n 0 (.g [] [(640,160),(608,192),(609,224),(610,256),(611,288)] .e)))) .e⟩],none,[]⟩
theorem AKy:Bb Tryz.prog inv (D3 [AKu,AKv,AKw,AKx,X66]):=gr [G7,ACi,AJc,xC,AKo,ABz,AKq,k65,k67,k68,k69] ⟨ge Tryz.func222,ge Tryz.func223,ge Tryz.func157,ge Tryz.func109,ge Tryz.func66,trivial⟩
def k66:Kz:=⟨X66.c,AKy.2.2.2.2.1⟩
def MG:Nat->LD->LD->Int->Int->BA->BA->BA->LD->LD->Int->Int->Int->LD->Int->LD->Int->BA->Int->Int->LD->LD->LD->LD->LD->Option (LD×Int×BA×Int×Int×LD×LD×LD×LD)
 | 0,_,_,_,_,_,_,_,_,_,_,_,_,_,_,_,_,_,_,_,_,_,_,_,_=>none
 | n+1,l2,l3,z4,z5,s6,s7,s8,l9,b,c,d,e,f,a,g,h,i,j,k,l,m,o,p,q=>
  (if a<e then Ae f a fun w=>B0 w fun x=>BW (pU n x g h i j k l m o p q) fun aR y z A B C E F G H I=>AW (IntKind.wrap .i64 (a+1)) fun J=>MG n l2 l3 z4 z5 s6 s7 s8 l9 b c d e f J y z A B C F G H I E else BW (pW n l3 d g h i j k l m o p q) fun K L M N O P Q R S T U=>BO (lP n z4 z5 s6 s7 s8 l9 b c K L M N O R S T U P) fun V W X Y Z aa ab ac ad ae=>BO (Wt n Q V W X Y Z ab ac ad ae aa) fun af ag ah ai aj ak am an ao aq=>BO (Wt n l2 af ag ah ai aj am an ao aq ak) fun ar au av aw ax ay az aA aB aC=>BW (B3 n 18 0 0 0 0 ByteArray.empty ar au av aw ax az aA aB aC ay) fun aS aD aE r s t aF aG aH aI u=>Bw 56 aG ([.agg [.str r,.int .i64 s,.int .i64 t,.list true 9 u]]) fun v=>some (aD,aE,r,s,t,v,aH,aI,aF))
def sP (n:Nat) (l:BA) (a:LD) (m:LD) (o:Int) (p:Int) (q:BA) (r:BA) (s:BA) (t:LD) (b:LD) (c:Int) (d:Int) (e:LD) (f:Int) (u:BA) (v:Int) (w:Int) (g:LD) (h:LD) (i:LD):Option (LD×Int×BA×Int×Int×LD×LD×LD×LD):=
 AO a fun j=>AO a fun k=>MG n a m o p q r s t b c d k a 0 e f l j 0 g h i ([]:LD) ([]:LD)
noncomputable def X22:AH:=⟨22,Tryz.f22,true,[.v 0,.s,.f 1,.q 15,.agg [.y,.z,.s,.s,.s,.f 1,.q 8,.z],.z],[.c [.q 16,.w 1,.z,.w 2,.w 3,.s,.z,.z,.un,.un],.l4,.l16,.t .flat true 2],[⟨.tup [],[.c [.q 16,.x 0,.z,.x 1,.x 2,.s,.z,.z,.x 3,.x 4],.o,.o,.o],[.l4,.l16,.t .flat true 2,.o,.i2]⟩],LD×Int×BA×Int×Int×LD×LD×LD×LD,ii,sP,.g [.treeC (.e 0) 8 true 9,.move (.e 1),.move (.e 2),.move (.e 3)] [] .e,[⟨58,[0,2,3,5,10,26,27,28],[.e 0,.e 1,.e 2,.e 3,.o 0,.o 576,.o 608,.o 640,.o 544,.o 224],672,[.v 0,.f 1,.q 15,.z,.u 0,.f 1,.z,.z],[.c [.q 16,.x 576,.z,.x 608,.x 640,.s,.z,.z,.x 544,.x 224],.o,.o,.o,.c [.y,.z,.s,.s,.s,.f 1,.q 8,.z],.l4,.l16,.t .flat true 2,.l9,.i2],fun n H I a d h i j k l m p J K L M N l9 r A B C E F G=>MG n H I J K L M N l9 r A a h d i j k l m p B C E F G,.b (.n 0 (.g [] [(864,576),(865,608),(866,640),(867,544)] .e)) (.n 1 (.g [.freeze (.o 800)] [] (.n 0 (.w .e))))⟩],none,[]⟩
def k22:Kz:=sg X22 [G7,k65,k66,k67,k68] Tryz.func22
def F84 (n:Nat) (z:Int) (r:BA) (A:LD) (B:Int) (C:BA) (E:LD) (F:LD) (G:Int) (H:Int) (s:BA) (t:BA) (u:BA) (v:LD) (w:LD) (x:Int) (y:Int) (b:Int) (a:BA) (c:LD) (d:Int) (e:BA) (f:LD) (g:LD) (h:Int) (i:Int) (j:BA) (k:BA) (l:BA) (m:LD) (o:LD) (p:Int) (q:Int):Option (Bool×Int×BA×LD×Int×BA×LD×LD×Int×Int×BA×BA×BA×LD×LD×Int×Int):=
 (if r=a then some (true,b,a,c,d,e,f,g,h,i,j,k,l,m,o,p,q)else some (false,b,a,c,d,e,f,g,h,i,j,k,l,m,o,p,q))
noncomputable def X84:AH:=⟨84,Tryz.f84,false,[.agg [.y,.s,.q 4,.y,.s,.q 3,.q 15,.y,.z,.s,.s,.s,.f 1,.q 8,.z,.z],.v 0],[.c [.y,.s,.q 4,.y,.s,.q 3,.q 15,.y,.z,.s,.s,.s,.f 1,.q 8,.z,.z]],[⟨.one (.b),[.c [.y,.s,.q 4,.y,.s,.q 3,.q 15,.y,.z,.s,.s,.s,.f 1,.q 8,.z,.z]],[]⟩],Bool×Int×BA×LD×Int×BA×LD×LD×Int×Int×BA×BA×BA×LD×LD×Int×Int,ii,F84,.e,[],none,[]⟩
def k84:Kz:=sg X84 [] Tryz.func84
def Oc:Nat->LD->Int->Int->Int->BA->LD->Int->BA->LD->LD->Int->Int->BA->BA->BA->LD->LD->Int->Int->Option (Int×Int×BA×LD×Int×BA×LD×LD×Int×Int×BA×BA×BA×LD×LD×Int×Int)
 | 0,_,_,_,_,_,_,_,_,_,_,_,_,_,_,_,_,_,_,_=>none
 | n+1,l1,b,a,c,d,e,f,g,h,i,j,k,l,m,o,p,q,r,s=>
  (if a<b then Ae l1 a fun K=>BZ K fun L M N O P Q R S T U V W X Y Z aa=>Vd (F84 n L M N O P Q R S T U V W X Y Z aa c d e f g h i j k l m o p q r s) fun ab t u v w x y z A B C E F G H I J=>(if ab=true then some (a,t,u,v,w,x,y,z,A,B,C,E,F,G,H,I,J)else AW (IntKind.wrap .i64 (a+1)) fun ac=>Oc n l1 b ac t u v w x y z A B C E F G H I J)else some ((-1),c,d,e,f,g,h,i,j,k,l,m,o,p,q,r,s))
def xN (n:Nat) (j:LD) (k:Int) (l:BA) (m:LD) (o:Int) (p:BA) (q:LD) (r:LD) (s:Int) (a:Int) (b:BA) (c:BA) (d:BA) (e:LD) (f:LD) (g:Int) (h:Int):Option (Int×Int×BA×LD×Int×BA×LD×LD×Int×Int×BA×BA×BA×LD×LD×Int×Int):=
 AO j fun i=>Oc n j i 0 k l m o p q r s a b c d e f g h
noncomputable def ALa:AH:=⟨124,Tryz.f124,false,[.q 16,.one (.fn 84 [.e 0])],[.c [.y,.s,.q 4,.y,.s,.q 3,.q 15,.y,.z,.s,.s,.s,.f 1,.q 8,.z,.z]],[⟨.one (.z),[.c [.y,.s,.q 4,.y,.s,.q 3,.q 15,.y,.z,.s,.s,.s,.f 1,.q 8,.z,.z]],[]⟩],Int×Int×BA×LD×Int×BA×LD×LD×Int×Int×BA×BA×BA×LD×LD×Int×Int,ii,xN,.e,[⟨26,[0,1,4,7,8],[.e 0],128,[.q 16,.one (.fn 84 [.e 0]),.k 0,.z,.z],[.c [.y,.s,.q 4,.y,.s,.q 3,.q 15,.y,.z,.s,.s,.s,.f 1,.q 8,.z,.z]],Oc,.e⟩],none,[]⟩
def ALb:Kz:=sg ALa [k84] Tryz.func124
def F85 (n:Nat) (A:LD) (B:Int) (C:BA) (E:LD) (F:Int) (G:BA) (H:LD) (I:LD) (J:Int) (r:Int) (s:BA) (t:BA) (u:BA) (v:LD) (w:LD) (x:Int) (y:Int):Option (Bool×Int×BA×LD×Int×BA×LD×LD×Int×Int×BA×BA×BA×LD×LD×Int×Int):=
 Vd (xN n A B C E F G H I J r s t u v w x y) fun z a b c d e f g h i j k l m o p q=>(if 0<=z then some (true,a,b,c,d,e,f,g,h,i,j,k,l,m,o,p,q)else some (false,a,b,c,d,e,f,g,h,i,j,k,l,m,o,p,q))
noncomputable def X85:AH:=⟨85,Tryz.f85,false,[.q 16,.one (.fn 84 [.e 0])],[.c [.y,.s,.q 4,.y,.s,.q 3,.q 15,.y,.z,.s,.s,.s,.f 1,.q 8,.z,.z]],[⟨.one (.b),[.c [.y,.s,.q 4,.y,.s,.q 3,.q 15,.y,.z,.s,.s,.s,.f 1,.q 8,.z,.z]],[]⟩],Bool×Int×BA×LD×Int×BA×LD×LD×Int×Int×BA×BA×BA×LD×LD×Int×Int,ii,F85,.e,[],none,[]⟩
def k85:Kz:=sg X85 [ALb] Tryz.func85
def QE:Nat->LD->Int->LD->Int->Option (Bool)
 | 0,_,_,_,_=>none
 | n+1,p,s,t,a=>
  (if a<s then Ae t a fun E=>BZ E fun q C r b c d e f g h i j k l m o=>(if q=1 then AO r fun u=>(if 6<u then some false else HX p 0 a fun v=>Vd (F85 n v q C r b c d e f g h i j k l m o) fun w F G H I J K L M N O P Q R S T U=>(if w=true then some false else AW (IntKind.wrap .i64 (a+1)) fun x=>QE n p s t x))else (if q=2 then AO r fun y=>(if 6<y then some false else HX p 0 a fun z=>Vd (F85 n z q C r b c d e f g h i j k l m o) fun A V W X Y Z aa ab ac ad ae af ag ah ai aj ak=>(if A=true then some false else AW (IntKind.wrap .i64 (a+1)) fun B=>QE n p s t B))else some false))else some true)
def F36 (n:Nat) (a:LD):Option (Bool):=
 AO a fun b=>(if 30<b then some false else AO a fun c=>QE n a c a 0)
noncomputable def X36:AH:=⟨36,Tryz.f36,false,[.q 16],[],[⟨.one (.b),[],[]⟩],Bool,ii,F36,.e,[⟨58,[0,2,9,10,11],[],224,[.q 16,.one (.cb false),.q 16,.z,.z],[],fun n a c d f=>QE n a d c f,.e⟩],none,[]⟩
def k36:Kz:=sg X36 [k85] Tryz.func36
def mW (n:Nat) (a:BA):Option (Bool):=
 ZX a fun b=>(if 1<=b then ZX a fun c=>(if c<=16 then some true else some false)else some false)
noncomputable def X37:AH:=⟨37,Tryz.f37,false,[.s],[],[⟨.one (.b),[],[]⟩],Bool,ii,mW,.e,[],none,[]⟩
def k37:Kz:=sg X37 [] Tryz.func37
def KZ (n:Nat) (a:BA):Option (BA):=
 some a
noncomputable def ALd:AH:=⟨128,Tryz.f128,false,[.s],[],[⟨.one (.agg [.s,.k 1,.k 0,.cb true,.cb false,.cb false,.cb false,.el false 1]),[],[]⟩],BA,ii,KZ,.e,[],none,[]⟩
def ALe:Kz:=sg ALd [] Tryz.func128
def F92 (n:Nat):Option (LD×BA×BA×BA×BA×BA×LD×LD×LD×LD×BA×BA×BA×BA×BA×BA×BA×BA):=
 Au (KZ n rN) fun e=>Au (KZ n rO) fun f=>Au (KZ n rP) fun g=>Au (KZ n rQ) fun h=>Au (KZ n jN) fun i=>Au (KZ n Xd) fun j=>Au (KZ n Pn) fun k=>Au (KZ n Po) fun l=>Au (KZ n jS) fun m=>Au (KZ n Xe) fun a=>Au (KZ n Xf) fun b=>Au (KZ n jU) fun c=>Au (KZ n jV) fun d=>some ([.int .i64 1,.int .i64 2,.int .i64 3],e,f,g,h,i,[.int .i64 7,.int .i64 8],[.int .i64 9,.int .i64 10,.int .i64 11,.int .i64 12,.int .i64 13,.int .i64 14,.int .i64 15,.int .i64 16,.int .i64 17],[.int .i64 6,.int .i64 7,.int .i64 8,.int .i64 9,.int .i64 10,.int .i64 11],[.int .i64 6,.int .i64 10],j,k,l,m,a,b,c,d)
noncomputable def X92:AH:=⟨92,Tryz.f92,false,[],[],[⟨.one (.agg [.cs ByteArray.empty,.k 0,.k 0,.cb false,.cb false,.cb false,.cb false,.el false 1,.cs jL,.k 1,.k 0,.cb false,.cb false,.cb false,.cb false,.el false 1,.cs jM,.k 1,.k 0,.cb false,.cb false,.cb false,.cb false,.el false 1,.cs XZ,.k 4,.k 0,.cb false,.cb false,.cb true,.cb false,.f 1,.s,.k 1,.k 0,.cb true,.cb false,.cb false,.cb false,.el false 1,.s,.k 1,.k 0,.cb true,.cb false,.cb false,.cb false,.el false 1,.s,.k 1,.k 0,.cb true,.cb false,.cb false,.cb false,.el false 1,.s,.k 1,.k 0,.cb true,.cb false,.cb false,.cb false,.el false 1,.s,.k 1,.k 0,.cb true,.cb false,.cb false,.cb false,.el false 1,.cs Xa,.k 4,.k 0,.cb false,.cb false,.cb false,.cb false,.f 1,.cs TZ,.k 4,.k 0,.cb false,.cb false,.cb false,.cb false,.f 1,.cs Ta,.k 0,.k 7,.cb false,.cb false,.cb false,.cb true,.el false 1,.cs jO,.k 7,.k 6,.cb false,.cb false,.cb false,.cb true,.el false 1,.cs Xb,.k 0,.k 7,.cb false,.cb false,.cb false,.cb true,.el false 1,.cs jP,.k 2,.k 0,.cb false,.cb false,.cb false,.cb false,.el false 1,.cs Tb,.k 2,.k 0,.cb false,.cb false,.cb false,.cb false,.el false 1,.cs Tc,.k 0,.k 0,.cb false,.cb true,.cb false,.cb true,.el false 1,.cs jQ,.k 3,.k 5,.cb false,.cb false,.cb false,.cb false,.el false 1,.cs Nk,.k 0,.k 0,.cb false,.cb false,.cb false,.cb false,.el false 1,.cs jR,.k 4,.k 0,.cb false,.cb false,.cb false,.cb false,.f 1,.cs Td,.k 4,.k 0,.cb false,.cb false,.cb false,.cb false,.f 1,.s,.k 1,.k 0,.cb true,.cb false,.cb false,.cb false,.el false 1,.s,.k 1,.k 0,.cb true,.cb false,.cb false,.cb false,.el false 1,.s,.k 1,.k 0,.cb true,.cb false,.cb false,.cb false,.el false 1,.s,.k 1,.k 0,.cb true,.cb false,.cb false,.cb false,.el false 1,.s,.k 1,.k 0,.cb true,.cb false,.cb false,.cb false,.el false 1,.s,.k 1,.k 0,.cb true,.cb false,.cb false,.cb false,.el false 1,.cs jT,.k 0,.k 0,.cb false,.cb false,.cb true,.cb false,.el false 1,.s,.k 1,.k 0,.cb true,.cb false,.cb false,.cb false,.el false 1,.s,.k 1,.k 0,.cb true,.cb false,.cb false,.cb false,.el false 1,.cs jW,.k 1,.k 1,.cb true,.cb false,.cb false,.cb false,.el false 1,.cs Te,.k 0,.k 0,.cb false,.cb false,.cb false,.cb false,.el false 1,.cs Xg,.k 0,.k 0,.cb false,.cb false,.cb false,.cb false,.el false 1,.cs Ib,.k 3,.k 5,.cb false,.cb false,.cb false,.cb false,.el false 1,.cs jX,.k 0,.k 0,.cb false,.cb false,.cb false,.cb false,.el false 1]),[],[]⟩],LD×BA×BA×BA×BA×BA×LD×LD×LD×LD×BA×BA×BA×BA×BA×BA×BA×BA,ii,F92,.e,[],none,[]⟩
def k92:Kz:=sg X92 [ALe] Tryz.func92
def F39 (n:Nat) (a:Int):Option (BA×Int×Int×Bool×Bool×Bool×Bool×LD×Bool):=
 Qq (F92 n) fun w x y z A B C E b c d e f g h i j k=>(if a=0 then some (ByteArray.empty,0,0,false,false,false,false,([]:LD),false)else AW (IntKind.wrap .i64 a) fun l=>(if 35<=l then some (ByteArray.empty,0,0,false,false,false,false,([]:LD),false)else Be (0<=a/\a<35) (DV [.agg [.str ByteArray.empty,.int .i64 0,.int .i64 0,.bool false,.bool false,.bool false,.bool false,.list false 1 []],.agg [.str jL,.int .i64 1,.int .i64 0,.bool false,.bool false,.bool false,.bool false,.list false 1 []],.agg [.str jM,.int .i64 1,.int .i64 0,.bool false,.bool false,.bool false,.bool false,.list false 1 []],.agg [.str XZ,.int .i64 4,.int .i64 0,.bool false,.bool false,.bool true,.bool false,.list false 1 w],.agg [.str x,.int .i64 1,.int .i64 0,.bool true,.bool false,.bool false,.bool false,.list false 1 []],.agg [.str y,.int .i64 1,.int .i64 0,.bool true,.bool false,.bool false,.bool false,.list false 1 []],.agg [.str z,.int .i64 1,.int .i64 0,.bool true,.bool false,.bool false,.bool false,.list false 1 []],.agg [.str A,.int .i64 1,.int .i64 0,.bool true,.bool false,.bool false,.bool false,.list false 1 []],.agg [.str B,.int .i64 1,.int .i64 0,.bool true,.bool false,.bool false,.bool false,.list false 1 []],.agg [.str Xa,.int .i64 4,.int .i64 0,.bool false,.bool false,.bool false,.bool false,.list false 1 C],.agg [.str TZ,.int .i64 4,.int .i64 0,.bool false,.bool false,.bool false,.bool false,.list false 1 E],.agg [.str Ta,.int .i64 0,.int .i64 7,.bool false,.bool false,.bool false,.bool true,.list false 1 []],.agg [.str jO,.int .i64 7,.int .i64 6,.bool false,.bool false,.bool false,.bool true,.list false 1 []],.agg [.str Xb,.int .i64 0,.int .i64 7,.bool false,.bool false,.bool false,.bool true,.list false 1 []],.agg [.str jP,.int .i64 2,.int .i64 0,.bool false,.bool false,.bool false,.bool false,.list false 1 []],.agg [.str Tb,.int .i64 2,.int .i64 0,.bool false,.bool false,.bool false,.bool false,.list false 1 []],.agg [.str Tc,.int .i64 0,.int .i64 0,.bool false,.bool true,.bool false,.bool true,.list false 1 []],.agg [.str jQ,.int .i64 3,.int .i64 5,.bool false,.bool false,.bool false,.bool false,.list false 1 []],.agg [.str Nk,.int .i64 0,.int .i64 0,.bool false,.bool false,.bool false,.bool false,.list false 1 []],.agg [.str jR,.int .i64 4,.int .i64 0,.bool false,.bool false,.bool false,.bool false,.list false 1 b],.agg [.str Td,.int .i64 4,.int .i64 0,.bool false,.bool false,.bool false,.bool false,.list false 1 c],.agg [.str d,.int .i64 1,.int .i64 0,.bool true,.bool false,.bool false,.bool false,.list false 1 []],.agg [.str e,.int .i64 1,.int .i64 0,.bool true,.bool false,.bool false,.bool false,.list false 1 []],.agg [.str f,.int .i64 1,.int .i64 0,.bool true,.bool false,.bool false,.bool false,.list false 1 []],.agg [.str g,.int .i64 1,.int .i64 0,.bool true,.bool false,.bool false,.bool false,.list false 1 []],.agg [.str h,.int .i64 1,.int .i64 0,.bool true,.bool false,.bool false,.bool false,.list false 1 []],.agg [.str i,.int .i64 1,.int .i64 0,.bool true,.bool false,.bool false,.bool false,.list false 1 []],.agg [.str jT,.int .i64 0,.int .i64 0,.bool false,.bool false,.bool true,.bool false,.list false 1 []],.agg [.str j,.int .i64 1,.int .i64 0,.bool true,.bool false,.bool false,.bool false,.list false 1 []],.agg [.str k,.int .i64 1,.int .i64 0,.bool true,.bool false,.bool false,.bool false,.list false 1 []],.agg [.str jW,.int .i64 1,.int .i64 1,.bool true,.bool false,.bool false,.bool false,.list false 1 []],.agg [.str Te,.int .i64 0,.int .i64 0,.bool false,.bool false,.bool false,.bool false,.list false 1 []],.agg [.str Xg,.int .i64 0,.int .i64 0,.bool false,.bool false,.bool false,.bool false,.list false 1 []],.agg [.str Ib,.int .i64 3,.int .i64 5,.bool false,.bool false,.bool false,.bool false,.list false 1 []],.agg [.str jX,.int .i64 0,.int .i64 0,.bool false,.bool false,.bool false,.bool false,.list false 1 []]] (a.toNat) fun m=>Md m fun o p q r s t u v=>some (o,p,q,r,s,t,u,v,true))))
noncomputable def X39:AH:=⟨39,Tryz.f39,false,[.y],[],[⟨.tup [.agg [.s,.z,.z,.bool,.bool,.bool,.bool,.f 1],.b],[],[]⟩],BA×Int×Int×Bool×Bool×Bool×Bool×LD×Bool,ii,F39,.n 0 (.b (.b .e (.b .e (.b .e (.b .e (.b .e (.w .e)))))) .e),[],none,[]⟩
def k39:Kz:=sg X39 [k92] Tryz.func39
def F88 (n:Nat) (l:BA) (m:Int) (o:Int) (p:Bool) (q:Bool) (d:Bool) (r:Bool) (s:LD) (e:Int) (b:Int) (f:Int) (g:Int) (h:LD) (i:LD) (a:Int) (j:BA) (k:LD):Option (Bool):=
 Ax (!d) fun c=>(if c=true then (if a=0 then some true else some false)else (if e=27 then (if 1<=a then (if a<=8 then some true else some false)else some false)else (if b=2 then (if a=0 then some true else (if a=1 then some true else some false))else (if b=1 then some true else (if a=0 then some true else some false)))))
noncomputable def X88:AH:=⟨88,Tryz.f88,false,[.agg [.s,.z,.z,.bool,.bool,.bool,.bool,.f 1],.agg [.y,.z,.z,.z,.f 1,.f 1,.z,.s,.f 1]],[],[⟨.one (.b),[],[]⟩],Bool,ii,F88,.e,[],none,[]⟩
def k88:Kz:=sg X88 [] Tryz.func88
def F86 (n:Nat) (a:BA):Option (Bool):=
 (if a=k__ then some false else Au (mW n a) fun b=>Ax (!b) fun c=>some c)
noncomputable def X86:AH:=⟨86,Tryz.f86,false,[.s],[],[⟨.one (.b),[],[]⟩],Bool,ii,F86,.e,[],none,[]⟩
def k86:Kz:=sg X86 [k37] Tryz.func86
def Od:Nat->LD->Int->Int->Option (Int)
 | 0,_,_,_=>none
 | n+1,b,c,a=>
  (if a<c then Ae b a fun d=>B0 d fun e=>Au (F86 n e) fun f=>(if f=true then some a else AW (IntKind.wrap .i64 (a+1)) fun g=>Od n b c g)else some (-1))
def xO (n:Nat) (a:LD):Option (Int):=
 AO a fun b=>Od n a b 0
noncomputable def ALg:AH:=⟨125,Tryz.f125,false,[.f 1,.one (.fn 86 [])],[],[⟨.one (.z),[],[]⟩],Int,ii,xO,.e,[⟨26,[0,1,4,7,8],[],128,[.f 1,.one (.fn 86 []),.k 0,.z,.z],[],Od,.e⟩],none,[]⟩
def ALh:Kz:=sg ALg [k86] Tryz.func125
def zQ (n:Nat) (a:LD):Option (Bool):=
 Au (xO n a) fun b=>(if 0<=b then some true else some false)
noncomputable def X89:AH:=⟨89,Tryz.f89,false,[.f 1,.one (.fn 86 [])],[],[⟨.one (.b),[],[]⟩],Bool,ii,zQ,.e,[],none,[]⟩
def k89:Kz:=sg X89 [ALh] Tryz.func89
def F87 (n:Nat) (e:Int) (b:BA) (c:Int) (d:Int) (a:LD):Option (Bool×BA×Int×Int×LD):=
 (if e<0 then some (true,b,c,d,a)else AO a fun f=>(if f<e then some (true,b,c,d,a)else some (false,b,c,d,a)))
noncomputable def X87:AH:=⟨87,Tryz.f87,false,[.z,.v 0],[.c [.s,.z,.z,.q 9]],[⟨.one (.b),[.c [.s,.z,.z,.q 9]],[]⟩],Bool×BA×Int×Int×LD,ii,F87,.e,[],none,[]⟩
def k87:Kz:=sg X87 [] Tryz.func87
def LV:Nat->LD->Int->Int->BA->Int->Int->LD->Option (Int×BA×Int×Int×LD)
 | 0,_,_,_,_,_,_,_=>none
 | n+1,l,m,g,o,p,a,b=>
  (if g<m then Ae l g fun h=>B1 h fun i=>ZY (F87 n i o p a b) fun j c d e f=>(if j=true then some (g,c,d,e,f)else AW (IntKind.wrap .i64 (g+1)) fun k=>LV n l m k c d e f)else some ((-1),o,p,a,b))
def xP (n:Nat) (a:LD) (b:BA) (c:Int) (d:Int) (e:LD):Option (Int×BA×Int×Int×LD):=
 AO a fun f=>LV n a f 0 b c d e
noncomputable def ALj:AH:=⟨126,Tryz.f126,false,[.f 1,.one (.fn 87 [.e 0])],[.c [.s,.z,.z,.q 9]],[⟨.one (.z),[.c [.s,.z,.z,.q 9]],[]⟩],Int×BA×Int×Int×LD,ii,xP,.e,[⟨26,[0,1,4,7,8],[.e 0],128,[.f 1,.one (.fn 87 [.e 0]),.k 0,.z,.z],[.c [.s,.z,.z,.q 9]],LV,.e⟩],none,[]⟩
def ALk:Kz:=sg ALj [k87] Tryz.func126
def zR (n:Nat) (e:LD) (f:BA) (g:Int) (h:Int) (i:LD):Option (Bool×BA×Int×Int×LD):=
 ZY (xP n e f g h i) fun j b c d a=>(if 0<=j then some (true,b,c,d,a)else some (false,b,c,d,a))
noncomputable def X90:AH:=⟨90,Tryz.f90,false,[.f 1,.one (.fn 87 [.e 0])],[.c [.s,.z,.z,.q 9]],[⟨.one (.b),[.c [.s,.z,.z,.q 9]],[]⟩],Bool×BA×Int×Int×LD,ii,zR,.e,[],none,[]⟩
def k90:Kz:=sg X90 [ALk] Tryz.func90
def Oe:Nat->LD->Int->Int->Int->Option (Int)
 | 0,_,_,_,_=>none
 | n+1,b,c,d,a=>
  (if a<d then Ae b a fun e=>B1 e fun f=>(if c=f then some a else AW (IntKind.wrap .i64 (a+1)) fun g=>Oe n b c d g)else some (-1))
def xQ (n:Nat) (a:LD) (b:Int):Option (Int):=
 AO a fun c=>Oe n a b c 0
noncomputable def ALl:AH:=⟨187,Tryz.f187,false,[.f 1,.z],[],[⟨.one (.z),[],[]⟩],Int,ii,xQ,.e,[⟨26,[0,1,4,7,8],[],128,[.f 1,.z,.k 0,.z,.z],[],Oe,.e⟩],none,[]⟩
def ALm:Kz:=sg ALl [] Tryz.func187
def pX (n:Nat) (a:LD) (b:Int):Option (Bool):=
 Au (xQ n a b) fun c=>(if 0<=c then some true else some false)
noncomputable def ALn:AH:=⟨127,Tryz.f127,false,[.f 1,.z],[],[⟨.one (.b),[],[]⟩],Bool,ii,pX,.e,[],none,[]⟩
def ALo:Kz:=sg ALn [ALm] Tryz.func127
def F91 (n:Nat) (d:LD) (F:Int) (G:LD) (H:BA) (I:Int) (m:Int) (o:LD) (J:BA) (K:Int) (p:Int) (q:Bool) (r:Bool) (s:Bool) (t:Bool) (e:LD) (f:Int) (c:Int) (u:Int) (v:Int) (w:LD) (x:LD) (y:Int) (z:BA) (A:LD) (b:Int) (a:Int):Option (Bool):=
 (if b=0 then (if a=0 then some true else some false)else (if b=1 then (if 0<=a then (if a<m then some true else some false)else some false)else (if b=2 then (if 0<=a then AO o fun g=>(if a<=g then some true else some false)else some false)else (if b=3 then (if 0<=a then AO d fun h=>(if a<h then some true else some false)else some false)else (if b=4 then Au (pX n e a) fun i=>some i else (if b=5 then (if 0<=c then AO d fun j=>(if c<j then Ae d c fun k=>B2 k fun B l C E=>(if a=l then some true else some false)else some false)else some false)else (if b=6 then (if a=0 then some true else (if a=1 then some true else some false))else (if 0<=a then (if a<6 then some true else (if a=6 then (if f=12 then some false else some true)else some false))else some false))))))))
noncomputable def X91:AH:=⟨91,Tryz.f91,false,[.agg [.q 4,.z,.q 16],.agg [.s,.z,.z,.q 9],.agg [.s,.z,.z,.bool,.bool,.bool,.bool,.f 1],.agg [.y,.z,.z,.z,.f 1,.f 1,.z,.s,.f 1],.z,.z],[],[⟨.one (.b),[],[]⟩],Bool,ii,F91,.e,[],none,[]⟩
def k91:Kz:=sg X91 [ALo] Tryz.func91
def I1:Nat->LD->Int->LD->Int->Int->Int->Int->LD->LD->Int->BA->LD->BA->Int->Int->Bool->Bool->Bool->Bool->LD->Bool->BA->Int->Int->LD->Option (Int)
 | 0,_,_,_,_,_,_,_,_,_,_,_,_,_,_,_,_,_,_,_,_,_,_,_,_,_=>none
 | n+1,y,z,A,B,r,s,C,E,c,d,e,f,g,a,b,h,i,j,k,l,t,m,o,p,q=>
  (if t=true then some 170 else Au (F91 n y z A m o p q g a b h i j k l B r s C E c d e f a r) fun u=>Ax (!u) fun v=>(if v=true then some 170 else Au (F91 n y z A m o p q g a b h i j k l B r s C E c d e f b s) fun w=>Ax (!w) fun x=>(if x=true then some 170 else some 0)))
def I2:Nat->LD->Int->LD->Int->Int->Int->Int->LD->LD->Int->BA->LD->BA->Int->Int->Bool->Bool->Bool->Bool->LD->BA->Int->Int->LD->Bool->Option (Int)
 | 0,_,_,_,_,_,_,_,_,_,_,_,_,_,_,_,_,_,_,_,_,_,_,_,_,_=>none
 | n+1,s,t,u,v,w,x,y,r,b,c,d,e,f,g,h,i,a,j,k,l,m,o,p,q,z=>
  (if z=true then some 170 else AO r fun A=>(if 0<A then Ax (!a) fun B=>(if B=true then I1 n s t u v w x y r b c d e f g h i a j k l true m o p q else AO r fun C=>(if 6<C then I1 n s t u v w x y r b c d e f g h i a j k l true m o p q else ZY (zR n r m o p q) fun E F G H I=>I1 n s t u v w x y r b c d e f g h i a j k l E F G H I))else AO r fun J=>(if 6<J then I1 n s t u v w x y r b c d e f g h i a j k l true m o p q else ZY (zR n r m o p q) fun K L M N O=>I1 n s t u v w x y r b c d e f g h i a j k l K L M N O)))
def FY:Nat->LD->Int->LD->Int->Int->Int->Int->LD->LD->Int->BA->LD->BA->Int->Int->Bool->Bool->Bool->Bool->LD->BA->Int->Int->LD->Bool->Option (Int)
 | 0,_,_,_,_,_,_,_,_,_,_,_,_,_,_,_,_,_,_,_,_,_,_,_,_,_=>none
 | n+1,r,s,t,u,v,w,x,y,a,c,d,e,f,g,h,b,i,j,k,l,m,o,p,q,z=>
  (if z=true then some 170 else AO a fun A=>(if 0<A then Ax (!b) fun B=>(if B=true then I2 n r s t u v w x y a c d e f g h b i j k l m o p q true else AO a fun C=>(if 40<C then I2 n r s t u v w x y a c d e f g h b i j k l m o p q true else Au (zQ n a) fun E=>I2 n r s t u v w x y a c d e f g h b i j k l m o p q E))else AO a fun F=>(if 40<F then I2 n r s t u v w x y a c d e f g h b i j k l m o p q true else Au (zQ n a) fun G=>I2 n r s t u v w x y a c d e f g h b i j k l m o p q G)))
def F38 (n:Nat) (r:LD) (x:Int) (y:LD) (z:Int) (s:Int) (u:Int) (v:Int) (t:Int) (w:LD) (d:LD) (e:Int) (b:BA) (c:LD):Option (Int):=
 jF (F39 n s) fun f g h i j k a l A=>Ax (!A) fun B=>(if B=true then some 170 else (if z<0 then some 170 else AO r fun C=>(if C<=z then some 170 else Ae r z fun E=>B2 E fun m o p q=>(if t=0 then AO c fun F=>(if 0<F then FY n r x y s u v t w d e b c f g h i j k a l m o p q true else Au (F88 n f g h i j k a l s u v t w d e b c) fun G=>Ax (!G) fun H=>(if H=true then FY n r x y s u v t w d e b c f g h i j k a l m o p q true else (if b=ByteArray.empty then Ax (!(a==false)) fun I=>(if I=true then FY n r x y s u v t w d e b c f g h i j k a l m o p q true else (if a=true then Au (mW n b) fun J=>Ax (!J) fun K=>FY n r x y s u v t w d e b c f g h i j k a l m o p q K else FY n r x y s u v t w d e b c f g h i j k a l m o p q false))else Ax (!(a==true)) fun L=>(if L=true then FY n r x y s u v t w d e b c f g h i j k a l m o p q true else (if a=true then Au (mW n b) fun M=>Ax (!M) fun N=>FY n r x y s u v t w d e b c f g h i j k a l m o p q N else FY n r x y s u v t w d e b c f g h i j k a l m o p q false)))))else FY n r x y s u v t w d e b c f g h i j k a l m o p q true))))
noncomputable def X38:AH:=⟨38,Tryz.f38,false,[.agg [.q 4,.z,.q 16],.z,.agg [.y,.z,.z,.z,.f 1,.f 1,.z,.s,.f 1]],[],[⟨.one (.z),[],[]⟩],Int,ii,F38,.e,[⟨1017,[3,5,6,7,9,10,11,37],[.o 0,.o 32,.o 288,.o 960],2208,[.u 0,.u 32,.k 0,.u 288,.u 960,.one (.fn 86 []),.one (.fn 87 [.o 960]),.b],[.c [.q 4,.z,.q 16],.c [.y,.z,.z,.z,.f 1,.f 1,.z,.s,.f 1],.c [.s,.z,.z,.bool,.bool,.bool,.bool,.f 1],.c [.s,.z,.z,.q 9]],fun n L C E F G H I J K a d g h i j l m p r t v w x A B=>FY n C E F G H I J K a d g h i j l m p r t v w x A B L,.e⟩,
 ⟨4071,[3,5,6,7,9,11,71],[.o 0,.o 32,.o 288,.o 960],2912,[.u 0,.u 32,.k 0,.u 288,.u 960,.one (.fn 87 [.o 960]),.b],[.c [.q 4,.z,.q 16],.c [.y,.z,.z,.z,.f 1,.f 1,.z,.s,.f 1],.c [.s,.z,.z,.bool,.bool,.bool,.bool,.f 1],.c [.s,.z,.z,.q 9]],fun n M C E F G H I J K a d g h i j l m p r t v w x A B=>I2 n C E F G H I J K a d g h i j l m p r t v w x A B M,.e⟩,
 ⟨16287,[3,5,6,7,9,93],[.o 0,.o 32,.o 288,.o 960],3616,[.u 0,.u 32,.k 0,.u 288,.u 960,.b],[.c [.q 4,.z,.q 16],.c [.y,.z,.z,.z,.f 1,.f 1,.z,.s,.f 1],.c [.s,.z,.z,.bool,.bool,.bool,.bool,.f 1],.c [.s,.z,.z,.q 9]],fun n N C E F G H I J K a d g h i j l m p r t v O P Q R=>I1 n C E F G H I J K a d g h i j l m p r t v N O P Q R,.e⟩],none,[]⟩
def k38:Kz:=sg X38 [k37,k39,k88,k89,k90,k91] Tryz.func38
mutual
def UW:Nat->LD->Int->LD->Int->Int->LD->Option (Int)
 | 0,_,_,_,_,_,_=>none
 | n+1,g,h,i,c,a,d=>
  (if a<c then Ae g a fun o=>B2 o fun p j k b=>Au (mW n p) fun q=>Ax (!q) fun r=>(if r=true then some 170 else (if j<0 then some 170 else (if k<j then some 170 else (if 60<k then some 170 else AO b fun s=>(if 4000<s then some 170 else AO b fun e=>UX n g h i c a d b e a 0)))))else some 0)
def UX:Nat->LD->Int->LD->Int->Int->LD->LD->Int->Int->Int->Option (Int)
 | 0,_,_,_,_,_,_,_,_,_,_=>none
 | n+1,g,h,i,c,a,d,b,e,l,f=>
  (if f<e then Ae b f fun t=>Ci t fun u v w x y z A B C=>Au (F38 n d h i a u v w x y z A B C) fun m=>(if m=0 then AW (IntKind.wrap .i64 (f+1)) fun E=>UX n g h i c a d b e l E else some m)else AW (IntKind.wrap .i64 (l+1)) fun F=>UW n g h i c F d)
end
def F16 (n:Nat) (a:LD) (b:Int) (f:LD):Option (Int):=
 AO a fun g=>(if 200<g then some 170 else (if b<0 then some 170 else AO a fun h=>(if h<=b then some 170 else Ae a b fun i=>B2 i fun l j m k=>(if j=0 then Au (F36 n f) fun c=>Ax (!c) fun d=>(if d=true then some 170 else AO a fun e=>UW n a b f e 0 a)else some 170))))
noncomputable def X16:AH:=⟨16,Tryz.f16,false,[.agg [.q 4,.z,.q 16]],[],[⟨.one (.z),[],[]⟩],Int,ii,F16,.e,[⟨58,[1,2,42,43,44],[.o 0],1248,[.u 0,.k 0,.q 4,.z,.z],[.c [.q 4,.z,.q 16]],fun n f a b d g h=>UW n f g h a b d,.e⟩,
 ⟨29902,[1,2,3,42,43,44,77,78,79],[.o 0],2464,[.u 0,.k 0,.z,.q 4,.z,.z,.q 9,.z,.z],[.c [.q 4,.z,.q 16]],fun n b f a i j l m d g h=>UX n f g h a b d j l i m,.e⟩],none,[]⟩
def k16:Kz:=sg X16 [k36,k37,k38] Tryz.func16
def UY:Nat->Int->Int->LD->Int->BA->Int->Int->LD->LD->LD->Option (LD×Int×LD×Int)
 | 0,_,_,_,_,_,_,_,_,_,_=>none
 | n+1,z,a,r,c,s,t,u,d,e,b=>
  AO b fun v=>(if a<v then Be (0<=a/\a.toNat<b.length) (DV b (a.toNat) fun w=>E9 w fun x C=>Be (0<=a/\a.toNat<b.length) (DV b (a.toNat) fun y=>E9 y fun A f=>jF (sP n Ib x f 3 0 ByteArray.empty ByteArray.empty ByteArray.empty ([]:LD) ([]:LD) 0 z r c s t u d e b) fun g h i j k l m o B=>AW (IntKind.wrap .i64 (a+1)) fun p=>UY n z p g h i j k l m o))else Au (F16 n d c e) fun q=>(if q=0 then some (d,c,e,0)else some (([]:LD),0,([]:LD),4)))
mutual
def Rt:Nat->Int->LD->Int->Int->LD->Int->BA->Int->Int->LD->LD->LD->Option (LD×Int×LD×Int)
 | 0,_,_,_,_,_,_,_,_,_,_,_,_=>none
 | n+1,v,w,c,a,d,z,e,f,g,b,h,i=>
  (if a<c then Ae w a fun C=>BZ C fun E k j W X Y l m o p q r s t u Z=>(if E=3 then (if k=Gg then AO b fun F=>UZ n v w c a d e f g b h i k j l m o p q r s t u F else UZ n v w c a d e f g b h i k j l m o p q r s t u z)else AW (IntKind.wrap .i64 (a+1)) fun G=>Rt n v w c G d z e f g b h i)else UY n v 0 d z e f g b h i)
def UZ:Nat->Int->LD->Int->Int->LD->BA->Int->Int->LD->LD->LD->BA->LD->LD->Int->Int->BA->BA->BA->LD->LD->Int->Int->Option (LD×Int×LD×Int)
 | 0,_,_,_,_,_,_,_,_,_,_,_,_,_,_,_,_,_,_,_,_,_,_,_=>none
 | n+1,v,w,c,a,d,e,f,g,b,h,i,k,j,l,m,o,p,q,r,s,t,u,x=>
  AO j fun y=>Ua n v w c a d e f g b h i k j l m o p q r s t u x y 0 j ([]:LD)
def Ua:Nat->Int->LD->Int->Int->LD->BA->Int->Int->LD->LD->LD->BA->LD->LD->Int->Int->BA->BA->BA->LD->LD->Int->Int->Int->Int->LD->LD->Option (LD×Int×LD×Int)
 | 0,_,_,_,_,_,_,_,_,_,_,_,_,_,_,_,_,_,_,_,_,_,_,_,_,_,_,_=>none
 | n+1,v,w,c,a,d,e,f,g,b,h,i,k,j,l,m,o,p,q,r,s,t,u,x,y,A,H,B=>
  (if A<y then Ae j A fun I=>Bt I fun J aa ab ac=>Gf [.str J] fun K=>Bw 16 B K fun L=>AW (IntKind.wrap .i64 (A+1)) fun M=>Ua n v w c a d e f g b h i k j l m o p q r s t u x y M H L else jF (sP n k B l m o p q r s t u v d x e f g b h i) fun N O P Q R S T U ad=>AW (IntKind.wrap .i64 (a+1)) fun V=>Rt n v w c V N O P Q R S T U)
end
def Ru:Nat->LD->Int->Int->Int->LD->LD->LD->Option (LD×Int×LD×Int)
 | 0,_,_,_,_,_,_,_=>none
 | n+1,d,e,f,b,c,g,h=>
  (if b<e then Ae d b fun i=>BZ i fun a j k l m o p q r s t u v w x y=>(if a=3 then AW (IntKind.wrap .i64 (f+1)) fun z=>AW (IntKind.wrap .i64 (b+1)) fun A=>Ru n d e z A c g h else Dq (xM n a j k l m o p q r s t u v w x y) fun B C E=>Bw 248 h ([.agg [.int .u8 B,.str C,.list true 4 E,.int .u8 0,.str ByteArray.empty,.list true 3 [],.list true 15 [],.int .u8 0,.int .i64 0,.str ByteArray.empty,.str ByteArray.empty,.str ByteArray.empty,.list false 1 [],.list true 8 [],.int .i64 0,.int .i64 0]]) fun F=>AW (IntKind.wrap .i64 (b+1)) fun G=>Ru n d e f G c g F)else AO c fun H=>Rt n f c H 0 g 0 ByteArray.empty 0 0 ([]:LD) h ([]:LD))
def F9 (n:Nat) (a:LD):Option (LD×Int×LD×Int):=
 Au (xL n a) fun b=>AO b fun c=>(if 0<c then some (([]:LD),0,([]:LD),2)else AO a fun d=>Ru n a d 0 0 a a ([]:LD))
noncomputable def X9:AH:=⟨9,Tryz.f9,true,[.agg [.q 16]],[],[⟨.tup [.agg [.q 4,.z,.q 16],.z],[],[]⟩],LD×Int×LD×Int,ii,F9,.n 0 (.b (.b (.g [.treeC (.o 32) 0 true 4,.treeC (.o 32) 2 true 16,.freeze (.o 320),.freeze (.o 352)] [] .e) (.g [.unC (.o 288) 8,.unC (.o 288) 9,.treeC (.o 288) 1 true 4,.treeC (.o 288) 3 true 16,.treeC (.o 288) 4 true 2,.flatten (.o 576)] [] .e)) .e),[⟨250,[1,2,3,4,5,24,25,26],[.o 0,.o 32,.o 288,.o 512,.o 544,.o 576],608,[.u 0,.u 32,.k 0,.u 288,.z,.q 16,.z,.z],[.c [.q 16],.c [.nils true 4,.k 0,.nils true 16],.c [.q 16,.x 512,.k 0,.x 544,.x 576,.cs ByteArray.empty,.k 0,.k 0,.un,.un],.te .row true 4,.l16,.te .flat true 2],fun n M S T U N V W=>Ru n S T M U N V W,.b (.b (.b .e (.n 0 (.g [] [(1152,544)] .e))) .e) .e⟩,
 ⟨1018,[2,3,4,8,51,52,53],[.o 32,.o 288,.o 512,.o 544,.o 576],832,[.u 32,.k 0,.u 288,.z,.q 16,.z,.z],[.c [.nils true 4,.k 0,.nils true 16],.c [.q 16,.x 512,.z,.x 544,.x 576,.s,.z,.z,.un,.un],.l4,.l16,.t .flat true 2],Rt,.e⟩,
 ⟨260711,[2,3,4,8,10,51,52,53],[.o 32,.o 288,.o 512,.o 544,.o 576,.o 928],1536,[.u 32,.k 0,.u 288,.z,.u 928,.q 16,.z,.z],[.c [.nils true 4,.k 0,.nils true 16],.c [.q 16,.x 512,.z,.x 544,.x 576,.s,.z,.z,.un,.un],.l4,.l16,.t .flat true 2,.c [.y,.s,.q 4,.y,.s,.q 3,.q 15,.y,.z,.s,.s,.s,.f 1,.q 8,.z,.z]],fun n M N a d h i j l m p r v _ A B _ _ _ C E F G H I J K L _=>UZ n M N a d h j l m p r v A B C E F G H I J K L i,.g [.treeS 11 false 1] [] .e⟩,
 ⟨4171386,[2,3,4,8,10,11,51,52,53,74,75,76],[.o 32,.o 288,.o 512,.o 544,.o 576,.o 928,.o 1696],1728,[.u 32,.k 0,.u 288,.z,.u 928,.w (.o 1696),.q 16,.z,.z,.q 4,.z,.z],[.c [.nils true 4,.k 0,.nils true 16],.c [.q 16,.x 512,.z,.x 544,.x 576,.s,.z,.z,.un,.un],.l4,.l16,.t .flat true 2,.c [.y,.s,.q 4,.y,.s,.q 3,.q 15,.y,.z,.s,.s,.s,.f 1,.q 8,.z,.z],.f1],fun n M N a d B O P h i j l m p r v _ A Q _ _ _ C E F G H I J K L _ R=>Ua n M N a d h j l m p r v A B C E F G H I J K L i O P Q R,.b (.n 0 (.g [] [(2016,1696)] .e)) (.g [.freeze (.o 1696)] [] (.g [.unC (.o 288) 8,.unC (.o 288) 9] [(2048,512),(2049,544),(2050,576)] .e))⟩,
 ⟨2042,[2,3,4,8,14],[.o 32,.o 288,.o 512,.o 544,.o 576],896,[.u 32,.k 0,.u 288,.z,.z],[.c [.nils true 4,.k 0,.nils true 16],.c [.q 16,.x 512,.z,.x 544,.x 576,.s,.z,.z,.un,.un],.l4,.l16,.t .flat true 2],UY,.b (.n 0 (.g [.unC (.o 288) 8,.unC (.o 288) 9] [(1728,512),(1729,544),(1730,576)] .e)) (.g [.freeze (.o 512),.freeze (.o 544)] [] (.b (.b .e (.g [.treeC (.o 32) 0 true 4,.treeC (.o 32) 2 true 16,.freeze (.o 1408),.freeze (.o 1440)] [] .e)) .e))⟩],none,[]⟩
def k9:Kz:=sg X9 [k16,k20,k21,k22] Tryz.func9
end Go.Proofs.YtjfmnfncmfepnaaGreatDoor
end
namespace Go.AM
open Go
def Ev {α:Type}(A:Nat→Option α) (r:α):Prop:=∃N,∀n,N≤n→A n=some r
section
variable {α β γ:Type}
section
variable {r:α}
theorem Ev.ret:Ev (fun _=>some r) r:=⟨0,fun _ _=>rfl⟩
variable {A:Nat→Option α}
theorem Ev.of (h:∀n,A n=some r):Ev A r:=⟨0,fun n _=>h n⟩
theorem Ev.succ (h:Ev (fun n=>A (n+1)) r):Ev A r:=by
 obtain⟨N,h⟩:=h;refine⟨N+1,fun n hn=>?_⟩
 obtain⟨m,rfl⟩:∃m,n=m+1:=⟨n - 1,by omega⟩
 exact h m (by omega)
theorem Ev.run (h:Ev A r):∃n,A n=some r:=let ⟨N,h⟩:=h;⟨N,h N (Nat.le_refl _)⟩
end
end
section
variable {γ:Type}
theorem ZP {x:Int}(h: -9223372036854775808≤x∧x≤9223372036854775807):IntKind.i64.wrap x=x:=IntWalk.i64_in x h
end
def GN (ti:Types) (e:TypeId) (x:D):Prop:=Shape ti e x.cells∧∀y,ti e=some y→x.isAgg=AR y.desc
def AB (ti:Types) (e:TypeId) (L:List D):Prop:=L.length≤maxLen∧∀x∈L,GN ti e x
def Rv (ti:Types) (rec:TypeId→Option (List TypeId)):Nat→List Field→Option (List TypeId)
 | _,[]=>some []
 | off,f::r=>match Nat.beq f.offset off with
  | false=>none
  | true=>match ti f.type with
   | none=>none
   | some y=>match rec f.type with
    | none=>none
    | some l=>match Nat.beq l.length y.size with
     | false=>none
     | true=>match Rv ti rec (off+y.size) r with
      | none=>none
      | some l'=>some (l++l')
def lQ (ti:Types):Nat→TypeId→Option (List TypeId)
 | 0,_=>none
 | n+1,t=>match ti t with
  | none=>none
  | some x=>match x.desc with
   | .struct fs=>match Rv ti (lQ ti n) 0 fs.toList with
    | none=>none
    | some l=>match Nat.beq l.length x.size with
     | true=>some l
     | false=>none
   | .array ..=>none
   | _=>some [t]
section
variable {ti:Types}{t:TypeId}{x:TI}
theorem Shape.one {ds:List D}(h:Shape ti t ds) (hx:ti t=some x) (hd:∀fs,x.desc≠ .struct fs):∃c,ds=[c]:=by
 cases h with
 | struct ds h1 h2=>simp_all
 | _=>exact⟨_,rfl⟩
theorem QF {ti:Types}{rec:TypeId→Option (List TypeId)}{ds:List D}
  (hrec:∀t ls cs,rec t=some ls→Shape ti t cs→cs.length=ls.length∧∀(j:Nat) c tl,cs[j]?=some c→ls[j]?=some tl→Shape ti tl [c]):
  ∀(fs:List Field) (off:Nat) (ls:List TypeId),Rv ti rec off fs=some ls→(∀f∈fs,∀y,ti f.type=some y→Shape ti f.type ((ds.drop f.offset).take y.size))→
   ∀(j:Nat) c tl,ds[off+j]?=some c→ls[j]?=some tl→Shape ti tl [c]
 | [],off,ls,h,_,j,c,tl,_,hl=>by
  cases h;simp at hl
 | f::fs,off,ls,h,hs,j,c,tl,hc,hl=>by
  unfold Rv at h;split at h
  ·cases h
  ·rename_i ho;have ho:=Nat.eq_of_beq_eq_true ho;split at h
   ·cases h
   ·rename_i y hy;split at h
    ·cases h
    ·rename_i l hr;split at h
     ·cases h
     ·rename_i hb;have hb:=Nat.eq_of_beq_eq_true hb;split at h
      ·cases h
      ·rename_i l' hl';cases h
       obtain⟨h1,h2⟩:=hrec _ _ _ hr (hs f (by simp) y hy)
       by_cases hj:j<l.length
       ·grind
       ·rw[List.getElem?_append_right (by omega)]at hl
        refine QF hrec fs _ l' hl' (fun f' hf'=>hs f' (List.mem_cons_of_mem _ hf')) (j - l.length) c tl ?_ hl
        grind
theorem Shape.flat:
  ∀(n:Nat) (t:TypeId) (ls:List TypeId) (ds:List D),lQ ti n t=some ls→Shape ti t ds→ds.length=ls.length∧∀(j:Nat) c tl,ds[j]?=some c→ls[j]?=some tl→Shape ti tl [c]
 | 0,t,ls,ds,h,_=>by cases h
 | n+1,t,ls,ds,h,hs=>by
  unfold lQ at h;split at h
  ·cases h
  ·rename_i x hx
   have single:(∀fs,x.desc≠ .struct fs)→ls=[t]→ds.length=ls.length∧∀(j:Nat) c tl,ds[j]?=some c→ls[j]?=some tl→Shape ti tl [c]:=by
    rintro hd rfl
    obtain⟨c,rfl⟩:=hs.one hx hd;grind
   split at h
   ·rename_i fs hd;obtain⟨h1,_,h3⟩:=hs.XE hx hd;split at h
    ·cases h
    ·rename_i l hl;split at h
     ·rename_i hb;cases h
      refine⟨h1.trans (Nat.eq_of_beq_eq_true hb).symm,fun j c tl h4 h5=>?_⟩
      exact QF (fun t ls cs h6 h7=>Shape.flat n t ls cs h6 h7) fs.toList 0 ls hl h3 j c tl (by simpa using h4) h5
     ·cases h
   ·cases h
   grind
variable {e:TypeId}
theorem GN.agg {x:D}{y:TI}(h:GN ti e x) (hy:ti e=some y) (hr:AR y.desc=true):∃cs,x= .agg cs∧Shape ti e cs:=by
 have h1:=(h.2 y hy).trans hr;cases x<;>simp[D.isAgg]at h1
 exact⟨_,rfl,h.1⟩
theorem GN.AEj {x:D}{y:TI}(h:GN ti e x) (hy:ti e=some y) (hr:AR y.desc=false):Shape ti e [x]:=by
 have h1:=(h.2 y hy).trans hr;have h0:=h.1;cases x<;>simp_all [D.isAgg,D.cells]
theorem Shape.Dt {y:TI}{c:D}(h:Shape ti t [c]) (hx:ti t=some x) (hd:x.desc= .slice e) (hy:ti e=some y):
  ∃L,c= .list (AR y.desc) y.size L∧AB ti e L:=by
 obtain⟨L,e1,h1,h2,h3⟩:=h.ZW hx hd hy;refine⟨L,(List.cons.inj e1).1,h1,fun r hr=>⟨h3 r hr,fun y' hy'=>?_⟩⟩
 rw[hy]at hy';obtain rfl:=Option.some.inj hy';exact (h2 r hr).1
theorem Shape.Jk {k:IntKind}{c:D}(h:Shape ti t [c]) (hx:ti t=some x) (hd:x.desc= .int k):∃n,c= .int k n∧(Lit.int k n).wf=true:=by
 obtain⟨n,e,hw⟩:=h.qM hx hd;simp_all
theorem Shape.HB {c:D}(h:Shape ti t [c]) (hx:ti t=some x) (hd:x.desc= .string):∃s,c= .str s∧s.size≤maxLen:=by
 obtain⟨n,e,hw⟩:=h.qN hx hd;simp_all
end
end Go.AM
namespace Go.AM
open Go
section
variable {ti:Types}{e:TypeId}
theorem AB.nil:AB ti e []:=⟨Nat.zero_le _,by simp⟩
theorem AB.cons {x:D}{L:List D}(hx:GN ti e x) (h:AB ti e L) (hl:L.length+1≤maxLen):AB ti e (x::L):=⟨by simpa using hl,fun y hy=>by
 rcases List.mem_cons.1 hy with rfl | hy
 ·exact hx
 ·exact h.2 y hy⟩
theorem AB.one {x:D}(hx:GN ti e x):AB ti e [x]:=.cons hx .nil (by simp[maxLen])
theorem AB.mem {L:List D}(h:AB ti e L) {i:Nat}{x:D}(hx:L[i]?=some x):GN ti e x:=h.2 x (List.mem_of_getElem? hx)
end
end Go.AM
set_option linter.unusedVariables false
noncomputable section
namespace Go.Proofs.YtjfmnfncmfepnaaGreatDoor
open Go Go.AM
mutual
/-- Data that differ in their places alone. -/
inductive Er:D→D→Prop where
 | rfl (x:D):Er x x
 | e {a0 a1 a2 a3 a4 a5 a6 a7 b6 b7}:Ef a6 b6→Er (.agg [.int .u8 a0,.int .i64 a1,.str a2,.str a3,.str a4,.list false 1 a5,.list true 8 a6,.int .i64 a7]) (.agg [.int .u8 a0,.int .i64 a1,.str a2,.str a3,.str a4,.list false 1 a5,.list true 8 b6,.int .i64 b7])
 | s {a0 a1 a2 a3 a4 a5 a6 a7 a8 a9 a10 a11 a12 a13 a14 b10 b11 b12 b13 b14}:Ef a10 b10→Ef a11 b11→Ef a12 b12→Ef a13 b13→Er (.agg [.int .u8 a0,.str a1,.str a2,.list false 1 a3,.int .u8 a4,.str a5,.list true 3 a6,.int .i64 a7,.str a8,.list false 1 a9,.list true 8 a10,.list true 15 a11,.list true 15 a12,.list true 3 a13,.int .i64 a14]) (.agg [.int .u8 a0,.str a1,.str a2,.list false 1 a3,.int .u8 a4,.str a5,.list true 3 a6,.int .i64 a7,.str a8,.list false 1 a9,.list true 8 b10,.list true 15 b11,.list true 15 b12,.list true 3 b13,.int .i64 b14])
 | a {a0 a1 a2 b2}:Ef a2 b2→Er (.agg [.str a0,.str a1,.list true 15 a2]) (.agg [.str a0,.str a1,.list true 15 b2])
 | i {a0 a1 a2 a3 a4 a5 a6 a7 a8 a9 a10 a11 a12 a13 a14 a15 b6 b13 b14 b15}:Ef a6 b6→Ef a13 b13→Er (.agg [.int .u8 a0,.str a1,.list true 4 a2,.int .u8 a3,.str a4,.list true 3 a5,.list true 15 a6,.int .u8 a7,.int .i64 a8,.str a9,.str a10,.str a11,.list false 1 a12,.list true 8 a13,.int .i64 a14,.int .i64 a15]) (.agg [.int .u8 a0,.str a1,.list true 4 a2,.int .u8 a3,.str a4,.list true 3 a5,.list true 15 b6,.int .u8 a7,.int .i64 a8,.str a9,.str a10,.str a11,.list false 1 a12,.list true 8 b13,.int .i64 b14,.int .i64 b15])
 | g {a0 a1 b1}:Ef a1 b1→Er (.agg [.list false 1 a0,.list true 15 a1]) (.agg [.list false 1 a0,.list true 15 b1])
inductive Ef:List D→List D→Prop where
 | nil:Ef [] []
 | cons {x y:D} {l r:List D}:Er x y→Ef l r→Ef (x::l) (y::r)
end
theorem Ef.refl:∀l:List D,Ef l l
 | []=>.nil
 | x::l=>.cons (.rfl x) (Ef.refl l)
theorem Ef.len:∀{l r:List D},Ef l r→r.length=l.length
 | _,_,.nil=>rfl
 | _,_,.cons _ h=>by simp[h.len]
theorem Ef.get:∀{l r:List D},Ef l r→∀{i:Nat}{x:D},l[i]?=some x→∃y,r[i]?=some y∧Er x y
 | _,_,.nil,i,x,h=>by simp at h
 | _,_,.cons h1 h2,0,x,h=>by simp at h;subst h;exact⟨_,rfl,h1⟩
 | _,_,.cons h1 h2,i+1,x,h=>by simpa using h2.get (by simpa using h)
theorem Ef.app:∀{l r a b:List D},Ef l r→Ef a b→Ef (l++a) (r++b)
 | _,_,_,_,.nil,h=>h
 | _,_,_,_,.cons h1 h2,h=>.cons h1 (h2.app h)
inductive Vj:List D→List D→Prop where
 | rfl (l:List D):Vj l l
 | i {a0 a1 a2 a3 a4 a5 a6 a7 a8 a9 a10 a11 a12 a13 a14 a15 b6 b13 b14 b15}:Ef a6 b6→Ef a13 b13→Vj ([.int .u8 a0,.str a1,.list true 4 a2,.int .u8 a3,.str a4,.list true 3 a5,.list true 15 a6,.int .u8 a7,.int .i64 a8,.str a9,.str a10,.str a11,.list false 1 a12,.list true 8 a13,.int .i64 a14,.int .i64 a15]) ([.int .u8 a0,.str a1,.list true 4 a2,.int .u8 a3,.str a4,.list true 3 a5,.list true 15 b6,.int .u8 a7,.int .i64 a8,.str a9,.str a10,.str a11,.list false 1 a12,.list true 8 b13,.int .i64 b14,.int .i64 b15])
inductive U4:List D→List D→Prop where
 | nil:U4 [] []
 | same {x:D} {l r:List D}:U4 l r→U4 (x::l) (x::r)
 | cons {k:D} {v w l r:List D}:Vj v w→U4 l r→U4 (.agg (k::v)::l) (.agg (k::w)::r)
theorem Vj.er {v w:List D}:Vj v w→Er (.agg v) (.agg w)
 | .rfl _=>.rfl _
 | .i h1 h2=>.i h1 h2
theorem U4.refl:∀l:List D,U4 l l
 | []=>.nil
 | x::l=>.same (U4.refl l)
theorem U4.find {s:ByteArray}:∀{l r:List D},U4 l r→(DS true (.str s) l=none∧DS true (.str s) r=none)∨(DS true (.str s) l=some none∧DS true (.str s) r=some none)∨∃v w,DS true (.str s) l=some (some (.agg v))∧DS true (.str s) r=some (some (.agg w))∧Er (.agg v) (.agg w)
 | _,_,.nil=>.inr (.inl ⟨rfl,rfl⟩)
 | _,_,.same (x:=x) h=>by
  match x with
  | .agg (k::v)=>
   simp only[DS];split
   ·exact .inr (.inr ⟨_,_,rfl,rfl,.rfl _⟩)
   ·exact h.find
   ·exact .inl ⟨rfl,rfl⟩
  | .agg [] | .int .. | .str _ | .bool _ | .list .. | .nil | .box _ | .map ..=>exact .inl ⟨rfl,rfl⟩
 | _,_,.cons (k:=k) (v:=v) (w:=w) h1 h=>by
  simp only[DS];split
  ·exact .inr (.inr ⟨_,_,rfl,rfl,h1.er⟩)
  ·exact h.find
  ·exact .inl ⟨rfl,rfl⟩
theorem U4.put {s:ByteArray}{a b:List D}(hv:Vj a b):∀{l r:List D},U4 l r→(G9 (.str s) a l=none∧G9 (.str s) b r=none)∨∃q t,G9 (.str s) a l=some q∧G9 (.str s) b r=some t∧U4 q t
 | _,_,.nil=>.inr ⟨_,_,rfl,rfl,.cons hv .nil⟩
 | _,_,.same (x:=x) h=>by
  match x with
  | .agg (k::v)=>
   simp only[G9];split
   ·exact .inr ⟨_,_,rfl,rfl,.cons hv h⟩
   ·rcases h.put (s:=s) hv with⟨e1,e2⟩ | ⟨q,t,e1,e2,e3⟩
    ·simp only[e1,e2];exact .inl ⟨trivial,trivial⟩
    ·simp only[e1,e2];exact .inr ⟨_,_,rfl,rfl,.same e3⟩
   ·exact .inl ⟨rfl,rfl⟩
  | .agg [] | .int .. | .str _ | .bool _ | .list .. | .nil | .box _ | .map ..=>exact .inl ⟨rfl,rfl⟩
 | _,_,.cons (k:=k) (v:=v) (w:=w) h1 h=>by
  simp only[G9];split
  ·exact .inr ⟨_,_,rfl,rfl,.cons hv h⟩
  ·rcases h.put (s:=s) hv with⟨e1,e2⟩ | ⟨q,t,e1,e2,e3⟩
   ·simp only[e1,e2];exact .inl ⟨trivial,trivial⟩
   ·simp only[e1,e2];exact .inr ⟨_,_,rfl,rfl,.cons h1 e3⟩
  ·exact .inl ⟨rfl,rfl⟩
theorem U4.len:∀{l r:List D},U4 l r→r.length=l.length
 | _,_,.nil=>rfl
 | _,_,.same h=>by simp[h.len]
 | _,_,.cons _ h=>by simp[h.len]
class Rl (l r:List D):Prop where h:Ef l r
class Ml (l r:List D):Prop where h:U4 l r
class Fl (l r:List D):Prop where h:r.length=l.length
class Ln (l r:List D):Prop where h:r.length=l.length
class Ec (x y:D):Prop where h:Er x y
class Vc (v w:List D):Prop where h:Vj v w
def Pl (_ _:Int):Prop:=True
instance (l:List D):Rl l l:=⟨.refl l⟩
instance (l:List D):Ml l l:=⟨.refl l⟩
instance (l:List D):Fl l l:=⟨rfl⟩
instance (v:List D):Vc v v:=⟨.rfl v⟩
instance (x:D):Ec x x:=⟨.rfl x⟩
instance (x y:D):Fl [x] [y]:=⟨rfl⟩
instance {l r:List D} [h:Rl l r]:Ln l r:=⟨h.h.len⟩
instance {l r:List D} [h:Ml l r]:Ln l r:=⟨h.h.len⟩
instance {l r:List D} [h:Fl l r]:Ln l r:=⟨h.h⟩
instance {a0 a1 a2 a3 a4 a5 a6 a7 a8 a9 a10 a11 a12 a13 a14 a15 b6 b13 b14 b15} [h1:Rl a6 b6] [h2:Rl a13 b13]:Vc ([.int .u8 a0,.str a1,.list true 4 a2,.int .u8 a3,.str a4,.list true 3 a5,.list true 15 a6,.int .u8 a7,.int .i64 a8,.str a9,.str a10,.str a11,.list false 1 a12,.list true 8 a13,.int .i64 a14,.int .i64 a15]) ([.int .u8 a0,.str a1,.list true 4 a2,.int .u8 a3,.str a4,.list true 3 a5,.list true 15 b6,.int .u8 a7,.int .i64 a8,.str a9,.str a10,.str a11,.list false 1 a12,.list true 8 b13,.int .i64 b14,.int .i64 b15]):=⟨.i h1.h h2.h⟩
section
variable {α β γ δ:Type}
def RO (R:α→α→Prop):Option α→Option α→Prop
 | none,none=>True
 | some a,some b=>R a b
 | _,_=>False
class Co (R:outParam (α→α→Prop)) (A B:Option α):Prop where h:RO R A B
class Rf (R:α→α→Prop):Prop where h:∀x,R x x
instance:Rf (@Eq α):=⟨fun _=>rfl⟩
instance:Rf Rl:=⟨fun _=>inferInstance⟩
instance:Rf Ml:=⟨fun _=>inferInstance⟩
instance:Rf Fl:=⟨fun _=>inferInstance⟩
instance:Rf Pl:=⟨fun _=>trivial⟩
inductive x2 (R:α→α→Prop) (S:β→β→Prop):α×β→α×β→Prop where
 | mk {a b:α} {c d:β}:R a b→S c d→x2 R S (a,c) (b,d)
inductive xs (R:α→α→Prop) (S:β→β→Prop):α ⊕ β→α ⊕ β→Prop where
 | l {a b:α}:R a b→xs R S (.inl a) (.inl b)
 | r {a b:β}:S a b→xs R S (.inr a) (.inr b)
instance {R:α→α→Prop} {S:β→β→Prop} [h1:Rf R] [h2:Rf S]:Rf (x2 R S):=⟨fun x=>.mk (h1.h _) (h2.h _)⟩
instance {R:α→α→Prop} {S:β→β→Prop} [h1:Rf R] [h2:Rf S]:Rf (xs R S):=⟨fun x=>match x with
  | .inl _=>.l (h1.h _)
  | .inr _=>.r (h2.h _)⟩
class Hs (R:outParam (α→α→Prop)) (p q:α):Prop where h:R p q
instance {R:α→α→Prop} {p q:α} [h:Hs R p q]:Co R (some p) (some q):=⟨h.h⟩
instance (priority:=low) (A:Option α):Co Eq A A:=⟨by cases A<;>first | exact trivial | exact rfl⟩
variable {S:γ→γ→Prop}
section
variable {A:Option γ}
theorem rr [h:Rf S]:Co S A A:=⟨by cases A<;>first | exact trivial | exact h.h _⟩
theorem lf {x y:γ}(h:S x y):Co S (some x) (some y):=⟨h⟩
variable {A':Option γ}
theorem ci {c:Prop} [Decidable c] {B B':Option γ}(h1:Co S A A') (h2:Co S B B'):Co S (if c then A else B) (if c then A' else B'):=by
 by_cases h:c
 ·rw[if_pos h,if_pos h];exact h1
 ·rw[if_neg h,if_neg h];exact h2
theorem cn {c:Prop} [Decidable c] (h1:Co S A A'):Co S (Be c A) (Be c A'):=ci h1 ⟨trivial⟩
variable {i:Nat}
theorem ALp {j:Nat}(h1:Co S A A'):Co S (gd i j A) (gd i j A'):=by
 unfold gd;exact ci h1 ⟨trivial⟩
variable {l r:List D}
theorem cn2 {z:Int} [h:Ln l r] (h1:Co S A A'):Co S (Be (0≤z∧z.toNat<l.length) A) (Be (0≤z∧z.toNat<r.length) A'):=by
 rw[h.h];exact cn h1
theorem xR {z:Int}{k k':Int→Option γ}(h:∀x,Co S (k x) (k' x)):Co S (AW z k) (AW z k'):=h _
theorem xS {z:Bool}{k k':Bool→Option γ}(h:∀x,Co S (k x) (k' x)):Co S (Ax z k) (Ax z k'):=h _
variable {k k':List D→Option γ}
theorem xT {z:List D}(h:∀x,Co S (k x) (k' x)):Co S (Gf z k) (Gf z k'):=h _
theorem xU {z:List D}{k k':Int→Option γ}(h:∀x,Co S (k x) (k' x)):Co S (AO z k) (AO z k'):=h _
theorem ACn [q:Ln l r] {k k':Int→Option γ}(h:∀x,Co S (k x) (k' x)):Co S (AO l k) (AO r k'):=by unfold AO;rw[q.h];exact h _
theorem xV {x:D}(h:∀x,Co S (k x) (k' x)):Co S (O3 l i x k) (O3 l i x k'):=h _
theorem xW {i:Int}{k k':D→Option γ}(h:∀x,Co S (k x) (k' x)):Co S (Ae l i k) (Ae l i k'):=by
 unfold Ae;refine ci ?_ ⟨trivial⟩;split<;>first | exact h _ | exact⟨trivial⟩
theorem xX {k k':D→Option γ}(h:∀x,Co S (k x) (k' x)):Co S (DV l i k) (DV l i k'):=by
 unfold DV;split<;>first | exact h _ | exact⟨trivial⟩
theorem xY {b:Nat}(h:∀x,Co S (k x) (k' x)):Co S (Bw b l r k) (Bw b l r k'):=ci (h _) ⟨trivial⟩
theorem pY {b:Nat}{z:D}{u v:Int}(h:∀x,Co S (k x) (k' x)):Co S (Lv b z u v k) (Lv b z u v k'):=ci (h _) ⟨trivial⟩
theorem xZ {a:D}{v:List D}(h:∀x,Co S (k x) (k' x)):Co S (B5 a v l k) (B5 a v l k'):=by
 unfold B5;split<;>first | exact h _ | exact⟨trivial⟩
theorem pZ {e:Bool}{a:D}{k k':D→Option γ}(h:∀x,Co S (k x) (k' x)) (h2:Co S A A'):Co S (findF e a l k A) (findF e a l k' A'):=by
 unfold findF;split<;>first | exact h _ | exact h2 | exact⟨trivial⟩
theorem qA {k k':D→List D→Option γ}(h2:Co S A A') (h:∀x y,Co S (k x y) (k' x y)):Co S (Eg l A k) (Eg l A' k'):=by
 unfold Eg;split<;>first | exact h2 | exact h _ _
theorem sQ [q:Rl l r] {k k':D→Option γ}(h:∀x y,Ec x y→Co S (k x) (k' y)):Co S (DV l i k) (DV r i k'):=by
 unfold DV
 by_cases c:i<l.length
 ·have e:=List.getElem?_eq_getElem c;obtain⟨y,e2,e3⟩:=q.h.get e;rw[e,e2];exact h _ _ ⟨e3⟩
 ·rw[List.getElem?_eq_none (by omega),List.getElem?_eq_none (by rw[q.h.len];omega)]
  exact⟨trivial⟩
theorem yA [q:Rl l r] {i:Int}{k k':D→Option γ}(h:∀x y,Ec x y→Co S (k x) (k' y)):Co S (Ae l i k) (Ae r i k'):=ci (sQ h) ⟨trivial⟩
theorem ACo {a b:List D} [q:Rl l r] [q2:Rl a b] {m:Nat}(h:∀x y,Rl x y→Co S (k x) (k' y)):Co S (Bw m l a k) (Bw m r b k'):=by
 unfold Bw;rw[q.h.len,q2.h.len];exact ci (h _ _ ⟨q.h.app q2.h⟩) ⟨trivial⟩
theorem ACp {a b:List D} [q:Fl l r] [q2:Fl a b] {m:Nat}(h:∀x y,Fl x y→Co S (k x) (k' y)):Co S (Bw m l a k) (Bw m r b k'):=by
 unfold Bw;rw[q.h,q2.h];exact ci (h _ _ ⟨by simp[q.h,q2.h]⟩) ⟨trivial⟩
theorem ACq [q:Fl l r] (h:∀x y,Fl x y→Co S (k x) (k' y)):Co S (Gf l k) (Gf r k'):=h _ _ q
theorem ACr {s:ByteArray}{v w:List D} [q:Ml l r] [q2:Vc v w] (h:∀x y,Ml x y→Co S (k x) (k' y)):Co S (B5 (.str s) v l k) (B5 (.str s) w r k'):=by
 unfold B5;rcases q.h.put (s:=s) q2.h with⟨e1,e2⟩ | ⟨_,_,e1,e2,e3⟩<;>simp only[e1,e2]
 ·exact⟨trivial⟩
 ·exact h _ _ ⟨e3⟩
theorem yB {s:ByteArray} [q:Ml l r] {k k':D→Option γ}(h:∀x y,Ec x y→Co S (k x) (k' y)) (h2:Co S A A'):Co S (findF true (.str s) l k A) (findF true (.str s) r k' A'):=by
 unfold findF;rcases q.h.find (s:=s)with⟨e1,e2⟩ | ⟨e1,e2⟩ | ⟨_,_,e1,e2,e3⟩<;>simp only[e1,e2]
 ·exact⟨trivial⟩
 ·exact h2
 ·exact h _ _ ⟨e3⟩
end
instance {n m m':List D} [h:Rl m m']:Rl [.agg [.list false 1 n,.list true 15 m]] [.agg [.list false 1 n,.list true 15 m']]:=⟨.cons (.g h.h) .nil⟩
section
variable {x:D}
theorem sR {k k'}(h:∀a0 a1 a2 a3 a4 a5 a6 a7 a8 a9 a10 a11 a12 a13 a14 a15,Co S (k a0 a1 a2 a3 a4 a5 a6 a7 a8 a9 a10 a11 a12 a13 a14 a15) (k' a0 a1 a2 a3 a4 a5 a6 a7 a8 a9 a10 a11 a12 a13 a14 a15)):Co S (BZ x k) (BZ x k'):=by
 unfold BZ;split<;>first | exact h _ _ _ _ _ _ _ _ _ _ _ _ _ _ _ _ | exact⟨trivial⟩
theorem ACs {k k'}(h:∀a0 a1 a2 a3,Co S (k a0 a1 a2 a3) (k' a0 a1 a2 a3)):Co S (Bt x k) (Bt x k'):=by
 unfold Bt;split<;>first | exact h _ _ _ _ | exact⟨trivial⟩
theorem ACt {k k'}(h:∀a0 a1 a2,Co S (k a0 a1 a2) (k' a0 a1 a2)):Co S (D0 x k) (D0 x k'):=by
 unfold D0;split<;>first | exact h _ _ _ | exact⟨trivial⟩
theorem sV {k k'}(h:∀a0 a1 a2 a3 a4 a5 a6 a7 a8 a9 a10 a11 a12 a13 a14,Co S (k a0 a1 a2 a3 a4 a5 a6 a7 a8 a9 a10 a11 a12 a13 a14) (k' a0 a1 a2 a3 a4 a5 a6 a7 a8 a9 a10 a11 a12 a13 a14)):Co S (Ba x k) (Ba x k'):=by
 unfold Ba;split<;>first | exact h _ _ _ _ _ _ _ _ _ _ _ _ _ _ _ | exact⟨trivial⟩
theorem ACu {k k'}(h:∀a0,Co S (k a0) (k' a0)):Co S (B0 x k) (B0 x k'):=by
 unfold B0;split<;>first | exact h _ | exact⟨trivial⟩
theorem sW {k k'}(h:∀a0 a1 a2 a3 a4 a5 a6 a7,Co S (k a0 a1 a2 a3 a4 a5 a6 a7) (k' a0 a1 a2 a3 a4 a5 a6 a7)):Co S (Bj x k) (Bj x k'):=by
 unfold Bj;split<;>first | exact h _ _ _ _ _ _ _ _ | exact⟨trivial⟩
theorem sX {k k'}(h:∀a0 a1 a2,Co S (k a0 a1 a2) (k' a0 a1 a2)):Co S (Cv x k) (Cv x k'):=by
 unfold Cv;split<;>first | exact h _ _ _ | exact⟨trivial⟩
theorem ACv {k k'}(h:∀a0,Co S (k a0) (k' a0)):Co S (B1 x k) (B1 x k'):=by
 unfold B1;split<;>first | exact h _ | exact⟨trivial⟩
theorem yC {k k'}(h:∀a0,Co S (k a0) (k' a0)):Co S (FP x k) (FP x k'):=by
 unfold FP;split<;>first | exact h _ | exact⟨trivial⟩
theorem yD {k k'}(h:∀a0,Co S (k a0) (k' a0)):Co S (Dj x k) (Dj x k'):=by
 unfold Dj;split<;>first | exact h _ | exact⟨trivial⟩
theorem ACw {k k'}(h:∀a0 a1,Co S (k a0 a1) (k' a0 a1)):Co S (Ch x k) (Ch x k'):=by
 unfold Ch;split<;>first | exact h _ _ | exact⟨trivial⟩
theorem ALq {k k'}(h:∀a0,Co S (k a0) (k' a0)):Co S (Ha x k) (Ha x k'):=by
 unfold Ha;split<;>first | exact h _ | exact⟨trivial⟩
theorem ACx {k k'}(h:∀a0 a1 a2 a3 a4 a5 a6 a7 a8,Co S (k a0 a1 a2 a3 a4 a5 a6 a7 a8) (k' a0 a1 a2 a3 a4 a5 a6 a7 a8)):Co S (Ci x k) (Ci x k'):=by
 unfold Ci;split<;>first | exact h _ _ _ _ _ _ _ _ _ | exact⟨trivial⟩
theorem sY {k k'}(h:∀a0 a1,Co S (k a0 a1) (k' a0 a1)):Co S (E9 x k) (E9 x k'):=by
 unfold E9;split<;>first | exact h _ _ | exact⟨trivial⟩
variable {y:D}
theorem ACy [q:Ec x y] {k k'}(h:∀{a0 a1 a2 a3 a4 a5 a6 a7 b6 b7},Rl a6 b6→Co S (k a0 a1 a2 a3 a4 a5 a6 a7) (k' a0 a1 a2 a3 a4 a5 b6 b7)):Co S (Bj x k) (Bj y k'):=by
 cases q.h with
 | rfl=>exact sW fun _ _ _ _ _ _ _ _=>h inferInstance
 | e h0=>exact h ⟨h0⟩
 | _=>exact⟨trivial⟩
theorem ACz [q:Ec x y] {k k'}(h:∀{a0 a1 a2 a3 a4 a5 a6 a7 a8 a9 a10 a11 a12 a13 a14 b10 b11 b12 b13 b14},Rl a10 b10→Rl a11 b11→Rl a12 b12→Rl a13 b13→Co S (k a0 a1 a2 a3 a4 a5 a6 a7 a8 a9 a10 a11 a12 a13 a14) (k' a0 a1 a2 a3 a4 a5 a6 a7 a8 a9 b10 b11 b12 b13 b14)):Co S (Ba x k) (Ba y k'):=by
 cases q.h with
 | rfl=>exact sV fun _ _ _ _ _ _ _ _ _ _ _ _ _ _ _=>h inferInstance inferInstance inferInstance inferInstance
 | s h0 h1 h2 h3=>exact h ⟨h0⟩ ⟨h1⟩ ⟨h2⟩ ⟨h3⟩
 | _=>exact⟨trivial⟩
theorem ADa [q:Ec x y] {k k'}(h:∀{a0 a1 a2 b2},Rl a2 b2→Co S (k a0 a1 a2) (k' a0 a1 b2)):Co S (Cv x k) (Cv y k'):=by
 cases q.h with
 | rfl=>exact sX fun _ _ _=>h inferInstance
 | a h0=>exact h ⟨h0⟩
 | _=>exact⟨trivial⟩
theorem ADb [q:Ec x y] {k k'}(h:∀{a0 a1 a2 a3 a4 a5 a6 a7 a8 a9 a10 a11 a12 a13 a14 a15 b6 b13 b14 b15},Rl a6 b6→Rl a13 b13→Co S (k a0 a1 a2 a3 a4 a5 a6 a7 a8 a9 a10 a11 a12 a13 a14 a15) (k' a0 a1 a2 a3 a4 a5 b6 a7 a8 a9 a10 a11 a12 b13 b14 b15)):Co S (BZ x k) (BZ y k'):=by
 cases q.h with
 | rfl=>exact sR fun _ _ _ _ _ _ _ _ _ _ _ _ _ _ _ _=>h inferInstance inferInstance
 | i h0 h1=>exact h ⟨h0⟩ ⟨h1⟩
 | _=>exact⟨trivial⟩
theorem ADc [q:Ec x y] {k k'}(h:∀{a0 a1 b1},Rl a1 b1→Co S (k a0 a1) (k' a0 b1)):Co S (E9 x k) (E9 y k'):=by
 cases q.h with
 | rfl=>exact sY fun _ _=>h inferInstance
 | g h0=>exact h ⟨h0⟩
 | _=>exact⟨trivial⟩
end
variable {T0 T1 T2 T3 T4 T5 T6 T7 T8 T9 T10 T11 T12 T13 T14 T15 T16 T17 T18 T19 T20 T21:Type}
variable {R0:T0→T0→Prop}{R1:T1→T1→Prop}{R2:T2→T2→Prop}{R3:T3→T3→Prop}{R4:T4→T4→Prop}{R5:T5→T5→Prop}{R6:T6→T6→Prop}{R7:T7→T7→Prop}{R8:T8→T8→Prop}{R9:T9→T9→Prop}{R10:T10→T10→Prop}{R11:T11→T11→Prop}{R12:T12→T12→Prop}{R13:T13→T13→Prop}{R14:T14→T14→Prop}{R15:T15→T15→Prop}{R16:T16→T16→Prop}{R17:T17→T17→Prop}{R18:T18→T18→Prop}{R19:T19→T19→Prop}{R20:T20→T20→Prop}{R21:T21→T21→Prop}
theorem e_1 {A B:Option (T0)} [q:Co Eq A B] {k k':T0→Option γ}(h:∀a0,Co S (k a0) (k' a0)):Co S (Au A k) (Au B k'):=by
 have:=q.h;cases A<;>cases B<;>first | exact⟨trivial⟩ | exact this.elim | (cases (show _=_ from this);exact h _)
theorem e_2 {A B:Option (T0×T1)} [q:Co Eq A B] {k k':T0→T1→Option γ}(h:∀a0 a1,Co S (k a0 a1) (k' a0 a1)):Co S (Im A k) (Im B k'):=by
 have:=q.h;cases A<;>cases B<;>first | exact⟨trivial⟩ | exact this.elim | (cases (show _=_ from this);exact h _ _)
theorem e_3 {A B:Option (T0×T1×T2)} [q:Co Eq A B] {k k':T0→T1→T2→Option γ}(h:∀a0 a1 a2,Co S (k a0 a1 a2) (k' a0 a1 a2)):Co S (Dq A k) (Dq B k'):=by
 have:=q.h;cases A<;>cases B<;>first | exact⟨trivial⟩ | exact this.elim | (cases (show _=_ from this);exact h _ _ _)
theorem e_4 {A B:Option (T0×T1×T2×T3)} [q:Co Eq A B] {k k':T0→T1→T2→T3→Option γ}(h:∀a0 a1 a2 a3,Co S (k a0 a1 a2 a3) (k' a0 a1 a2 a3)):Co S (jD A k) (jD B k'):=by
 have:=q.h;cases A<;>cases B<;>first | exact⟨trivial⟩ | exact this.elim | (cases (show _=_ from this);exact h _ _ _ _)
theorem e_5 {A B:Option (T0×T1×T2×T3×T4)} [q:Co Eq A B] {k k':T0→T1→T2→T3→T4→Option γ}(h:∀a0 a1 a2 a3 a4,Co S (k a0 a1 a2 a3 a4) (k' a0 a1 a2 a3 a4)):Co S (ZY A k) (ZY B k'):=by
 have:=q.h;cases A<;>cases B<;>first | exact⟨trivial⟩ | exact this.elim | (cases (show _=_ from this);exact h _ _ _ _ _)
theorem e_7 {A B:Option (T0×T1×T2×T3×T4×T5×T6)} [q:Co Eq A B] {k k':T0→T1→T2→T3→T4→T5→T6→Option γ}(h:∀a0 a1 a2 a3 a4 a5 a6,Co S (k a0 a1 a2 a3 a4 a5 a6) (k' a0 a1 a2 a3 a4 a5 a6)):Co S (jE A k) (jE B k'):=by
 have:=q.h;cases A<;>cases B<;>first | exact⟨trivial⟩ | exact this.elim | (cases (show _=_ from this);exact h _ _ _ _ _ _ _)
theorem ALr {A B:Option (T0×T1×T2×T3×T4×T5×T6×T7×T8×T9)} [q:Co Eq A B] {k k':T0→T1→T2→T3→T4→T5→T6→T7→T8→T9→Option γ}(h:∀a0 a1 a2 a3 a4 a5 a6 a7 a8 a9,Co S (k a0 a1 a2 a3 a4 a5 a6 a7 a8 a9) (k' a0 a1 a2 a3 a4 a5 a6 a7 a8 a9)):Co S (BO A k) (BO B k'):=by
 have:=q.h;cases A<;>cases B<;>first | exact⟨trivial⟩ | exact this.elim | (cases (show _=_ from this);exact h _ _ _ _ _ _ _ _ _ _)
theorem x_1 {A B:Option T0} [q:Co R0 A B] {k k':T0→Option γ}(h:∀{a b},R0 a b→Co S (k a) (k' b)):Co S (Au A k) (Au B k'):=by
 have:=q.h;cases A<;>cases B<;>first | exact⟨trivial⟩ | exact this.elim | exact h this
theorem x_3 {A B:Option (T0×T1×T2)} [q:Co (x2 R0 (x2 R1 R2)) A B] {k k':T0→T1→T2→Option γ}(h:∀{a0 b0},R0 a0 b0→∀{a1 b1},R1 a1 b1→∀{a2 b2},R2 a2 b2→Co S (k a0 a1 a2) (k' b0 b1 b2)):Co S (Dq A k) (Dq B k'):=by
 have:=q.h;cases A<;>cases B<;>first | exact⟨trivial⟩ | exact this.elim | exact match (show x2 R0 (x2 R1 R2) _ _ from this)with | .mk h0 (.mk h1 h2)=>h h0 h1 h2
theorem x_6 {A B:Option (T0×T1×T2×T3×T4×T5)} [q:Co (x2 R0 (x2 R1 (x2 R2 (x2 R3 (x2 R4 R5))))) A B] {k k':T0→T1→T2→T3→T4→T5→Option γ}(h:∀{a0 b0},R0 a0 b0→∀{a1 b1},R1 a1 b1→∀{a2 b2},R2 a2 b2→∀{a3 b3},R3 a3 b3→∀{a4 b4},R4 a4 b4→∀{a5 b5},R5 a5 b5→Co S (k a0 a1 a2 a3 a4 a5) (k' b0 b1 b2 b3 b4 b5)):Co S (Lw A k) (Lw B k'):=by
 have:=q.h;cases A<;>cases B<;>first | exact⟨trivial⟩ | exact this.elim | exact match (show x2 R0 (x2 R1 (x2 R2 (x2 R3 (x2 R4 R5)))) _ _ from this)with | .mk h0 (.mk h1 (.mk h2 (.mk h3 (.mk h4 h5))))=>h h0 h1 h2 h3 h4 h5
theorem x_7 {A B:Option (T0×T1×T2×T3×T4×T5×T6)} [q:Co (x2 R0 (x2 R1 (x2 R2 (x2 R3 (x2 R4 (x2 R5 R6)))))) A B] {k k':T0→T1→T2→T3→T4→T5→T6→Option γ}(h:∀{a0 b0},R0 a0 b0→∀{a1 b1},R1 a1 b1→∀{a2 b2},R2 a2 b2→∀{a3 b3},R3 a3 b3→∀{a4 b4},R4 a4 b4→∀{a5 b5},R5 a5 b5→∀{a6 b6},R6 a6 b6→Co S (k a0 a1 a2 a3 a4 a5 a6) (k' b0 b1 b2 b3 b4 b5 b6)):Co S (jE A k) (jE B k'):=by
 have:=q.h;cases A<;>cases B<;>first | exact⟨trivial⟩ | exact this.elim | exact match (show x2 R0 (x2 R1 (x2 R2 (x2 R3 (x2 R4 (x2 R5 R6))))) _ _ from this)with | .mk h0 (.mk h1 (.mk h2 (.mk h3 (.mk h4 (.mk h5 h6)))))=>h h0 h1 h2 h3 h4 h5 h6
theorem x_8 {A B:Option (T0×T1×T2×T3×T4×T5×T6×T7)} [q:Co (x2 R0 (x2 R1 (x2 R2 (x2 R3 (x2 R4 (x2 R5 (x2 R6 R7))))))) A B] {k k':T0→T1→T2→T3→T4→T5→T6→T7→Option γ}(h:∀{a0 b0},R0 a0 b0→∀{a1 b1},R1 a1 b1→∀{a2 b2},R2 a2 b2→∀{a3 b3},R3 a3 b3→∀{a4 b4},R4 a4 b4→∀{a5 b5},R5 a5 b5→∀{a6 b6},R6 a6 b6→∀{a7 b7},R7 a7 b7→Co S (k a0 a1 a2 a3 a4 a5 a6 a7) (k' b0 b1 b2 b3 b4 b5 b6 b7)):Co S (XX A k) (XX B k'):=by
 have:=q.h;cases A<;>cases B<;>first | exact⟨trivial⟩ | exact this.elim | exact match (show x2 R0 (x2 R1 (x2 R2 (x2 R3 (x2 R4 (x2 R5 (x2 R6 R7)))))) _ _ from this)with | .mk h0 (.mk h1 (.mk h2 (.mk h3 (.mk h4 (.mk h5 (.mk h6 h7))))))=>h h0 h1 h2 h3 h4 h5 h6 h7
theorem x_9 {A B:Option (T0×T1×T2×T3×T4×T5×T6×T7×T8)} [q:Co (x2 R0 (x2 R1 (x2 R2 (x2 R3 (x2 R4 (x2 R5 (x2 R6 (x2 R7 R8)))))))) A B] {k k':T0→T1→T2→T3→T4→T5→T6→T7→T8→Option γ}(h:∀{a0 b0},R0 a0 b0→∀{a1 b1},R1 a1 b1→∀{a2 b2},R2 a2 b2→∀{a3 b3},R3 a3 b3→∀{a4 b4},R4 a4 b4→∀{a5 b5},R5 a5 b5→∀{a6 b6},R6 a6 b6→∀{a7 b7},R7 a7 b7→∀{a8 b8},R8 a8 b8→Co S (k a0 a1 a2 a3 a4 a5 a6 a7 a8) (k' b0 b1 b2 b3 b4 b5 b6 b7 b8)):Co S (jF A k) (jF B k'):=by
 have:=q.h;cases A<;>cases B<;>first | exact⟨trivial⟩ | exact this.elim | exact match (show x2 R0 (x2 R1 (x2 R2 (x2 R3 (x2 R4 (x2 R5 (x2 R6 (x2 R7 R8))))))) _ _ from this)with | .mk h0 (.mk h1 (.mk h2 (.mk h3 (.mk h4 (.mk h5 (.mk h6 (.mk h7 h8)))))))=>h h0 h1 h2 h3 h4 h5 h6 h7 h8
theorem ALs {A B:Option (T0×T1×T2×T3×T4×T5×T6×T7×T8×T9)} [q:Co (x2 R0 (x2 R1 (x2 R2 (x2 R3 (x2 R4 (x2 R5 (x2 R6 (x2 R7 (x2 R8 R9))))))))) A B] {k k':T0→T1→T2→T3→T4→T5→T6→T7→T8→T9→Option γ}(h:∀{a0 b0},R0 a0 b0→∀{a1 b1},R1 a1 b1→∀{a2 b2},R2 a2 b2→∀{a3 b3},R3 a3 b3→∀{a4 b4},R4 a4 b4→∀{a5 b5},R5 a5 b5→∀{a6 b6},R6 a6 b6→∀{a7 b7},R7 a7 b7→∀{a8 b8},R8 a8 b8→∀{a9 b9},R9 a9 b9→Co S (k a0 a1 a2 a3 a4 a5 a6 a7 a8 a9) (k' b0 b1 b2 b3 b4 b5 b6 b7 b8 b9)):Co S (BO A k) (BO B k'):=by
 have:=q.h;cases A<;>cases B<;>first | exact⟨trivial⟩ | exact this.elim | exact match (show x2 R0 (x2 R1 (x2 R2 (x2 R3 (x2 R4 (x2 R5 (x2 R6 (x2 R7 (x2 R8 R9)))))))) _ _ from this)with | .mk h0 (.mk h1 (.mk h2 (.mk h3 (.mk h4 (.mk h5 (.mk h6 (.mk h7 (.mk h8 h9))))))))=>h h0 h1 h2 h3 h4 h5 h6 h7 h8 h9
theorem ALt {A B:Option (T0×T1×T2×T3×T4×T5×T6×T7×T8×T9×T10)} [q:Co (x2 R0 (x2 R1 (x2 R2 (x2 R3 (x2 R4 (x2 R5 (x2 R6 (x2 R7 (x2 R8 (x2 R9 R10)))))))))) A B] {k k':T0→T1→T2→T3→T4→T5→T6→T7→T8→T9→T10→Option γ}(h:∀{a0 b0},R0 a0 b0→∀{a1 b1},R1 a1 b1→∀{a2 b2},R2 a2 b2→∀{a3 b3},R3 a3 b3→∀{a4 b4},R4 a4 b4→∀{a5 b5},R5 a5 b5→∀{a6 b6},R6 a6 b6→∀{a7 b7},R7 a7 b7→∀{a8 b8},R8 a8 b8→∀{a9 b9},R9 a9 b9→∀{a10 b10},R10 a10 b10→Co S (k a0 a1 a2 a3 a4 a5 a6 a7 a8 a9 a10) (k' b0 b1 b2 b3 b4 b5 b6 b7 b8 b9 b10)):Co S (BW A k) (BW B k'):=by
 have:=q.h;cases A<;>cases B<;>first | exact⟨trivial⟩ | exact this.elim | exact match (show x2 R0 (x2 R1 (x2 R2 (x2 R3 (x2 R4 (x2 R5 (x2 R6 (x2 R7 (x2 R8 (x2 R9 R10))))))))) _ _ from this)with | .mk h0 (.mk h1 (.mk h2 (.mk h3 (.mk h4 (.mk h5 (.mk h6 (.mk h7 (.mk h8 (.mk h9 h10)))))))))=>h h0 h1 h2 h3 h4 h5 h6 h7 h8 h9 h10
theorem ALu {A B:Option (T0×T1×T2×T3×T4×T5×T6×T7×T8×T9×T10×T11×T12)} [q:Co (x2 R0 (x2 R1 (x2 R2 (x2 R3 (x2 R4 (x2 R5 (x2 R6 (x2 R7 (x2 R8 (x2 R9 (x2 R10 (x2 R11 R12)))))))))))) A B] {k k':T0→T1→T2→T3→T4→T5→T6→T7→T8→T9→T10→T11→T12→Option γ}(h:∀{a0 b0},R0 a0 b0→∀{a1 b1},R1 a1 b1→∀{a2 b2},R2 a2 b2→∀{a3 b3},R3 a3 b3→∀{a4 b4},R4 a4 b4→∀{a5 b5},R5 a5 b5→∀{a6 b6},R6 a6 b6→∀{a7 b7},R7 a7 b7→∀{a8 b8},R8 a8 b8→∀{a9 b9},R9 a9 b9→∀{a10 b10},R10 a10 b10→∀{a11 b11},R11 a11 b11→∀{a12 b12},R12 a12 b12→Co S (k a0 a1 a2 a3 a4 a5 a6 a7 a8 a9 a10 a11 a12) (k' b0 b1 b2 b3 b4 b5 b6 b7 b8 b9 b10 b11 b12)):Co S (K2 A k) (K2 B k'):=by
 have:=q.h;cases A<;>cases B<;>first | exact⟨trivial⟩ | exact this.elim | exact match (show x2 R0 (x2 R1 (x2 R2 (x2 R3 (x2 R4 (x2 R5 (x2 R6 (x2 R7 (x2 R8 (x2 R9 (x2 R10 (x2 R11 R12))))))))))) _ _ from this)with | .mk h0 (.mk h1 (.mk h2 (.mk h3 (.mk h4 (.mk h5 (.mk h6 (.mk h7 (.mk h8 (.mk h9 (.mk h10 (.mk h11 h12)))))))))))=>h h0 h1 h2 h3 h4 h5 h6 h7 h8 h9 h10 h11 h12
theorem ALv {A B:Option (T0×T1×T2×T3×T4×T5×T6×T7×T8×T9×T10×T11×T12×T13×T14×T15×T16×T17)} [q:Co (x2 R0 (x2 R1 (x2 R2 (x2 R3 (x2 R4 (x2 R5 (x2 R6 (x2 R7 (x2 R8 (x2 R9 (x2 R10 (x2 R11 (x2 R12 (x2 R13 (x2 R14 (x2 R15 (x2 R16 R17))))))))))))))))) A B] {k k':T0→T1→T2→T3→T4→T5→T6→T7→T8→T9→T10→T11→T12→T13→T14→T15→T16→T17→Option γ}(h:∀{a0 b0},R0 a0 b0→∀{a1 b1},R1 a1 b1→∀{a2 b2},R2 a2 b2→∀{a3 b3},R3 a3 b3→∀{a4 b4},R4 a4 b4→∀{a5 b5},R5 a5 b5→∀{a6 b6},R6 a6 b6→∀{a7 b7},R7 a7 b7→∀{a8 b8},R8 a8 b8→∀{a9 b9},R9 a9 b9→∀{a10 b10},R10 a10 b10→∀{a11 b11},R11 a11 b11→∀{a12 b12},R12 a12 b12→∀{a13 b13},R13 a13 b13→∀{a14 b14},R14 a14 b14→∀{a15 b15},R15 a15 b15→∀{a16 b16},R16 a16 b16→∀{a17 b17},R17 a17 b17→Co S (k a0 a1 a2 a3 a4 a5 a6 a7 a8 a9 a10 a11 a12 a13 a14 a15 a16 a17) (k' b0 b1 b2 b3 b4 b5 b6 b7 b8 b9 b10 b11 b12 b13 b14 b15 b16 b17)):Co S (Qq A k) (Qq B k'):=by
 have:=q.h;cases A<;>cases B<;>first | exact⟨trivial⟩ | exact this.elim | exact match (show x2 R0 (x2 R1 (x2 R2 (x2 R3 (x2 R4 (x2 R5 (x2 R6 (x2 R7 (x2 R8 (x2 R9 (x2 R10 (x2 R11 (x2 R12 (x2 R13 (x2 R14 (x2 R15 (x2 R16 R17)))))))))))))))) _ _ from this)with | .mk h0 (.mk h1 (.mk h2 (.mk h3 (.mk h4 (.mk h5 (.mk h6 (.mk h7 (.mk h8 (.mk h9 (.mk h10 (.mk h11 (.mk h12 (.mk h13 (.mk h14 (.mk h15 (.mk h16 h17))))))))))))))))=>h h0 h1 h2 h3 h4 h5 h6 h7 h8 h9 h10 h11 h12 h13 h14 h15 h16 h17
theorem ALw {A B:Option (T0×T1×T2×T3×T4×T5×T6×T7×T8×T9×T10×T11×T12×T13×T14×T15×T16×T17×T18×T19)} [q:Co (x2 R0 (x2 R1 (x2 R2 (x2 R3 (x2 R4 (x2 R5 (x2 R6 (x2 R7 (x2 R8 (x2 R9 (x2 R10 (x2 R11 (x2 R12 (x2 R13 (x2 R14 (x2 R15 (x2 R16 (x2 R17 (x2 R18 R19))))))))))))))))))) A B] {k k':T0→T1→T2→T3→T4→T5→T6→T7→T8→T9→T10→T11→T12→T13→T14→T15→T16→T17→T18→T19→Option γ}(h:∀{a0 b0},R0 a0 b0→∀{a1 b1},R1 a1 b1→∀{a2 b2},R2 a2 b2→∀{a3 b3},R3 a3 b3→∀{a4 b4},R4 a4 b4→∀{a5 b5},R5 a5 b5→∀{a6 b6},R6 a6 b6→∀{a7 b7},R7 a7 b7→∀{a8 b8},R8 a8 b8→∀{a9 b9},R9 a9 b9→∀{a10 b10},R10 a10 b10→∀{a11 b11},R11 a11 b11→∀{a12 b12},R12 a12 b12→∀{a13 b13},R13 a13 b13→∀{a14 b14},R14 a14 b14→∀{a15 b15},R15 a15 b15→∀{a16 b16},R16 a16 b16→∀{a17 b17},R17 a17 b17→∀{a18 b18},R18 a18 b18→∀{a19 b19},R19 a19 b19→Co S (k a0 a1 a2 a3 a4 a5 a6 a7 a8 a9 a10 a11 a12 a13 a14 a15 a16 a17 a18 a19) (k' b0 b1 b2 b3 b4 b5 b6 b7 b8 b9 b10 b11 b12 b13 b14 b15 b16 b17 b18 b19)):Co S (TS A k) (TS B k'):=by
 have:=q.h;cases A<;>cases B<;>first | exact⟨trivial⟩ | exact this.elim | exact match (show x2 R0 (x2 R1 (x2 R2 (x2 R3 (x2 R4 (x2 R5 (x2 R6 (x2 R7 (x2 R8 (x2 R9 (x2 R10 (x2 R11 (x2 R12 (x2 R13 (x2 R14 (x2 R15 (x2 R16 (x2 R17 (x2 R18 R19)))))))))))))))))) _ _ from this)with | .mk h0 (.mk h1 (.mk h2 (.mk h3 (.mk h4 (.mk h5 (.mk h6 (.mk h7 (.mk h8 (.mk h9 (.mk h10 (.mk h11 (.mk h12 (.mk h13 (.mk h14 (.mk h15 (.mk h16 (.mk h17 (.mk h18 h19))))))))))))))))))=>h h0 h1 h2 h3 h4 h5 h6 h7 h8 h9 h10 h11 h12 h13 h14 h15 h16 h17 h18 h19
theorem ALx {A B:Option (T0×T1×T2×T3×T4×T5×T6×T7×T8×T9×T10×T11×T12×T13×T14×T15×T16×T17×T18×T19×T20×T21)} [q:Co (x2 R0 (x2 R1 (x2 R2 (x2 R3 (x2 R4 (x2 R5 (x2 R6 (x2 R7 (x2 R8 (x2 R9 (x2 R10 (x2 R11 (x2 R12 (x2 R13 (x2 R14 (x2 R15 (x2 R16 (x2 R17 (x2 R18 (x2 R19 (x2 R20 R21))))))))))))))))))))) A B] {k k':T0→T1→T2→T3→T4→T5→T6→T7→T8→T9→T10→T11→T12→T13→T14→T15→T16→T17→T18→T19→T20→T21→Option γ}(h:∀{a0 b0},R0 a0 b0→∀{a1 b1},R1 a1 b1→∀{a2 b2},R2 a2 b2→∀{a3 b3},R3 a3 b3→∀{a4 b4},R4 a4 b4→∀{a5 b5},R5 a5 b5→∀{a6 b6},R6 a6 b6→∀{a7 b7},R7 a7 b7→∀{a8 b8},R8 a8 b8→∀{a9 b9},R9 a9 b9→∀{a10 b10},R10 a10 b10→∀{a11 b11},R11 a11 b11→∀{a12 b12},R12 a12 b12→∀{a13 b13},R13 a13 b13→∀{a14 b14},R14 a14 b14→∀{a15 b15},R15 a15 b15→∀{a16 b16},R16 a16 b16→∀{a17 b17},R17 a17 b17→∀{a18 b18},R18 a18 b18→∀{a19 b19},R19 a19 b19→∀{a20 b20},R20 a20 b20→∀{a21 b21},R21 a21 b21→Co S (k a0 a1 a2 a3 a4 a5 a6 a7 a8 a9 a10 a11 a12 a13 a14 a15 a16 a17 a18 a19 a20 a21) (k' b0 b1 b2 b3 b4 b5 b6 b7 b8 b9 b10 b11 b12 b13 b14 b15 b16 b17 b18 b19 b20 b21)):Co S (Ys A k) (Ys B k'):=by
 have:=q.h;cases A<;>cases B<;>first | exact⟨trivial⟩ | exact this.elim | exact match (show x2 R0 (x2 R1 (x2 R2 (x2 R3 (x2 R4 (x2 R5 (x2 R6 (x2 R7 (x2 R8 (x2 R9 (x2 R10 (x2 R11 (x2 R12 (x2 R13 (x2 R14 (x2 R15 (x2 R16 (x2 R17 (x2 R18 (x2 R19 (x2 R20 R21)))))))))))))))))))) _ _ from this)with | .mk h0 (.mk h1 (.mk h2 (.mk h3 (.mk h4 (.mk h5 (.mk h6 (.mk h7 (.mk h8 (.mk h9 (.mk h10 (.mk h11 (.mk h12 (.mk h13 (.mk h14 (.mk h15 (.mk h16 (.mk h17 (.mk h18 (.mk h19 (.mk h20 h21))))))))))))))))))))=>h h0 h1 h2 h3 h4 h5 h6 h7 h8 h9 h10 h11 h12 h13 h14 h15 h16 h17 h18 h19 h20 h21
theorem e_0 {A B:Option Unit} [q:Co Eq A B] {k k':Option γ}(h:Co S k k'):Co S (uK A k) (uK B k'):=by
 have:=q.h;cases A<;>cases B<;>first | exact⟨trivial⟩ | exact this.elim | exact h
theorem e_S {T U:Type}{A B:Option (T ⊕ U)} [q:Co Eq A B] {f f':T→Option γ}{g g':U→Option γ}(h:∀p,Co S (f p) (f' p)) (h2:∀p,Co S (g p) (g' p)):Co S (bS A f g) (bS B f' g'):=by
 have:=q.h;cases A<;>cases B<;>first | exact⟨trivial⟩ | exact this.elim | (rename_i x y;cases (show x=y from this);cases x<;>first | exact h _ | exact h2 _)
theorem x_S {T U:Type}{R:T→T→Prop}{Q:U→U→Prop}{A B:Option (T ⊕ U)} [q:Co (xs R Q) A B] {f f':T→Option γ}{g g':U→Option γ}(h:∀p q,Hs R p q→Co S (f p) (f' q)) (h2:∀p q,Hs Q p q→Co S (g p) (g' q)):Co S (bS A f g) (bS B f' g'):=by
 have:=q.h;cases A<;>cases B<;>first | exact⟨trivial⟩ | exact this.elim | (cases (show xs R Q _ _ from this)with | l w=>exact h _ _ ⟨w⟩ | r w=>exact h2 _ _ ⟨w⟩)
end
end Go.Proofs.YtjfmnfncmfepnaaGreatDoor
end
