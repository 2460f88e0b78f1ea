/- Part of a proof. No condition. (Part 6.) -/
import Derived.Test.YtjfmnfncmfepnaaGreatDoorPlaE
set_option linter.unusedVariables false
set_option linter.unusedSimpArgs false
set_option linter.unusedSectionVars false
set_option linter.unusedVariables false
set_option maxRecDepth 100000
set_option maxHeartbeats 40000000
noncomputable section
namespace Go.Proofs.YtjfmnfncmfepnaaGreatDoor
open Go Go.AM
abbrev Rr (α:Type):=α→α→Prop
abbrev zS:Rr (List D×List D×List D):=x2 Ml (x2 Ml Eq)
abbrev lR:Rr (List D×List D×List D):=x2 Ml (x2 Ml Fl)
abbrev Sq3:Rr (Int×Int×List D×List D×List D×Int×ByteArray×List D×Int×ByteArray×List D×List D×Int×Int×ByteArray×ByteArray×ByteArray×List D×List D×Int×Int×List D):=x2 Eq (x2 Eq (x2 Ml (x2 Ml (x2 Eq (x2 Eq (x2 Eq (x2 Eq (x2 Eq (x2 Eq (x2 Eq (x2 Rl (x2 Eq (x2 Eq (x2 Eq (x2 Eq (x2 Eq (x2 Eq (x2 Rl (x2 Pl (x2 Pl Fl))))))))))))))))))))
abbrev Sq4:Rr (List D×Int×ByteArray×Int×Int×List D×List D×List D×List D):=x2 Rl (x2 Eq (x2 Eq (x2 Eq (x2 Eq (x2 Eq (x2 Eq (x2 Rl Eq)))))))
abbrev Sq5:Rr (Int×Int×List D×List D×List D×List D×List D):=x2 Eq (x2 Eq (x2 Ml (x2 Ml (x2 Eq (x2 Eq Fl)))))
abbrev Sq6:Rr (Int×List D×Int×ByteArray×Int×Int×List D×List D×List D×List D×List D):=x2 Eq (x2 Rl (x2 Eq (x2 Eq (x2 Eq (x2 Eq (x2 Eq (x2 Eq (x2 Eq (x2 Rl Eq)))))))))
abbrev Sq7:Rr (List D×Int×ByteArray×Int×Int×List D×List D×List D×List D×List D×List D):=x2 Rl (x2 Eq (x2 Eq (x2 Eq (x2 Eq (x2 Eq (x2 Eq (x2 Eq (x2 Eq (x2 Rl Eq)))))))))
abbrev I3:Rr (List D×Int×ByteArray×Int×Int×List D×List D×List D×List D×List D):=x2 Rl (x2 Eq (x2 Eq (x2 Eq (x2 Eq (x2 Eq (x2 Eq (x2 Eq (x2 Rl Eq))))))))
abbrev QG:Rr (Int×Int×List D×List D×List D×List D):=x2 Eq (x2 Eq (x2 Ml (x2 Ml (x2 Eq Fl))))
abbrev ALy:Rr (Int×Int×List D×List D×List D×List D):=x2 Eq (x2 Eq (x2 Ml (x2 Ml (x2 Fl Eq))))
abbrev ADg:Rr (Bool×Int×ByteArray×List D×Int×ByteArray×List D×List D×Int×Int×ByteArray×ByteArray×ByteArray×List D×List D×Int×Int×Int):=x2 Eq (x2 Eq (x2 Eq (x2 Eq (x2 Eq (x2 Eq (x2 Eq (x2 Rl (x2 Eq (x2 Eq (x2 Eq (x2 Eq (x2 Eq (x2 Eq (x2 Rl (x2 Pl (x2 Pl Eq))))))))))))))))
abbrev ADh:Rr (Bool×ByteArray×Int×Int×List D×List D×List D×List D):=x2 Eq (x2 Eq (x2 Eq (x2 Eq (x2 Ml (x2 Ml (x2 Eq Fl))))))
abbrev ALz:Rr (Int×ByteArray×List D×Int×ByteArray×List D×List D×Int×Int×ByteArray×ByteArray×ByteArray×List D×List D×Int×Int×Bool×List D×List D×List D):=x2 Eq (x2 Eq (x2 Eq (x2 Eq (x2 Eq (x2 Eq (x2 Rl (x2 Eq (x2 Eq (x2 Eq (x2 Eq (x2 Eq (x2 Eq (x2 Rl (x2 Pl (x2 Pl (x2 Eq (x2 Ml (x2 Ml Fl))))))))))))))))))
abbrev lS:Rr (Bool×Int×Int×List D×List D×List D×List D):=x2 Eq (x2 Eq (x2 Eq (x2 Ml (x2 Ml (x2 Eq Fl)))))
abbrev yE:Rr (((List D×Int×ByteArray×Int×Int×List D×List D×List D×List D×List D×List D) ⊕ (List D×List D×Int×ByteArray×Int×Int×List D×List D×List D×List D×List D))):=xs (x2 Rl (x2 Eq (x2 Eq (x2 Eq (x2 Eq (x2 Eq (x2 Eq (x2 Eq (x2 Eq (x2 Rl Eq)))))))))) (x2 Eq (x2 Rl (x2 Eq (x2 Eq (x2 Eq (x2 Eq (x2 Eq (x2 Eq (x2 Eq (x2 Rl Eq))))))))))
abbrev ADi:Rr (List D×List D×Int×ByteArray×Int×Int×List D×List D×List D×List D×List D):=x2 Eq (x2 Rl (x2 Eq (x2 Eq (x2 Eq (x2 Eq (x2 Eq (x2 Eq (x2 Rl (x2 Eq Eq)))))))))
abbrev ADj:Rr (Int×Int×Int×ByteArray×ByteArray×ByteArray×List D×List D×Int):=x2 Eq (x2 Eq (x2 Eq (x2 Eq (x2 Eq (x2 Eq (x2 Eq (x2 Rl Pl)))))))
abbrev qB:Rr (Bool×Int×Int×ByteArray×ByteArray×ByteArray×List D×List D×Int×Int):=x2 Eq (x2 Eq (x2 Eq (x2 Eq (x2 Eq (x2 Eq (x2 Eq (x2 Rl (x2 Pl Eq))))))))
abbrev AMa:Rr (Int×Int×List D×Int×ByteArray×Int×Int×List D×List D×List D×List D×List D×List D):=x2 Eq (x2 Eq (x2 Rl (x2 Eq (x2 Eq (x2 Eq (x2 Eq (x2 Eq (x2 Eq (x2 Rl (x2 Eq (x2 Eq Eq)))))))))))
abbrev AMb:Rr (Bool×Int×Int×ByteArray×ByteArray×ByteArray×List D×List D×Int):=x2 Eq (x2 Eq (x2 Eq (x2 Eq (x2 Eq (x2 Eq (x2 Eq (x2 Rl Pl)))))))
class Al (n:Nat):Prop where
 z0:∀{a b c d e f g h i j} [Rl a b] [Rl f g] [Rl h i],Co Eq (Ru n a c d e f h j) (Ru n b c d e g i j)
 z1:∀{a b c d e f g h i j k} [Rl a b] [Ml f g] [Ml h i] [Fl j k],Co Fl (I0 n a c d e f h j) (I0 n b c d e g i k)
 z2:∀{a b c d e f g h i j k l m o p} [Rl b c] [Rl f g] [Rl o p],Co Eq (Rt n a b d e f h i j k l m o) (Rt n a c d e g h i j k l m p)
 z3:∀{a b c d e f g h i} [Rl a b] [Ml e f] [Ml g h],Co zS (KR n a c d e g i) (KR n b c d f h i)
 z4:∀{a b c d e f g h i j k} [Ml f g] [Ml h i] [Fl j k],Co lR (ZO n a b c d f h j) (ZO n a b c e g i k)
 z5:∀{a b c d e f g h i j k l m o p q r s t u v w x y z A B C D E G H I J K} [Rl a b] [Rl l m] [Rl u v] [Ml A B] [Ml C D] [Fl E G],Co Fl (ME n a c d e f g h i j k l o p q r s t u w y A C E H I J K) (ME n b c d e f g h i j k m o p q r s t v x z B D G H I J K)
 z6:∀{a b c d e f g h i j k l m o p q r s t u v w x y z A B C D} [Rl b c] [Rl f g] [Rl m o] [Rl r s] [Rl z A],Co Eq (UZ n a b d e f h i j k l m p q r t u v w x y z B D) (UZ n a c d e g h i j k l o p q s t u v w x y A C D)
 z7:∀{a b c d e f g h i j k l} [Rl c d] [Rl k l],Co Eq (UY n a b c e f g h i j k) (UY n a b d e f g h i j l)
 z8:∀{a b c d} [Rl a b],Co Eq (Hy n a c d) (Hy n b c d)
 z9:∀{a b c d e f g h i j k l m o p q r s t u v w x y z A B C D E} [Rl a b] [Ml e f] [Ml g h] [Rl q r] [Rl y z],Co zS (L5 n a c d e g i j k l m o p q s t u v w x y A C E) (L5 n b c d f h i j k l m o p r s t u v w x z B D E)
 z10:∀{a b c d e f g h i j k l m o p q r s t u v w x y z A B C D E} [Rl a b] [Ml e f] [Ml g h] [Rl q r] [Rl y z],Co zS (L7 n a c d e g i j k l m o p q s t u v w x y A C E) (L7 n b c d f h i j k l m o p r s t u v w x z B D E)
 z11:∀{a b c d e f g h i j k l m} [Ml f g] [Ml h i] [Fl l m],Co lR (MA n a b d e f h j k l) (MA n a c d e g i j k m)
 z12:∀{a b c d e f g h i j} [Ml d e] [Ml f g] [Fl h i],Co lR (L9 n a b d f h j) (L9 n a c e g i j)
 z13:∀{a b c d e f g h i j k} [Ml f g] [Ml h i] [Fl j k],Co lR (KT n a b d e f h j) (KT n a c d e g i k)
 z14:∀{a b c d e f g h i j k l m o p q r s t u v w x y z A B C D E G H I} [Rl b c] [Rl f g] [Rl m o] [Rl r s] [Rl z A],Co Eq (Ua n a b d e f h i j k l m p q r t u v w x y z B D E G H I) (Ua n a c d e g h i j k l o p q s t u v w x y A C D E G H I)
 z15:∀{a b c} [Rl a b],Co Eq (Hx n a c) (Hx n b c)
 z16:∀{a b c d e f g h i j} [Rl a b] [Ml e f] [Ml i j],Co zS (L6 n a c d e g h i) (L6 n b c d f g h j)
 z17:∀{a b c d e f g h i j} [Rl a b] [Ml e f] [Ml i j],Co zS (L8 n a c d e g h i) (L8 n b c d f g h j)
 z18:∀{a b c d e f g h i j k l m o p q r} [Ml f g] [Ml h i] [Fl k l],Co lR (MB n a b d e f h j k m o p q r) (MB n a c d e g i j l m o p q r)
 z19:∀{a b c d e f g h i j k} [Ml f g] [Ml h i] [Fl j k],Co lR (KS n a b d e f h j) (KS n a c d e g i k)
 z20:∀{a b c d e f g h i j k l m o p q r s t u v w x y z A B C D E G H I J} [Rl a b] [Rl i j] [Rl r s] [Ml C D] [Ml E G] [Fl I J],Co Sq3 (MC n a c d e f g h i k l m o p q r t v x y z A B C E H I) (MC n b c d e f g h j k l m o p q s u w x y z A B D G H J)
 z21:∀{a b c d e f g h i j k l m o p q r s t u v w x y z A B C D} [Rl b c] [Rl j k] [Rl s t] [Rl A B],Co Sq4 (MG n a b d e f g h i j l o p q r s u v w x y z A C D) (MG n a c d e f g h i k m o p q r t u v w x y z B C D)
 z22:∀{a b c d e f g h i j k l m o p q} [Ml k l] [Ml m o] [Fl p q],Co lR (KU n a b d e f g h i j k m p) (KU n a c d e f g h i j l o q)
 z23:∀{a b c d e f g h i j k l m o p q r s t u v w x y z A B C D} [Rl k l] [Rl m o] [Rl p q] [Rl r s] [Ml x y] [Ml z A] [Fl B C],Co Sq5 (Rs n a b c d e f g h i j k m p r t v w x z B D) (Rs n a b c d e f g h i j l o q s u v w y A C D)
 z24:∀{a b c d e f g h i j k l m o p q r s t u v w x y z A B C D E G H I J K M N} [Rl a b] [Rl i j] [Rl r s] [Ml B C] [Ml D E] [Fl I J],Co Sq3 (MD n a c d e f g h i k l m o p q r t v x y z A B D G H I K M N) (MD n b c d e f g h j k l m o p q s u w x y z A C E G H J K M N)
 z25:∀{a b c d e f g h i j k l m o p q r s t u v w x y z A B C D E} [Ml d e] [Ml f g] [Rl p q] [Rl x y] [Fl D E],Co Sq3 (KW n a b c d f h i j k l m o p r s t u v w x z B D) (KW n a b c e g h i j k l m o q r s t u v w y A C E)
 z26:∀{a b c d e f g h i j k l m o p} [Rl a b] [Rl d e] [Rl l m],Co Sq7 (pW n a c d f g h i j k l o p) (pW n b c e f g h i j k m o p)
 z27:∀{a b c d e f g h i j k l m o p q r s t u v w} [Rl g h] [Rl k l] [Rl t u],Co I3 (lP n a b c d e f g i k m o p q r s t v w) (lP n a b c d e f h j l m o p q r s u v w)
 z28:∀{a b c d e f g h i j k l m o p q r s} [Rl g h],Co Eq (UP n a b c d e f g i k l m o p q r s) (UP n a b c d e f h j k l m o p q r s)
 z29:∀{a b c d e f g h i j k l m o p q r s t u v w} [Rl g h] [Rl p q],Co Eq (Fq n a b c d e f g i j k l m o p r t v w) (Fq n a b c d e f h i j k l m o q s u v w)
 z30:∀{a b c d e f g h i j k l m o p q r s t u v w x y z A B C D E G H I} [Rl k l] [Rl m o] [Rl p q] [Rl r s] [Ml z A] [Ml B C] [Rl E G] [Fl H I],Co Sq5 (IK n a b c d e f g h i j k m p r t v w x y z B D E H) (IK n a b c d e f g h i j l o q s u v w x y A C D G I)
 z31:∀{a b c d e f g h i j k l m o p q r s t} [Rl g h] [Ml m o] [Ml p q] [Fl r s],Co QG (mV n a b c d e f g i k l m p r t) (mV n a b c d e f h j k l o q s t)
 z32:∀{a b c d e f g h i j k l m o p q r s} [Rl a b] [Rl f g] [Rl q r],Co Sq7 (KY n a c d e f h i j k l m o p q s) (KY n b c d e g h i j k l m o p r s)
 z33:∀{a b c d e f g h i j k l m o p q r s t u v w x y z A} [Rl g h] [Rl m o] [Rl u v] [Rl y z],Co I3 (MF n a b c d e f g i k l m p q r s t u w x y A) (MF n a b c d e f h j k l o p q r s t v w x z A)
 z34:∀{a b c} [Rl a b],Co Eq (UO n a c) (UO n b c)
 z35:∀{a b c d e f g h i j k} [Rl g h],Co Eq (GM n a b c d e f g i k) (GM n a b c d e f h j k)
 z36:∀{a b c d e f g h i j} [Ml c d] [Ml e f] [Fl i j],Co Sq5 (Cz n a b c e g h i) (Cz n a b d f g h j)
 z37:∀{a b c d e f g h i j k l m} [Ml g h] [Ml i j] [Fl l m],Co Sq5 (Gy n a b d e f g i k l) (Gy n a c d e f h j k m)
 z38:∀{a b c d e f g h i j k l m o p q r s t u v w x y z A B C D} [Rl k l] [Rl m o] [Rl p q] [Rl r s] [Ml x y] [Ml z A] [Fl B C],Co QG (Wr n a b c d e f g h i j k m p r t v w x z B D) (Wr n a b c d e f g h i j l o q s u v w y A C D)
 z39:∀{a b c d e f g h i j k l m o p q r s t u v w x y z A B C D} [Rl k l] [Rl m o] [Rl p q] [Rl r s] [Ml x y] [Ml z A] [Fl B C],Co QG (Ws n a b c d e f g h i j k m p r t v w x z B D) (Ws n a b c d e f g h i j l o q s u v w y A C D)
 z40:∀{a b c d e f g h i j k l m o} [Rl a b] [Ml h i] [Ml j k] [Fl l m],Co QG (LU n a c e f g h j l o) (LU n b d e f g i k m o)
 z41:∀{a b c d e f g h i j k l m} [Rl a b] [Ml g h] [Ml i j] [Fl l m],Co QG (KV n a c d e f g i k l) (KV n b c d e f h j k m)
 z42:∀{a b c d e f g h i j k l m o p q r s t u v w x y z A B C D E G H I} [Rl k l] [Rl m o] [Rl p q] [Rl r s] [Rl w x] [Rl E G],Co yE (Ww n a b c d e f g h i j k m p r t v w y z A B C D E H I) (Ww n a b c d e f g h i j l o q s u v x y z A B C D G H I)
 z43:∀{a b c d e} [Rl a b],Co Eq (Hw n a c d e) (Hw n b c d e)
 z44:∀{a b c d e f g h i j k l m o} [Ml f g] [Ml h i] [Fl j k],Co ADh (H4 n a b d e f h j l m o) (H4 n a c d e g i k l m o)
 z45:∀{a b c d e f g h i j k l m o p q} [Ml h i] [Ml j k] [Fl p q],Co Sq5 (IL n a b d e f g h j l m o p) (IL n a c d e f g i k l m o q)
 z46:∀{a b c d e f g h i j k l m} [Rl a b] [Ml h i] [Ml j k] [Fl l m],Co QG (Fs n a c e f g h j l) (Fs n b d e f g i k m)
 z47:∀{a b c d e f g h i j k l m o} [Rl b c] [Ml i j] [Ml k l] [Fl m o],Co QG (II n a b d f g h i k m) (II n a c e f g h j l o)
 z48:∀{a b c d e f g h i j k l m o p q r} [Rl a b] [Ml k l] [Ml m o] [Fl q r],Co QG (IG n a c e f g h i j k m p q) (IG n b d e f g h i j l o p r)
 z49:∀{a b c d e f g h i j k l m o} [Rl b c] [Ml h i] [Ml j k] [Fl l m],Co lS (Gu n a b d e f g h j l o) (Gu n a c d e f g i k m o)
 z50:∀{a b c d e f g h i j k l m o p q r s t u v w x y z A B C D E G H I J K M N} [Rl k l] [Rl m o] [Rl p q] [Rl r s] [Rl y z] [Rl G H] [Rl K M],Co yE (G2 n a b c d e f g h i j k m p r t v w x y A B C D E G I J K N) (G2 n a b c d e f g h i j l o q s u v w x z A B C D E H I J M N)
 z51:∀{a b c d e f g h i j k l m o p q} [Rl c d] [Rl k l],Co I3 (IC n a b c e f g h i j k m o p q) (IC n a b d e f g h i j l m o p q)
 z52:∀{a b c d e f g h i j k l m o} [Rl b c] [Rl j k],Co I3 (H5 n a b d e f g h i j l m o) (H5 n a c d e f g h i k l m o)
 z53:∀{a b c d e f g h i j k l m o p} [Rl c d] [Rl k l],Co I3 (H6 n a b c e f g h i j k m o p) (H6 n a b d e f g h i j l m o p)
 z54:∀{a b c d e f g h i j k l m o p q r s t u} [Rl b c] [Rl d e] [Rl l m] [Rl t u],Co I3 (Gv n a b d f g h i j k l o p q r s t) (Gv n a c e f g h i j k m o p q r s u)
 z55:∀{a b c d e f g h i j k l m} [Rl a b] [Rl i j],Co I3 (IA n a c d e f g h i k l m) (IA n b c d e f g h j k l m)
 z56:∀{a b c d e f g h i j k l m} [Rl a b] [Rl i j],Co I3 (IB n a c d e f g h i k l m) (IB n b c d e f g h j k l m)
 z57:∀{a b c d e f g h i j k l m o} [Rl a b] [Rl j k],Co qB (ZH n a c d e f g h i j l o) (ZH n b c d e f g h i k m o)
 z58:∀{a b c d e} [Rl a b],Co Eq (Hv n a c d e) (Hv n b c d e)
 z59:∀{a b c d e f g h i j k l m o p q r s t u v w x y z} [Rl g h] [Rl p q] [Rl v w],Co Eq (D5 n a b c d e f g i j k l m o p r t v x y z) (D5 n a b c d e f h i j k l m o q s u w x y z)
 z60:∀{a b c d e f g h i j k l m o p q r} [Rl a b] [Ml i j] [Ml k l] [Rl o p] [Fl q r],Co QG (Ft n a c e f g h i k m o q) (Ft n b d e f g h j l m p r)
 z61:∀{a b c d e f g h i j k l m o p q r s t u} [Rl b c] [Ml k l] [Ml m o] [Fl t u],Co QG (IJ n a b d f g h i j k m p q r s t) (IJ n a c e f g h i j l o p q r s u)
 z62:∀{a b c d e f g h i j k} [Rl a b] [Ml e f] [Ml g h] [Fl i j],Co QG (OY n a c d e g i k) (OY n b c d f h j k)
 z63:∀{a b c d e f g h i j} [Ml d e] [Ml f g] [Fl i j],Co QG (Gx n a b c d f h i) (Gx n a b c e g h j)
 z64:∀{a b c d e f g h i j k l m o p} [Rl b c] [Ml h i] [Ml j k] [Fl l m],Co lS (H0 n a b d e f g h j l o p) (H0 n a c d e f g i k m o p)
 z65:∀{a b c d e f g h i j k l m o p q r} [Rl d e] [Rl p q],Co yE (IP n a b c d f g h i j k l m o p r) (IP n a b c e f g h i j k l m o q r)
 z66:∀{a b c d e f g h i j k l m o p q r s t u v w x y z A B C D E G H I} [Rl k l] [Rl m o] [Rl p q] [Rl r s] [Rl w x] [Rl E G],Co I3 (Wv n a b c d e f g h i j k m p r t v w y z A B C D E H I) (Wv n a b c d e f g h i j l o q s u v x y z A B C D G H I)
 z67:∀{a b c d e f g h i j k l m o p} [Rl a b] [Rl i j] [Rl o p],Co I3 (H7 n a c d e f g h i k l m o) (H7 n b c d e f g h j k l m p)
 z68:∀{a b c d e f g h i j k l m o p q r s t u v} [Rl b c] [Rl d e] [Rl l m] [Rl t u],Co I3 (H8 n a b d f g h i j k l o p q r s t v) (H8 n a c e f g h i j k m o p q r s u v)
 z69:∀{a b c d e f g h i j k l m o p q r s} [Rl c d] [Rl k l] [Rl r s],Co ADi (Gw n a b c e f g h i j k m o p q r) (Gw n a b d e f g h i j l m o p q s)
 z70:∀{a b c d e f g h i j k l m} [Rl j k],Co ADj (H9 n a b c d e f g h i j l) (H9 n a b c d e f g h i k m)
 z71:∀{a b c d e f g h i j k l m o p} [Rl a b] [Rl k l],Co qB (Gt n a c d e f g h i j k m p) (Gt n b c d e f g h i j l o p)
 z72:∀{a b c d} [Rl a b],Co Eq (Hu n a c d) (Hu n b c d)
 z73:∀{a b c d e f g h i j k l m o p q r s t u v w x y z A B C D} [Rl g h] [Rl p q] [Rl v w],Co Eq (IE n a b c d e f g i j k l m o p r t v x y z A B C D) (IE n a b c d e f h i j k l m o q s u w x y z A B C D)
 z74:∀{a b c d e f g h i j k} [Rl a b] [Ml e f] [Ml g h] [Fl i j],Co QG (OZ n a c d e g i k) (OZ n b c d f h j k)
 z75:∀{a b c d e f g h i j k l m o} [Rl a b] [Ml h i] [Ml j k] [Fl m o],Co QG (FU n a c d e f g h j l m) (FU n b c d e f g i k l o)
 z76:∀{a b c d e f g h i j k l m o p} [Rl b c] [Ml h i] [Ml j k] [Fl l m],Co lS (H3 n a b d e f g h j l o p) (H3 n a c d e f g i k m o p)
 z77:∀{a b c d e f g h i j} [Ml d e] [Ml f g] [Fl h i],Co lS (Hz n a b c d f h j) (Hz n a b c e g i j)
 z78:∀{a b c d e f g h i j k l m o p} [Rl a b] [Rl d e] [Rl l m],Co I3 (KX n a c d f g h i j k l o p) (KX n b c e f g h i j k m o p)
 z79:∀{a b c d e f g h i j k l m o p q r s t u v w x y z A B C D E G H I} [Rl k l] [Rl m o] [Rl p q] [Rl r s] [Rl w x] [Rl E G],Co I3 (Wu n a b c d e f g h i j k m p r t v w y z A B C D E H I) (Wu n a b c d e f g h i j l o q s u v x y z A B C D G H I)
 z80:∀{a b c d e f g h i j k l m o p q r s t u v} [Rl g h] [Rl r s],Co qB (ZG n a b c d e f g i k l m o p q r t v) (ZG n a b c d e f h j k l m o p q s u v)
 z81:∀{a b c d e f g h i j k l m o} [Rl a b] [Rl j k],Co qB (Hp n a c d e f g h i j l o) (Hp n b c d e f g h i k m o)
 z82:∀{a b c d e f g h i j k l m o p q r s t u v} [Rl k l] [Rl m o] [Rl p q] [Rl r s],Co Eq (O5 n a b c d e f g h i j k m p r t v) (O5 n a b c d e f g h i j l o q s u v)
 z83:∀{a b c d e f g h i j k l m o} [Rl a b] [Ml h i] [Ml j k] [Fl m o],Co QG (FW n a c d e f g h j l m) (FW n b c d e f g i k l o)
 z84:∀{a b c d e f g h i j k l m o p q r} [Rl a b] [Ml g h] [Ml i j] [Fl m o],Co QG (FV n a c d e f g i k l m p q r) (FV n b c d e f h j k l o p q r)
 z85:∀{a b c d e f g h i j} [Ml d e] [Ml f g] [Fl i j],Co QG (El n a b c d f h i) (El n a b c e g h j)
 z86:∀{a b c d e f g h i j k l m o p q r s t u} [Rl a b] [Rl h i] [Rl s t],Co I3 (G0 n a c d e f g h j k l m o p q r s u) (G0 n b c d e f g i j k l m o p q r t u)
 z87:∀{a b c d e f g h i j k l m o} [Rl c d] [Rl l m],Co I3 (D4 n a b c e f g h i j k l o) (D4 n a b d e f g h i j k m o)
 z88:∀{a b c d e f g h i j k l m o p} [Rl a b] [Rl c d] [Rl e f] [Rl g h],Co Eq (Hq n a c e g i j k l m o p) (Hq n b d f h i j k l m o p)
 z89:∀{a b c d e f g h i j k l m} [Rl a b] [Rl c d] [Rl e f] [Rl g h],Co Eq (Hr n a c e g i j k l m) (Hr n b d f h i j k l m)
 z90:∀{a b c d} [Rl a b],Co Eq (Bu n a c d) (Bu n b c d)
 z91:∀{a b c d} [Rl a b],Co Eq (Jh n a c d) (Jh n b c d)
 z92:∀{a b c d e f g h i j k l m o p q r} [Rl a b] [Ml g h] [Ml i j] [Fl m o],Co QG (FX n a c d e f g i k l m p q r) (FX n b c d e f h j k l o p q r)
 z93:∀{a b c d e f g h i j} [Ml d e] [Ml f g] [Fl i j],Co QG (Em n a b c d f h i) (Em n a b c e g h j)
 z94:∀{a b c d e f g h i j k l m o p q r s t u v w x y z A B} [Rl a b] [Rl h i] [Rl s t] [Rl w x],Co I3 (G1 n a c d e f g h j k l m o p q r s u v w y z A B) (G1 n b c d e f g i j k l m o p q r t u v x y z A B)
 z95:∀{a b c d e f g h i j k l m o p} [Rl d e] [Rl m o],Co I3 (IM n a b c d f g h i j k l m p) (IM n a b c e f g h i j k l o p)
 z96:∀{a b c d e f g h i j k l m o p} [Rl c d] [Rl l m],Co I3 (Ee n a b c e f g h i j k l o p) (Ee n a b d e f g h i j k m o p)
 z97:∀{a b c d e f g h i j k l m o p} [Rl a b] [Rl c d] [Rl e f] [Rl g h],Co Eq (Fo n a c e g i j k l m o p) (Fo n b d f h i j k l m o p)
 z98:∀{a b c d e f g h i j k l m} [Rl a b] [Rl c d] [Rl e f] [Rl g h],Co Eq (Ht n a c e g i j k l m) (Ht n b d f h i j k l m)
 z99:∀{a b c d e f g h i j k l m} [Rl a b],Co Eq (EO n a c d e f g h i j k l m) (EO n b c d e f g h i j k l m)
 z100:∀{a b c d e} [Rl a b],Co Eq (EU n a c d e) (EU n b c d e)
 z101:∀{a b c d e} [Rl a b],Co Eq (Fk n a c d e) (Fk n b c d e)
 z102:∀{a b c d e f g h i j k l m} [Rl a b],Co Eq (ER n a c d e f g h i j k l m) (ER n b c d e f g h i j k l m)
 z103:∀{a b c d e f g h i j k l m} [Rl a b],Co Eq (ET n a c d e f g h i j k l m) (ET n b c d e f g h i j k l m)
 z104:∀{a b c d e f g h i j k l} [Rl a b],Co Eq (EN n a c d e f g h i j k l) (EN n b c d e f g h i j k l)
 z105:∀{a b c d e f g h i j k l m o p q r s t u v} [Rl k l] [Rl m o] [Rl p q] [Rl r s],Co Eq (ZJ n a b c d e f g h i j k m p r t v) (ZJ n a b c d e f g h i j l o q s u v)
 z106:∀{a b c d} [Rl a b],Co Eq (EV n a c d) (EV n b c d)
 z107:∀{a b c d e} [Rl c d],Co Eq (Wa n a b c e) (Wa n a b d e)
 z108:∀{a b c d} [Rl a b],Co Eq (Fm n a c d) (Fm n b c d)
 z109:∀{a b c d e f g h i j k l} [Rl a b],Co Eq (EP n a c d e f g h i j k l) (EP n b c d e f g h i j k l)
 z110:∀{a b c d e f g h i j k l} [Rl a b],Co Eq (ES n a c d e f g h i j k l) (ES n b c d e f g h i j k l)
 z111:∀{a b c d e f g h i j k l m} [Rl a b],Co Eq (EK n a c d e f g h i j k l m) (EK n b c d e f g h i j k l m)
 z112:∀{a b c d e f g h i j k l m} [Rl a b],Co Eq (EM n a c d e f g h i j k l m) (EM n b c d e f g h i j k l m)
 z113:∀{a b c d e f g h i j k l} [Rl a b],Co Eq (EJ n a c d e f g h i j k l) (EJ n b c d e f g h i j k l)
 z114:∀{a b c d e f g h i j k l} [Rl a b],Co Eq (EL n a c d e f g h i j k l) (EL n b c d e f g h i j k l)
attribute [instance] Al.z0 Al.z1 Al.z2 Al.z3 Al.z4 Al.z5 Al.z6 Al.z7 Al.z8 Al.z9 Al.z10 Al.z11 Al.z12 Al.z13 Al.z14 Al.z15 Al.z16 Al.z17 Al.z18 Al.z19 Al.z20 Al.z21 Al.z22 Al.z23 Al.z24 Al.z25 Al.z26 Al.z27 Al.z28 Al.z29 Al.z30 Al.z31 Al.z32 Al.z33 Al.z34 Al.z35 Al.z36 Al.z37 Al.z38 Al.z39 Al.z40 Al.z41 Al.z42 Al.z43 Al.z44 Al.z45 Al.z46 Al.z47 Al.z48 Al.z49 Al.z50 Al.z51 Al.z52 Al.z53 Al.z54 Al.z55 Al.z56 Al.z57 Al.z58 Al.z59 Al.z60 Al.z61 Al.z62 Al.z63 Al.z64 Al.z65 Al.z66 Al.z67 Al.z68 Al.z69 Al.z70 Al.z71 Al.z72 Al.z73 Al.z74 Al.z75 Al.z76 Al.z77 Al.z78 Al.z79 Al.z80 Al.z81 Al.z82 Al.z83 Al.z84 Al.z85 Al.z86 Al.z87 Al.z88 Al.z89 Al.z90 Al.z91 Al.z92 Al.z93 Al.z94 Al.z95 Al.z96 Al.z97 Al.z98 Al.z99 Al.z100 Al.z101 Al.z102 Al.z103 Al.z104 Al.z105 Al.z106 Al.z107 Al.z108 Al.z109 Al.z110 Al.z111 Al.z112 Al.z113 Al.z114
theorem DK {p:Prop}(h:p:=by
 repeat' first
  | (intro h;try subst h)
  | with_reducible first | refine ci ?_ ?_ | refine xR ?_ | refine xU ?_ | refine ACn ?_ | refine xW ?_ | refine xS ?_ | refine xY ?_ | refine cn ?_ | refine cn2 ?_ | refine ALp ?_ | refine xZ ?_ | refine xT ?_ | refine xX ?_ | refine pY ?_ | refine xV ?_ | refine yA ?_ | refine sQ ?_ | refine ACo ?_ | refine ACp ?_ | refine ACq ?_ | refine ACr ?_ | refine yC ?_ | refine ACv ?_ | refine ACu ?_ | refine yD ?_ | refine ACx ?_ | refine ACt ?_ | refine sW ?_ | refine sR ?_ | refine ACs ?_ | refine sY ?_ | refine sV ?_ | refine sX ?_ | refine ALq ?_ | refine ACw ?_ | refine ACy ?_ | refine ADb ?_ | refine ADc ?_ | refine ACz ?_ | refine ADa ?_ | refine e_0 ?_ | refine e_1 ?_ | refine e_2 ?_ | refine e_3 ?_ | refine e_4 ?_ | refine e_5 ?_ | refine e_7 ?_ | refine ALr ?_ | refine e_11 ?_ | refine x_1 ?_ | refine x_3 ?_ | refine x_4 ?_ | refine x_6 ?_ | refine x_7 ?_ | refine x_8 ?_ | refine x_9 ?_ | refine ALs ?_ | refine ALt ?_ | refine ALu ?_ | refine ALv ?_ | refine ALw ?_ | refine ALx ?_ | refine e_S ?_ ?_ | refine x_S ?_ ?_ | refine pZ ?_ ?_ | refine yB ?_ ?_ | refine qA ?_ ?_ | refine lf ?_ | refine x2.mk ?_ ?_ | refine xs.l ?_ | refine xs.r ?_
  | exact rfl
  | infer_instance
  | exact trivial
  | exact rr):p:=h
section
variable {n:Nat} [Al n]
instance i_F104 {a b c} [Rl a b]:Co Eq (ZM n a c) (ZM n b c):=by
 unfold ZM;exact DK
instance i_F54 {a b} [Rl a b]:Co Eq (xD n a) (xD n b):=by
 unfold xD;exact DK
instance i_F55 {a b c d} [Rl a b]:Co zS (xE n a c d) (xE n b c d):=by
 unfold xE;exact DK
instance i_F20 {a b} [Rl a b]:Co Fl (xL n a) (xL n b):=by
 unfold xL;exact DK
instance i_F9 {a b} [Rl a b]:Co Eq (F9 n a) (F9 n b):=by
 unfold F9;exact DK
instance i_F21 {a b c d e f g h i j k l m o p q r s t u} [Rl g h] [Rl p q]:Co Eq (xM n a b c d e f g i j k l m o p r t) (xM n a b c d e f h i j k l m o q s u):=by
 unfold xM;exact DK
instance i_F56x1 {a b c d e f g h i j} [Ml e f] [Ml g h] [Fl i j]:Co lR (Bh n a b c e g i) (Bh n a b d f h j):=by
 unfold Bh;exact DK
instance i_F57 {a b c d e f g h i j k l m o p q r s t u v w x y z A} [Rl g h] [Rl p q] [Ml v w] [Ml x y] [Fl z A]:Co lR (xF n a b c d e f g i j k l m o p r t v x z) (xF n a b c d e f h i j k l m o q s u w y A):=by
 unfold xF;exact DK
instance i_F59 {a b c d e f} [Ml a b] [Ml c d] [Fl e f]:Co lR (sM n a c e) (sM n b d f):=by
 unfold sM;exact DK
instance i_F63 {a b c d e f} [Ml a b] [Ml c d] [Fl e f]:Co lR (xK n a c e) (xK n b d f):=by
 unfold xK;exact DK
instance i_F60 {a b c d e f g h i j k l m o p q r s t u v w x y z A B C D E G} [Rl a b] [Ml e f] [Ml g h] [Fl i j] [Rl s t] [Rl A B]:Co Sq3 (xJ n a c d e g i k l m o p q r s u v w x y z A C E) (xJ n b c d f h j k l m o p q r t u v w x y z B D G):=by
 unfold xJ;exact DK
instance i_F22 {a b c d e f g h i j k l m o p q r s t u v w x y z} [Rl c d] [Rl k l] [Rl q r] [Rl y z]:Co Sq4 (sP n a b c e f g h i j k m p q s t u v w x y) (sP n a b d e f g h i j l o p r s t u v w x z):=by
 unfold sP;exact DK
instance i_F106 {a b c d e f g h i j k l m o p q r s t u v} [Rl g h] [Rl p q]:Co Eq (Wc n a b c d e f g i j k l m o p r t v) (Wc n a b c d e f h i j k l m o q s u v):=by
 unfold Wc;exact DK
instance i_F105 {a b c d e f g h i j k l m o p q r s t u} [Rl g h] [Rl p q]:Co Eq (ZL n a b c d e f g i j k l m o p r t) (ZL n a b c d e f h i j k l m o q s u):=by
 unfold ZL;exact DK
instance i_F61 {a b c d e f g h i j k l m o p q r s t u v w x y z A B C D} [Ml c d] [Ml e f] [Fl g h] [Rl q r] [Rl y z]:Co Sq3 (zP n a b c e g i j k l m o p q s t u v w x y A C) (zP n a b d f h i j k l m o p r s t u v w x z B D):=by
 unfold zP;exact DK
instance i_F65 {a b c d e f g h i j k l m} [Rl b c] [Rl j k]:Co Sq6 (pU n a b d e f g h i j l m) (pU n a c d e f g h i k l m):=by
 unfold pU;exact DK
instance i_F167 {a b c d e f g h i j k l m} [Rl a b] [Rl i j]:Co I3 (US n a c d e f g h i k l m) (US n b c d e f g h j k l m):=by
 unfold US;exact DK
instance i_F68 {a b c d e f g h i j k l m} [Rl b c] [Rl j k]:Co I3 (Wt n a b d e f g h i j l m) (Wt n a c d e f g h i k l m):=by
 unfold Wt;exact DK
instance i_F69x1 {a b c d e f g h i j k l m o p q r s} [Rl g h] [Rl p q]:Co Sq6 (B3 n a b c d e f g i j k l m o p r s) (B3 n a b c d e f h i j k l m o q r s):=by
 unfold B3;exact DK
instance i_F216 {a b c d e f g h i j k} [Ml e f] [Ml g h] [Fl i j]:Co ALy (O7 n a b c d e g i k) (O7 n a b c d f h j k):=by
 unfold O7;exact DK
instance i_F135 {a b c d e f g h i j k l m o p q r s t u v w} [Rl h i] [Rl q r]:Co ADg (UN n a b c d e f g h j k l m o p q s u w) (UN n a b c d e f g i j k l m o p r t v w):=by
 unfold UN;exact DK
instance i_F135x1 {a b c d e f g h i j k l m o p q r s t u v w} [Rl h i] [Rl q r]:Co ADg (JX n a b c d e f g h j k l m o p q s u w) (JX n a b c d e f g i j k l m o p r t v w):=by
 unfold JX;exact DK
instance i_F143 {a b c d e f g h i j} [Rl g h]:Co Eq (LS n a b c d e f g i) (LS n a b c d e f h j):=by
 unfold LS;exact DK
instance i_F145 {a b c d} [Rl a b]:Co Eq (Wb n a c d) (Wb n b c d):=by
 unfold Wb;exact DK
instance i_F148 {a b c d e f g h i j k l} [Ml f g] [Ml h i] [Fl j k]:Co ADh (MN n a b d e f h j l) (MN n a c d e g i k l):=by
 unfold MN;exact DK
instance i_F149 {a b c d e f g h} [Ml c d] [Ml e f] [Fl g h]:Co ALz (O6 n a b c e g) (O6 n a b d f h):=by
 unfold O6;exact DK
instance i_F150 {a b c d e f g h i j k l} [Ml f g] [Ml h i] [Fl j k]:Co QG (Rq n a b d e f h j l) (Rq n a c d e g i k l):=by
 unfold Rq;exact DK
instance i_F154 {a b c d e f g h i j k l m o p q r s t u v} [Rl g h] [Rl p q]:Co Eq (UQ n a b c d e f g i j k l m o p r t v) (UQ n a b c d e f h i j k l m o q s u v):=by
 unfold UQ;exact DK
instance i_F108 {a b c d e f g h i j k l m o p q r s t} [Rl g h] [Ml m o] [Ml p q] [Fl r s]:Co lS (Wd n a b c d e f g i k l m p r t) (Wd n a b c d e f h j k l o q s t):=by
 unfold Wd;exact DK
instance i_F166 {a b c d e f g h i j k l m o p q r s t u v w} [Rl g h] [Rl k l] [Rl t u]:Co I3 (Wn n a b c d e f g i k m o p q r s t v w) (Wn n a b c d e f h j l m o p q r s u v w):=by
 unfold Wn;exact DK
instance i_F158 {a b c d e f g h i j k l m o p q r s t u v w} [Rl g h] [Rl k l] [Rl t u]:Co I3 (We n a b c d e f g i k m o p q r s t v w) (We n a b c d e f h j l m o p q r s u v w):=by
 unfold We;exact DK
instance i_F159 {a b c d e f g h i j k l m o p q r s t u v w} [Rl g h] [Rl k l] [Rl t u]:Co I3 (Wf n a b c d e f g i k m o p q r s t v w) (Wf n a b c d e f h j l m o p q r s u v w):=by
 unfold Wf;exact DK
instance i_F160 {a b c d e f g h i j k l m o p q r s t u v w} [Rl g h] [Rl k l] [Rl t u]:Co I3 (Wg n a b c d e f g i k m o p q r s t v w) (Wg n a b c d e f h j l m o p q r s u v w):=by
 unfold Wg;exact DK
instance i_F161 {a b c d e f g h i j k l m o p q r s t u v w} [Rl g h] [Rl k l] [Rl t u]:Co I3 (Wh n a b c d e f g i k m o p q r s t v w) (Wh n a b c d e f h j l m o p q r s u v w):=by
 unfold Wh;exact DK
instance i_F162 {a b c d e f g h i j k l m o p q r s t u v w} [Rl g h] [Rl k l] [Rl t u]:Co I3 (Wi n a b c d e f g i k m o p q r s t v w) (Wi n a b c d e f h j l m o p q r s u v w):=by
 unfold Wi;exact DK
instance i_F224 {a b c d e f g h i j k} [Rl h i]:Co ADj (Wj n a b c d e f g h j) (Wj n a b c d e f g i k):=by
 unfold Wj;exact DK
instance i_F225 {a b c d e f g h i j k l m o} [Rl c d] [Rl k l]:Co ADi (UR n a b c e f g h i j k m o) (UR n a b d e f g h i j l m o):=by
 unfold UR;exact DK
instance i_F163 {a b c d e f g h i j k l m o p q r s t u v w} [Rl g h] [Rl k l] [Rl t u]:Co I3 (Wk n a b c d e f g i k m o p q r s t v w) (Wk n a b c d e f h j l m o p q r s u v w):=by
 unfold Wk;exact DK
instance i_F164 {a b c d e f g h i j k l m o p q r s t u v w} [Rl g h] [Rl k l] [Rl t u]:Co I3 (Wl n a b c d e f g i k m o p q r s t v w) (Wl n a b c d e f h j l m o p q r s u v w):=by
 unfold Wl;exact DK
instance i_F165 {a b c d e f g h i j k l m o p q r s t u v w} [Rl g h] [Rl k l] [Rl t u]:Co I3 (Wm n a b c d e f g i k m o p q r s t v w) (Wm n a b c d e f h j l m o p q r s u v w):=by
 unfold Wm;exact DK
instance i_F217 {a b c d e f g h i j k l m o p q r s t u v w} [Rl g h] [Rl p q] [Rl v w]:Co Eq (Wq n a b c d e f g i j k l m o p r t v) (Wq n a b c d e f h i j k l m o q s u w):=by
 unfold Wq;exact DK
instance i_F203 {a b c d e f g h i j} [Rl g h]:Co Eq (WV n a b c d e f g i) (WV n a b c d e f h j):=by
 unfold WV;exact DK
instance i_F204 {a b c d e f g h i j k} [Rl g h]:Co Eq (WW n a b c d e f g i k) (WW n a b c d e f h j k):=by
 unfold WW;exact DK
instance i_F155 {a b c d e f g h i j k l m} [Rl b c] [Rl j k]:Co I3 (MO n a b d e f g h i j l m) (MO n a c d e f g h i k l m):=by
 unfold MO;exact DK
instance i_F156 {a b c d e f g h i j k l m o p} [Rl d e] [Rl l m]:Co AMa (KQ n a b c d f g h i j k l o p) (KQ n a b c e f g h i j k m o p):=by
 unfold KQ;exact DK
instance i_F69 {a b c d e f g h i j k l m o p q r s t u v} [Rl g h] [Rl p q]:Co Sq6 (Xw n a b c d e f g i j k l m o p r s t u v) (Xw n a b c d e f h i j k l m o q r s t u v):=by
 unfold Xw;exact DK
instance i_F146 {a b c d e f g h i j k l m o p q r s t u v} [Rl k l] [Rl m o] [Rl p q] [Rl r s]:Co Eq (ZK n a b c d e f g h i j k m p r t v) (ZK n a b c d e f g h i j l o q s u v):=by
 unfold ZK;exact DK
instance i_F221 {a b c d e f g h i j k l m} [Rl b c] [Rl j k]:Co Sq6 (Oa n a b d e f g h i j l m) (Oa n a c d e f g h i k l m):=by
 unfold Oa;exact DK
instance i_F247 {a b c d e f g h i j k l m} [Rl b c] [Rl j k]:Co I3 (O8 n a b d e f g h i j l m) (O8 n a c d e f g h i k l m):=by
 unfold O8;exact DK
instance i_F226 {a b c d e f g h i j k l m o} [Rl k l]:Co AMb (ZN n a b c d e f g h i j k m) (ZN n a b c d e f g h i j l o):=by
 unfold ZN;exact DK
instance i_F69x2 {a b c d e f g h i j k l m o p q r s t} [Rl g h] [Rl p q]:Co Sq6 (Ob n a b c d e f g i j k l m o p r s t) (Ob n a b c d e f h i j k l m o q r s t):=by
 unfold Ob;exact DK
instance i_F207 {a b c d e f g h i j k l m o p q r s t u} [Rl k l] [Rl m o] [Rl p q] [Rl r s]:Co Eq (WY n a b c d e f g h i j k m p r t) (WY n a b c d e f g h i j l o q s u):=by
 unfold WY;exact DK
instance i_F208 {a b c d e f g h i j k l m o p q r s t u} [Rl k l] [Rl m o] [Rl p q] [Rl r s]:Co Eq (OT n a b c d e f g h i j k m p r t) (OT n a b c d e f g h i j l o q s u):=by
 unfold OT;exact DK
instance i_F205x3 {a b c d e f g h i j k l} [Rl a b]:Co Eq (Jc n a c d e f g h i j k l) (Jc n b c d e f g h i j k l):=by
 unfold Jc;exact DK
instance i_F205x4 {a b c d e f g h i j k l} [Rl a b]:Co Eq (Je n a c d e f g h i j k l) (Je n b c d e f g h i j k l):=by
 unfold Je;exact DK
instance i_F205x5 {a b c d e f g h i j k l} [Rl a b]:Co Eq (Jg n a c d e f g h i j k l) (Jg n b c d e f g h i j k l):=by
 unfold Jg;exact DK
instance i_F68r0 {a b c d e f g h i j k l m o} [Rl c d] [Rl k l]:Co I3 (OW n a b c e f g h i j k m o) (OW n a b d e f g h i j l m o):=by
 unfold OW;exact DK
instance i_F205x1 {a b c d e f g h i j k l} [Rl a b]:Co Eq (JY n a c d e f g h i j k l) (JY n b c d e f g h i j k l):=by
 unfold JY;exact DK
instance i_F205x2 {a b c d e f g h i j k l} [Rl a b]:Co Eq (Ja n a c d e f g h i j k l) (Ja n b c d e f g h i j k l):=by
 unfold Ja;exact DK
instance i_F213x2 {a b c d e f g h i j k l m o p q r s t} [Rl g h]:Co Eq (Jb n a b c d e f g i k l m o p q r s t) (Jb n a b c d e f h j k l m o p q r s t):=by
 unfold Jb;exact DK
instance i_F213x3 {a b c d e f g h i j k l m o p q r s t} [Rl g h]:Co Eq (Jd n a b c d e f g i k l m o p q r s t) (Jd n a b c d e f h j k l m o p q r s t):=by
 unfold Jd;exact DK
instance i_F213x4 {a b c d e f g h i j k l m o p q r s t} [Rl g h]:Co Eq (Jf n a b c d e f g i k l m o p q r s t) (Jf n a b c d e f h j k l m o p q r s t):=by
 unfold Jf;exact DK
instance i_F213 {a b c d e f g h i j k l m o p q r s t} [Rl g h]:Co Eq (WX n a b c d e f g i k l m o p q r s t) (WX n a b c d e f h j k l m o p q r s t):=by
 unfold WX;exact DK
instance i_F213x1 {a b c d e f g h i j k l m o p q r s t} [Rl g h]:Co Eq (JZ n a b c d e f g i k l m o p q r s t) (JZ n a b c d e f h j k l m o p q r s t):=by
 unfold JZ;exact DK
end
theorem al:∀n,Al n
 | 0=>by constructor<;>(intros;exact⟨trivial⟩)
 | n+1=>by
  have:=al n;constructor<;>(intros;first | simp only[Ru,I0,Rt,KR,ZO,ME,UZ,UY,Hy,L5,L7,MA,L9,KT,Ua,L6,L8,MB,KS,MC,MG,KU,Rs,MD,KW,pW,lP,UP,IK,mV,KY,MF,UO,GM,Wr,Ws,LU,KV,Ww,Hw,IL,Fs,II,IG,G2,Gv,ZH,Hv,D5,Ft,IJ,OY,Gx,H0,IP,Wv,H8,Gw,H9,Gt,IE,OZ,FU,H3,KX,Wu,ZG,O5,FW,FV,El,G0,D4,Hq,Hr,Bu,Jh,FX,Em,G1,IM,Ee,Fo,Ht,EO,EU,Fk,ER,ET,ZJ,Wa,EK,EM] | simp only[Hx] | simp only[Fq] | simp only[Cz] | simp only[Gy] | simp only[H4] | simp only[Gu] | simp only[IC] | simp only[H5] | simp only[H6] | simp only[IA] | simp only[IB] | simp only[H7] | simp only[Hu] | simp only[Hz] | simp only[Hp] | simp only[EN] | simp only[EV] | simp only[Fm] | simp only[EP] | simp only[ES] | simp only[EJ] | simp only[EL])<;>exact DK
end Go.Proofs.YtjfmnfncmfepnaaGreatDoor
end
set_option linter.unusedVariables false
noncomputable section
namespace Go.Proofs.YtjfmnfncmfepnaaGreatDoor
open Go Go.AM
section
variable {l:List D}
theorem ADk (h:l.length=1):∃x0,l=[x0]:=by
 match l,h with
 | [x0],_=>exact⟨x0,rfl⟩
theorem sZ (h:l.length=3):∃x0 x1 x2,l=[x0,x1,x2]:=by
 match l,h with
 | [x0,x1,x2],_=>simp_all
theorem ADl (h:l.length=4):∃x0 x1 x2 x3,l=[x0,x1,x2,x3]:=by
 match l,h with
 | [x0,x1,x2,x3],_=>simp_all
theorem ADm (h:l.length=8):∃x0 x1 x2 x3 x4 x5 x6 x7,l=[x0,x1,x2,x3,x4,x5,x6,x7]:=by
 match l,h with
 | [x0,x1,x2,x3,x4,x5,x6,x7],_=>simp_all
theorem yF (h:l.length=15):∃x0 x1 x2 x3 x4 x5 x6 x7 x8 x9 x10 x11 x12 x13 x14,l=[x0,x1,x2,x3,x4,x5,x6,x7,x8,x9,x10,x11,x12,x13,x14]:=by
 match l,h with
 | [x0,x1,x2,x3,x4,x5,x6,x7,x8,x9,x10,x11,x12,x13,x14],_=>simp_all
theorem yG (h:l.length=16):∃x0 x1 x2 x3 x4 x5 x6 x7 x8 x9 x10 x11 x12 x13 x14 x15,l=[x0,x1,x2,x3,x4,x5,x6,x7,x8,x9,x10,x11,x12,x13,x14,x15]:=by
 match l,h with
 | [x0,x1,x2,x3,x4,x5,x6,x7,x8,x9,x10,x11,x12,x13,x14,x15],_=>simp_all
variable {x:D}
theorem yH (h:GN Ab 9 x):∃a0,x= .str a0∧a0.size≤maxLen:=by
 have hs:=h.AEj (y:=CT Ab 9) (by kernel_rfl) rfl
 have hl:=hs.flat 9 9 [9] [x] (by kernel_rfl)
 obtain⟨a0,rfl,w0⟩:=(hl.2 0 x 9 rfl rfl).HB (x:=CT Ab 9) (by kernel_rfl) rfl
 exact⟨_,rfl,w0⟩
theorem yI (h:GN Ab 48 x):∃a0 a1 a2,x= .agg [.int .u8 a0,.str a1,.list true 3 a2]∧(Lit.int .u8 a0).wf=true∧a1.size≤maxLen∧AB Ab 48 a2:=by
 obtain⟨cs,rfl,hs⟩:=h.agg (y:=CT Ab 48) (by kernel_rfl) rfl
 have hl:=hs.flat 9 48 [5,9,46] cs (by kernel_rfl)
 obtain⟨b0,b1,b2,rfl⟩:=sZ hl.1;obtain⟨a0,rfl,w0⟩:=(hl.2 0 b0 5 rfl rfl).Jk (x:=CT Ab 5) (by kernel_rfl) rfl
 obtain⟨a1,rfl,w1⟩:=(hl.2 1 b1 9 rfl rfl).HB (x:=CT Ab 9) (by kernel_rfl) rfl
 obtain⟨a2,e2,w2⟩:=(hl.2 2 b2 46 rfl rfl).Dt (x:=CT Ab 46) (y:=CT Ab 48) (by kernel_rfl) rfl (by kernel_rfl)
 obtain rfl:b2= .list true 3 a2:=e2;grind
theorem yJ (h:GN Ab 54 x):∃a0 a1 a2 a3 a4 a5 a6 a7,x= .agg [.int .u8 a0,.int .i64 a1,.str a2,.str a3,.str a4,.list false 1 a5,.list true 8 a6,.int .i64 a7]∧(Lit.int .u8 a0).wf=true∧(Lit.int .i64 a1).wf=true∧a2.size≤maxLen∧a3.size≤maxLen∧a4.size≤maxLen∧AB Ab 9 a5∧AB Ab 54 a6∧(Lit.int .i64 a7).wf=true:=by
 obtain⟨cs,rfl,hs⟩:=h.agg (y:=CT Ab 54) (by kernel_rfl) rfl
 have hl:=hs.flat 9 54 [5,2,9,9,9,42,52,3] cs (by kernel_rfl)
 obtain⟨b0,b1,b2,b3,b4,b5,b6,b7,rfl⟩:=ADm hl.1;obtain⟨a0,rfl,w0⟩:=(hl.2 0 b0 5 rfl rfl).Jk (x:=CT Ab 5) (by kernel_rfl) rfl
 obtain⟨a1,rfl,w1⟩:=(hl.2 1 b1 2 rfl rfl).Jk (x:=CT Ab 2) (by kernel_rfl) rfl
 obtain⟨a2,rfl,w2⟩:=(hl.2 2 b2 9 rfl rfl).HB (x:=CT Ab 9) (by kernel_rfl) rfl
 obtain⟨a3,rfl,w3⟩:=(hl.2 3 b3 9 rfl rfl).HB (x:=CT Ab 9) (by kernel_rfl) rfl
 obtain⟨a4,rfl,w4⟩:=(hl.2 4 b4 9 rfl rfl).HB (x:=CT Ab 9) (by kernel_rfl) rfl
 obtain⟨a5,e5,w5⟩:=(hl.2 5 b5 42 rfl rfl).Dt (x:=CT Ab 42) (y:=CT Ab 9) (by kernel_rfl) rfl (by kernel_rfl)
 obtain rfl:b5= .list false 1 a5:=e5;obtain⟨a6,e6,w6⟩:=(hl.2 6 b6 52 rfl rfl).Dt (x:=CT Ab 52) (y:=CT Ab 54) (by kernel_rfl) rfl (by kernel_rfl)
 obtain rfl:b6= .list true 8 a6:=e6;obtain⟨a7,rfl,w7⟩:=(hl.2 7 b7 3 rfl rfl).Jk (x:=CT Ab 3) (by kernel_rfl) rfl
 grind
theorem lU (h:GN Ab 58 x):∃a0 a1 a2 a3,x= .agg [.str a0,.int .u8 a1,.str a2,.list true 3 a3]∧a0.size≤maxLen∧(Lit.int .u8 a1).wf=true∧a2.size≤maxLen∧AB Ab 48 a3:=by
 obtain⟨cs,rfl,hs⟩:=h.agg (y:=CT Ab 58) (by kernel_rfl) rfl
 have hl:=hs.flat 9 58 [9,5,9,46] cs (by kernel_rfl)
 obtain⟨b0,b1,b2,b3,rfl⟩:=ADl hl.1;obtain⟨a0,rfl,w0⟩:=(hl.2 0 b0 9 rfl rfl).HB (x:=CT Ab 9) (by kernel_rfl) rfl
 obtain⟨a1,rfl,w1⟩:=(hl.2 1 b1 5 rfl rfl).Jk (x:=CT Ab 5) (by kernel_rfl) rfl
 obtain⟨a2,rfl,w2⟩:=(hl.2 2 b2 9 rfl rfl).HB (x:=CT Ab 9) (by kernel_rfl) rfl
 obtain⟨a3,e3,w3⟩:=(hl.2 3 b3 46 rfl rfl).Dt (x:=CT Ab 46) (y:=CT Ab 48) (by kernel_rfl) rfl (by kernel_rfl)
 obtain rfl:b3= .list true 3 a3:=e3;grind
theorem Wx (h:GN Ab 96 x):∃a0 a1 a2,x= .agg [.str a0,.str a1,.list true 15 a2]∧a0.size≤maxLen∧a1.size≤maxLen∧AB Ab 90 a2:=by
 obtain⟨cs,rfl,hs⟩:=h.agg (y:=CT Ab 96) (by kernel_rfl) rfl
 have hl:=hs.flat 9 96 [9,9,49] cs (by kernel_rfl)
 obtain⟨b0,b1,b2,rfl⟩:=sZ hl.1;obtain⟨a0,rfl,w0⟩:=(hl.2 0 b0 9 rfl rfl).HB (x:=CT Ab 9) (by kernel_rfl) rfl
 obtain⟨a1,rfl,w1⟩:=(hl.2 1 b1 9 rfl rfl).HB (x:=CT Ab 9) (by kernel_rfl) rfl
 obtain⟨a2,e2,w2⟩:=(hl.2 2 b2 49 rfl rfl).Dt (x:=CT Ab 49) (y:=CT Ab 90) (by kernel_rfl) rfl (by kernel_rfl)
 obtain rfl:b2= .list true 15 a2:=e2;grind
theorem yK (h:GN Ab 90 x):∃a0 a1 a2 a3 a4 a5 a6 a7 a8 a9 a10 a11 a12 a13 a14,x= .agg [.int .u8 a0,.str a1,.str a2,.list false 1 a3,.int .u8 a4,.str a5,.list true 3 a6,.int .i64 a7,.str a8,.list false 1 a9,.list true 8 a10,.list true 15 a11,.list true 15 a12,.list true 3 a13,.int .i64 a14]∧(Lit.int .u8 a0).wf=true∧a1.size≤maxLen∧a2.size≤maxLen∧AB Ab 9 a3∧(Lit.int .u8 a4).wf=true∧a5.size≤maxLen∧AB Ab 48 a6∧(Lit.int .i64 a7).wf=true∧a8.size≤maxLen∧AB Ab 9 a9∧AB Ab 54 a10∧AB Ab 90 a11∧AB Ab 90 a12∧AB Ab 96 a13∧(Lit.int .i64 a14).wf=true:=by
 obtain⟨cs,rfl,hs⟩:=h.agg (y:=CT Ab 90) (by kernel_rfl) rfl
 have hl:=hs.flat 9 90 [5,9,9,42,5,9,46,2,9,42,52,49,49,88,3] cs (by kernel_rfl)
 obtain⟨b0,b1,b2,b3,b4,b5,b6,b7,b8,b9,b10,b11,b12,b13,b14,rfl⟩:=yF hl.1;obtain⟨a0,rfl,w0⟩:=(hl.2 0 b0 5 rfl rfl).Jk (x:=CT Ab 5) (by kernel_rfl) rfl
 obtain⟨a1,rfl,w1⟩:=(hl.2 1 b1 9 rfl rfl).HB (x:=CT Ab 9) (by kernel_rfl) rfl
 obtain⟨a2,rfl,w2⟩:=(hl.2 2 b2 9 rfl rfl).HB (x:=CT Ab 9) (by kernel_rfl) rfl
 obtain⟨a3,e3,w3⟩:=(hl.2 3 b3 42 rfl rfl).Dt (x:=CT Ab 42) (y:=CT Ab 9) (by kernel_rfl) rfl (by kernel_rfl)
 obtain rfl:b3= .list false 1 a3:=e3;obtain⟨a4,rfl,w4⟩:=(hl.2 4 b4 5 rfl rfl).Jk (x:=CT Ab 5) (by kernel_rfl) rfl
 obtain⟨a5,rfl,w5⟩:=(hl.2 5 b5 9 rfl rfl).HB (x:=CT Ab 9) (by kernel_rfl) rfl
 obtain⟨a6,e6,w6⟩:=(hl.2 6 b6 46 rfl rfl).Dt (x:=CT Ab 46) (y:=CT Ab 48) (by kernel_rfl) rfl (by kernel_rfl)
 obtain rfl:b6= .list true 3 a6:=e6;obtain⟨a7,rfl,w7⟩:=(hl.2 7 b7 2 rfl rfl).Jk (x:=CT Ab 2) (by kernel_rfl) rfl
 obtain⟨a8,rfl,w8⟩:=(hl.2 8 b8 9 rfl rfl).HB (x:=CT Ab 9) (by kernel_rfl) rfl
 obtain⟨a9,e9,w9⟩:=(hl.2 9 b9 42 rfl rfl).Dt (x:=CT Ab 42) (y:=CT Ab 9) (by kernel_rfl) rfl (by kernel_rfl)
 obtain rfl:b9= .list false 1 a9:=e9;obtain⟨a10,Ol,w10⟩:=(hl.2 10 b10 52 rfl rfl).Dt (x:=CT Ab 52) (y:=CT Ab 54) (by kernel_rfl) rfl (by kernel_rfl)
 obtain rfl:b10= .list true 8 a10:=Ol;obtain⟨a11,e11,w11⟩:=(hl.2 11 b11 49 rfl rfl).Dt (x:=CT Ab 49) (y:=CT Ab 90) (by kernel_rfl) rfl (by kernel_rfl)
 obtain rfl:b11= .list true 15 a11:=e11;obtain⟨a12,e12,w12⟩:=(hl.2 12 b12 49 rfl rfl).Dt (x:=CT Ab 49) (y:=CT Ab 90) (by kernel_rfl) rfl (by kernel_rfl)
 obtain rfl:b12= .list true 15 a12:=e12;obtain⟨a13,e13,w13⟩:=(hl.2 13 b13 88 rfl rfl).Dt (x:=CT Ab 88) (y:=CT Ab 96) (by kernel_rfl) rfl (by kernel_rfl)
 obtain rfl:b13= .list true 3 a13:=e13;obtain⟨a14,rfl,w14⟩:=(hl.2 14 b14 3 rfl rfl).Jk (x:=CT Ab 3) (by kernel_rfl) rfl
 grind
theorem lV (h:GN Ab 56 x):∃a0 a1 a2 a3 a4 a5 a6 a7 a8 a9 a10 a11 a12 a13 a14 a15,x= .agg [.int .u8 a0,.str a1,.list true 4 a2,.int .u8 a3,.str a4,.list true 3 a5,.list true 15 a6,.int .u8 a7,.int .i64 a8,.str a9,.str a10,.str a11,.list false 1 a12,.list true 8 a13,.int .i64 a14,.int .i64 a15]∧(Lit.int .u8 a0).wf=true∧a1.size≤maxLen∧AB Ab 58 a2∧(Lit.int .u8 a3).wf=true∧a4.size≤maxLen∧AB Ab 48 a5∧AB Ab 90 a6∧(Lit.int .u8 a7).wf=true∧(Lit.int .i64 a8).wf=true∧a9.size≤maxLen∧a10.size≤maxLen∧a11.size≤maxLen∧AB Ab 9 a12∧AB Ab 54 a13∧(Lit.int .i64 a14).wf=true∧(Lit.int .i64 a15).wf=true:=by
 obtain⟨cs,rfl,hs⟩:=h.agg (y:=CT Ab 56) (by kernel_rfl) rfl
 have hl:=hs.flat 9 56 [5,9,45,5,9,46,49,5,2,9,9,9,42,52,3,3] cs (by kernel_rfl)
 obtain⟨b0,b1,b2,b3,b4,b5,b6,b7,b8,b9,b10,b11,b12,b13,b14,b15,rfl⟩:=yG hl.1;obtain⟨a0,rfl,w0⟩:=(hl.2 0 b0 5 rfl rfl).Jk (x:=CT Ab 5) (by kernel_rfl) rfl
 obtain⟨a1,rfl,w1⟩:=(hl.2 1 b1 9 rfl rfl).HB (x:=CT Ab 9) (by kernel_rfl) rfl
 obtain⟨a2,e2,w2⟩:=(hl.2 2 b2 45 rfl rfl).Dt (x:=CT Ab 45) (y:=CT Ab 58) (by kernel_rfl) rfl (by kernel_rfl)
 obtain rfl:b2= .list true 4 a2:=e2;obtain⟨a3,rfl,w3⟩:=(hl.2 3 b3 5 rfl rfl).Jk (x:=CT Ab 5) (by kernel_rfl) rfl
 obtain⟨a4,rfl,w4⟩:=(hl.2 4 b4 9 rfl rfl).HB (x:=CT Ab 9) (by kernel_rfl) rfl
 obtain⟨a5,e5,w5⟩:=(hl.2 5 b5 46 rfl rfl).Dt (x:=CT Ab 46) (y:=CT Ab 48) (by kernel_rfl) rfl (by kernel_rfl)
 obtain rfl:b5= .list true 3 a5:=e5;obtain⟨a6,e6,w6⟩:=(hl.2 6 b6 49 rfl rfl).Dt (x:=CT Ab 49) (y:=CT Ab 90) (by kernel_rfl) rfl (by kernel_rfl)
 obtain rfl:b6= .list true 15 a6:=e6;obtain⟨a7,rfl,w7⟩:=(hl.2 7 b7 5 rfl rfl).Jk (x:=CT Ab 5) (by kernel_rfl) rfl
 obtain⟨a8,rfl,w8⟩:=(hl.2 8 b8 2 rfl rfl).Jk (x:=CT Ab 2) (by kernel_rfl) rfl
 obtain⟨a9,rfl,w9⟩:=(hl.2 9 b9 9 rfl rfl).HB (x:=CT Ab 9) (by kernel_rfl) rfl
 obtain⟨a10,rfl,w10⟩:=(hl.2 10 b10 9 rfl rfl).HB (x:=CT Ab 9) (by kernel_rfl) rfl
 obtain⟨a11,rfl,w11⟩:=(hl.2 11 b11 9 rfl rfl).HB (x:=CT Ab 9) (by kernel_rfl) rfl
 obtain⟨a12,e12,w12⟩:=(hl.2 12 b12 42 rfl rfl).Dt (x:=CT Ab 42) (y:=CT Ab 9) (by kernel_rfl) rfl (by kernel_rfl)
 obtain rfl:b12= .list false 1 a12:=e12;obtain⟨a13,e13,w13⟩:=(hl.2 13 b13 52 rfl rfl).Dt (x:=CT Ab 52) (y:=CT Ab 54) (by kernel_rfl) rfl (by kernel_rfl)
 obtain rfl:b13= .list true 8 a13:=e13;obtain⟨a14,rfl,w14⟩:=(hl.2 14 b14 3 rfl rfl).Jk (x:=CT Ab 3) (by kernel_rfl) rfl
 obtain⟨a15,rfl,w15⟩:=(hl.2 15 b15 3 rfl rfl).Jk (x:=CT Ab 3) (by kernel_rfl) rfl
 grind
theorem AMc (h:GN Ab 24 x):∃a0,x= .agg [.list true 16 a0]∧AB Ab 56 a0:=by
 obtain⟨cs,rfl,hs⟩:=h.agg (y:=CT Ab 24) (by kernel_rfl) rfl
 have hl:=hs.flat 9 24 [22] cs (by kernel_rfl)
 obtain⟨b0,rfl⟩:=ADk hl.1;obtain⟨a0,e0,w0⟩:=(hl.2 0 b0 22 rfl rfl).Dt (x:=CT Ab 22) (y:=CT Ab 56) (by kernel_rfl) rfl (by kernel_rfl)
 obtain rfl:b0= .list true 16 a0:=e0;exact⟨_,rfl,w0⟩
end
end Go.Proofs.YtjfmnfncmfepnaaGreatDoor
end
namespace Go.AM
open Go
def Wp {α:Type}(A:Nat→Option α) (P:α→Prop):Prop:=∃r,Ev A r∧P r
section
variable {α γ:Type}{P:γ→Prop}
theorem wS {a:γ}(h:P a):Wp (fun _=>some a) P:=⟨a,.ret,h⟩
section
variable {A:Nat→Option γ}
theorem wU (h:Wp (fun n=>A (n+1)) P):Wp A P:=let ⟨r,h1,h2⟩:=h;⟨r,h1.succ,h2⟩
theorem wM {Q:γ→Prop}(h:Wp A Q) (hq:∀r,Q r→P r):Wp A P:=let ⟨r,h1,h2⟩:=h;⟨r,h1,hq r h2⟩
theorem wO {A:Nat→Option α}{B:Nat→Option α→Option γ}{Q:α→Prop}(h:Wp A Q) (hk:∀r,Q r→Wp (fun n=>B n (some r)) P):Wp (fun n=>B n (A n)) P:=by
 obtain⟨r,⟨N,h1⟩,h2⟩:=h;obtain⟨s,⟨M,h3⟩,h4⟩:=hk r h2;refine⟨s,⟨N+M,fun n hn=>?_⟩,h4⟩
 grind
variable {l:List D}{k:Nat→Int→Option γ}
theorem wL (h:Wp (fun n=>k n (l.length:Int)) P):Wp (fun n=>AO l (k n)) P:=h
variable {s:ByteArray}
theorem wZ (h:Wp (fun n=>k n (s.size:Int)) P):Wp (fun n=>ZX s (k n)) P:=h
theorem wT {e:Int}(h:Wp (fun n=>k n e) P):Wp (fun n=>AW e (k n)) P:=h
theorem wW {e x:Int}(hx:e=x) (h1: -9223372036854775808≤x∧x≤9223372036854775807) (h:Wp (fun n=>k n x) P):Wp (fun n=>AW (IntKind.wrap .i64 e) (k n)) P:=by
 subst hx;show Wp (fun n=>k n (IntKind.wrap .i64 e)) P
 rw[ZP h1];exact h
theorem wi {i:Nat}(h1:i<9223372036854775807) (h:Wp (fun n=>k n ((i+1:Nat):Int)) P):Wp (fun n=>AW (IntKind.wrap .i64 ((i:Int)+1)) (k n)) P:=wW (by omega) (by omega) h
theorem ap {b:Nat}{m:List D}(h1:l.length+m.length≤2000000000) (hb:b≤1000):l.length+m.length≤maxLen∧(l.length+m.length)*b≤140737488355328:=by
 have:maxLen=9223372036854775807:=rfl;exact⟨by omega,Nat.le_trans (Nat.mul_le_mul h1 hb) (by decide)⟩
theorem wa {z:Int}(h1:0≤z∧z<s.size) (h:∀y:Int,Wp (fun n=>k n y) P):Wp (fun n=>rL s z (k n)) P:=by
 have hx:s[z.toNat]?=some (s[z.toNat]'(by omega)):=by rw[getElem?_pos]
 simp only[rL,if_pos h1.1,hx,Option.map_some];exact h _
def Aq (V:List D→Prop) (l:List D):Prop:=∀x∈l,∃s vs,x= .agg (.str s::vs)∧V vs
variable {V:List D→Prop}
theorem Aq.nil:Aq V []:=fun x hx=>by cases hx
theorem LW {V:List D→Prop}{e:Bool}{s:ByteArray}:∀{l:List D},Aq V l→∃r,DS e (.str s) l=some r∧∀y,r=some y→∃vs,V vs∧y=rowOf e vs
 | [],_=>⟨none,rfl,fun y h=>by cases h⟩
 | x::l,h=>by
  obtain⟨k,vs,rfl,hv⟩:=h x (List.mem_cons_self ..);obtain⟨r,h1,h2⟩:=LW (e:=e) (s:=s) fun y hy=>h y (List.mem_cons_of_mem _ hy)
  unfold DS;simp only[Zv];grind
theorem Og {V:List D→Prop}{s:ByteArray}{ws:List D}(hw:V ws):∀{l:List D},Aq V l→∃r,G9 (.str s) ws l=some r∧Aq V r∧r.length≤l.length+1
 | [],_=>⟨_,rfl,fun x hx=>by grind,Nat.le_refl _⟩
 | x::l,h=>by
  obtain⟨k,vs,rfl,hv⟩:=h x (List.mem_cons_self ..);have ht:Aq V l:=fun y hy=>h y (List.mem_cons_of_mem _ hy)
  obtain⟨r,h1,h2,h3⟩:=Og (s:=s) hw ht;unfold G9;simp only[Zv];split
  ·exact⟨_,rfl,fun y hy=>by
    rcases List.mem_cons.1 hy with rfl | hy
    ·grind
    ·exact ht y hy,by simp⟩
  ·rw[h1]
   exact⟨_,rfl,fun y hy=>by
    rcases List.mem_cons.1 hy with rfl | hy
    ·grind
    ·exact h2 y hy,by simp;omega⟩
  simp_all
theorem wF {e:Bool}{k1:Nat→D→Option γ}{k0:Nat→Option γ}(h:Aq V l) (h1:∀vs,V vs→Wp (fun n=>k1 n (rowOf e vs)) P) (h0:Wp k0 P):Wp (fun n=>findF e (.str s) l (k1 n) (k0 n)) P:=by
 obtain⟨r,h2,h3⟩:=LW (e:=e) (s:=s) h;simp only[findF,h2];cases r with
 | none=>exact h0
 | some y=>
  grind
theorem wP {ws:List D}{k:Nat→List D→Option γ}(h:Aq V l) (hw:V ws) (h1:∀r,Aq V r→r.length≤l.length+1→Wp (fun n=>k n r) P):Wp (fun n=>B5 (.str s) ws l (k n)) P:=by
 obtain⟨r,h2,h3,h4⟩:=Og (s:=s) hw h;simp only[B5,h2];exact h1 r h3 h4
abbrev Tl (A:Nat→Option γ):Prop:=Wp A fun _=>True
theorem qC {α β:Type}{x:Nat→Option (α ⊕ β)}{f:Nat→α→Option γ}{g:Nat→β→Option γ}{Q:α ⊕ β→Prop}(h:Wp x Q) (h1:∀a,Q (.inl a)→Wp (fun n=>f n a) P) (h2:∀b,Q (.inr b)→Wp (fun n=>g n b) P):Wp (fun n=>bS (x n) (f n) (g n)) P:=wO (B:=fun n x=>bS x (f n) (g n)) h fun r hr=>by
 cases r with
 | inl a=>exact h1 a hr
 | inr b=>exact h2 b hr
theorem wB {e:Bool}{k:Nat→Bool→Option γ}(h:Wp (fun n=>k n e) P):Wp (fun n=>Ax e (k n)) P:=h
theorem wX {e:List D}{k:Nat→List D→Option γ}(h:Wp (fun n=>k n e) P):Wp (fun n=>Gf e (k n)) P:=h
theorem wI {c:Prop} [Decidable c] {B:Nat→Option γ}(h1:c→Wp A P) (h2:¬c→Wp B P):Wp (fun n=>if c then A n else B n) P:=by
 by_cases h:c
 ·simp_all
 simp_all
theorem wN {c:Prop} [Decidable c] (h1:c) (h:Wp A P):Wp (fun n=>Be c (A n)) P:=by
 simp only[Be,if_pos h1];exact h
theorem wG {z:Int}{k:Nat→D→Option γ}(h1:0≤z∧z<l.length) (h:∀x,l[z.toNat]?=some x→Wp (fun n=>k n x) P):Wp (fun n=>Ae l z (k n)) P:=by
 have hx:l[z.toNat]?=some (l[z.toNat]'(by omega)):=List.getElem?_eq_getElem (by omega)
 simp only[Ae,if_pos h1.1,hx];exact h _ hx
theorem wK {z:Nat}{k:Nat→D→Option γ}(h1:z<l.length) (h:∀x,l[z]?=some x→Wp (fun n=>k n x) P):Wp (fun n=>DV l z (k n)) P:=by
 have hx:l[z]?=some (l[z]'h1):=List.getElem?_eq_getElem h1;simp only[DV,hx];exact h _ hx
theorem wA {b:Nat}{m:List D}{k:Nat→List D→Option γ}(h1:l.length+m.length≤maxLen∧(l.length+m.length)*b≤140737488355328) (h:Wp (fun n=>k n (l++m)) P):Wp (fun n=>Bw b l m (k n)) P:=by
 simp only[Bw,if_pos h1];exact h
end
end
abbrev W1 {A1:Type}(A:Nat→Option (A1)) (Q:A1→Prop):Prop:=Wp A fun r=>Q r
section
variable {A1:Type}
theorem c1 {γ:Type}{P:γ→Prop}{A:Nat→Option (A1)}{Q:A1→Prop}{k:Nat→A1→Option γ}(h:W1 A Q) (hk:∀a1,Q a1→Wp (fun n=>k n a1) P):Wp (fun n=>Au (A n) (k n)) P:=wO (B:=fun n x=>Au x (k n)) h fun _ hr=>hk _ hr
abbrev W2 {A1 A2:Type}(A:Nat→Option (A1×A2)) (Q:A1→A2→Prop):Prop:=Wp A fun r=>Q r.1 r.2
variable {A2:Type}
theorem c2 {γ:Type}{P:γ→Prop}{A:Nat→Option (A1×A2)}{Q:A1→A2→Prop}{k:Nat→A1→A2→Option γ}(h:W2 A Q) (hk:∀a1 a2,Q a1 a2→Wp (fun n=>k n a1 a2) P):Wp (fun n=>Im (A n) (k n)) P:=wO (B:=fun n x=>Im x (k n)) h fun _ hr=>hk _ _ hr
abbrev W3 {A1 A2 A3:Type}(A:Nat→Option (A1×A2×A3)) (Q:A1→A2→A3→Prop):Prop:=Wp A fun r=>Q r.1 r.2.1 r.2.2
variable {A3:Type}
theorem c3 {γ:Type}{P:γ→Prop}{A:Nat→Option (A1×A2×A3)}{Q:A1→A2→A3→Prop}{k:Nat→A1→A2→A3→Option γ}(h:W3 A Q) (hk:∀a1 a2 a3,Q a1 a2 a3→Wp (fun n=>k n a1 a2 a3) P):Wp (fun n=>Dq (A n) (k n)) P:=wO (B:=fun n x=>Dq x (k n)) h fun _ hr=>hk _ _ _ hr
abbrev W4 {A1 A2 A3 A4:Type}(A:Nat→Option (A1×A2×A3×A4)) (Q:A1→A2→A3→A4→Prop):Prop:=Wp A fun r=>Q r.1 r.2.1 r.2.2.1 r.2.2.2
variable {A4:Type}
theorem c4 {γ:Type}{P:γ→Prop}{A:Nat→Option (A1×A2×A3×A4)}{Q:A1→A2→A3→A4→Prop}{k:Nat→A1→A2→A3→A4→Option γ}(h:W4 A Q) (hk:∀a1 a2 a3 a4,Q a1 a2 a3 a4→Wp (fun n=>k n a1 a2 a3 a4) P):Wp (fun n=>jD (A n) (k n)) P:=wO (B:=fun n x=>jD x (k n)) h fun _ hr=>hk _ _ _ _ hr
abbrev W5 {A1 A2 A3 A4 A5:Type}(A:Nat→Option (A1×A2×A3×A4×A5)) (Q:A1→A2→A3→A4→A5→Prop):Prop:=Wp A fun r=>Q r.1 r.2.1 r.2.2.1 r.2.2.2.1 r.2.2.2.2
variable {A5:Type}
theorem c5 {γ:Type}{P:γ→Prop}{A:Nat→Option (A1×A2×A3×A4×A5)}{Q:A1→A2→A3→A4→A5→Prop}{k:Nat→A1→A2→A3→A4→A5→Option γ}(h:W5 A Q) (hk:∀a1 a2 a3 a4 a5,Q a1 a2 a3 a4 a5→Wp (fun n=>k n a1 a2 a3 a4 a5) P):Wp (fun n=>ZY (A n) (k n)) P:=wO (B:=fun n x=>ZY x (k n)) h fun _ hr=>hk _ _ _ _ _ hr
abbrev W6 {A1 A2 A3 A4 A5 A6:Type}(A:Nat→Option (A1×A2×A3×A4×A5×A6)) (Q:A1→A2→A3→A4→A5→A6→Prop):Prop:=Wp A fun r=>Q r.1 r.2.1 r.2.2.1 r.2.2.2.1 r.2.2.2.2.1 r.2.2.2.2.2
variable {A6:Type}
theorem c6 {γ:Type}{P:γ→Prop}{A:Nat→Option (A1×A2×A3×A4×A5×A6)}{Q:A1→A2→A3→A4→A5→A6→Prop}{k:Nat→A1→A2→A3→A4→A5→A6→Option γ}(h:W6 A Q) (hk:∀a1 a2 a3 a4 a5 a6,Q a1 a2 a3 a4 a5 a6→Wp (fun n=>k n a1 a2 a3 a4 a5 a6) P):Wp (fun n=>Lw (A n) (k n)) P:=wO (B:=fun n x=>Lw x (k n)) h fun _ hr=>hk _ _ _ _ _ _ hr
abbrev W7 {A1 A2 A3 A4 A5 A6 A7:Type}(A:Nat→Option (A1×A2×A3×A4×A5×A6×A7)) (Q:A1→A2→A3→A4→A5→A6→A7→Prop):Prop:=Wp A fun r=>Q r.1 r.2.1 r.2.2.1 r.2.2.2.1 r.2.2.2.2.1 r.2.2.2.2.2.1 r.2.2.2.2.2.2
variable {A7:Type}
theorem c7 {γ:Type}{P:γ→Prop}{A:Nat→Option (A1×A2×A3×A4×A5×A6×A7)}{Q:A1→A2→A3→A4→A5→A6→A7→Prop}{k:Nat→A1→A2→A3→A4→A5→A6→A7→Option γ}(h:W7 A Q) (hk:∀a1 a2 a3 a4 a5 a6 a7,Q a1 a2 a3 a4 a5 a6 a7→Wp (fun n=>k n a1 a2 a3 a4 a5 a6 a7) P):Wp (fun n=>jE (A n) (k n)) P:=wO (B:=fun n x=>jE x (k n)) h fun _ hr=>hk _ _ _ _ _ _ _ hr
abbrev W8 {A1 A2 A3 A4 A5 A6 A7 A8:Type}(A:Nat→Option (A1×A2×A3×A4×A5×A6×A7×A8)) (Q:A1→A2→A3→A4→A5→A6→A7→A8→Prop):Prop:=Wp A fun r=>Q r.1 r.2.1 r.2.2.1 r.2.2.2.1 r.2.2.2.2.1 r.2.2.2.2.2.1 r.2.2.2.2.2.2.1 r.2.2.2.2.2.2.2
variable {A8:Type}
theorem c8 {γ:Type}{P:γ→Prop}{A:Nat→Option (A1×A2×A3×A4×A5×A6×A7×A8)}{Q:A1→A2→A3→A4→A5→A6→A7→A8→Prop}{k:Nat→A1→A2→A3→A4→A5→A6→A7→A8→Option γ}(h:W8 A Q) (hk:∀a1 a2 a3 a4 a5 a6 a7 a8,Q a1 a2 a3 a4 a5 a6 a7 a8→Wp (fun n=>k n a1 a2 a3 a4 a5 a6 a7 a8) P):Wp (fun n=>XX (A n) (k n)) P:=wO (B:=fun n x=>XX x (k n)) h fun _ hr=>hk _ _ _ _ _ _ _ _ hr
abbrev W9 {A1 A2 A3 A4 A5 A6 A7 A8 A9:Type}(A:Nat→Option (A1×A2×A3×A4×A5×A6×A7×A8×A9)) (Q:A1→A2→A3→A4→A5→A6→A7→A8→A9→Prop):Prop:=Wp A fun r=>Q r.1 r.2.1 r.2.2.1 r.2.2.2.1 r.2.2.2.2.1 r.2.2.2.2.2.1 r.2.2.2.2.2.2.1 r.2.2.2.2.2.2.2.1 r.2.2.2.2.2.2.2.2
variable {A9:Type}
theorem c9 {γ:Type}{P:γ→Prop}{A:Nat→Option (A1×A2×A3×A4×A5×A6×A7×A8×A9)}{Q:A1→A2→A3→A4→A5→A6→A7→A8→A9→Prop}{k:Nat→A1→A2→A3→A4→A5→A6→A7→A8→A9→Option γ}(h:W9 A Q) (hk:∀a1 a2 a3 a4 a5 a6 a7 a8 a9,Q a1 a2 a3 a4 a5 a6 a7 a8 a9→Wp (fun n=>k n a1 a2 a3 a4 a5 a6 a7 a8 a9) P):Wp (fun n=>jF (A n) (k n)) P:=wO (B:=fun n x=>jF x (k n)) h fun _ hr=>hk _ _ _ _ _ _ _ _ _ hr
abbrev DQ {A1 A2 A3 A4 A5 A6 A7 A8 A9 A10:Type}(A:Nat→Option (A1×A2×A3×A4×A5×A6×A7×A8×A9×A10)) (Q:A1→A2→A3→A4→A5→A6→A7→A8→A9→A10→Prop):Prop:=Wp A fun r=>Q r.1 r.2.1 r.2.2.1 r.2.2.2.1 r.2.2.2.2.1 r.2.2.2.2.2.1 r.2.2.2.2.2.2.1 r.2.2.2.2.2.2.2.1 r.2.2.2.2.2.2.2.2.1 r.2.2.2.2.2.2.2.2.2
variable {A10:Type}
theorem lW {γ:Type}{P:γ→Prop}{A:Nat→Option (A1×A2×A3×A4×A5×A6×A7×A8×A9×A10)}{Q:A1→A2→A3→A4→A5→A6→A7→A8→A9→A10→Prop}{k:Nat→A1→A2→A3→A4→A5→A6→A7→A8→A9→A10→Option γ}(h:DQ A Q) (hk:∀a1 a2 a3 a4 a5 a6 a7 a8 a9 a10,Q a1 a2 a3 a4 a5 a6 a7 a8 a9 a10→Wp (fun n=>k n a1 a2 a3 a4 a5 a6 a7 a8 a9 a10) P):Wp (fun n=>BO (A n) (k n)) P:=wO (B:=fun n x=>BO x (k n)) h fun _ hr=>hk _ _ _ _ _ _ _ _ _ _ hr
abbrev zU {A1 A2 A3 A4 A5 A6 A7 A8 A9 A10 A11:Type}(A:Nat→Option (A1×A2×A3×A4×A5×A6×A7×A8×A9×A10×A11)) (Q:A1→A2→A3→A4→A5→A6→A7→A8→A9→A10→A11→Prop):Prop:=Wp A fun r=>Q r.1 r.2.1 r.2.2.1 r.2.2.2.1 r.2.2.2.2.1 r.2.2.2.2.2.1 r.2.2.2.2.2.2.1 r.2.2.2.2.2.2.2.1 r.2.2.2.2.2.2.2.2.1 r.2.2.2.2.2.2.2.2.2.1 r.2.2.2.2.2.2.2.2.2.2
variable {A11:Type}
theorem yL {γ:Type}{P:γ→Prop}{A:Nat→Option (A1×A2×A3×A4×A5×A6×A7×A8×A9×A10×A11)}{Q:A1→A2→A3→A4→A5→A6→A7→A8→A9→A10→A11→Prop}{k:Nat→A1→A2→A3→A4→A5→A6→A7→A8→A9→A10→A11→Option γ}(h:zU A Q) (hk:∀a1 a2 a3 a4 a5 a6 a7 a8 a9 a10 a11,Q a1 a2 a3 a4 a5 a6 a7 a8 a9 a10 a11→Wp (fun n=>k n a1 a2 a3 a4 a5 a6 a7 a8 a9 a10 a11) P):Wp (fun n=>BW (A n) (k n)) P:=wO (B:=fun n x=>BW x (k n)) h fun _ hr=>hk _ _ _ _ _ _ _ _ _ _ _ hr
abbrev W13 {A1 A2 A3 A4 A5 A6 A7 A8 A9 A10 A11 A12 A13:Type}(A:Nat→Option (A1×A2×A3×A4×A5×A6×A7×A8×A9×A10×A11×A12×A13)) (Q:A1→A2→A3→A4→A5→A6→A7→A8→A9→A10→A11→A12→A13→Prop):Prop:=Wp A fun r=>Q r.1 r.2.1 r.2.2.1 r.2.2.2.1 r.2.2.2.2.1 r.2.2.2.2.2.1 r.2.2.2.2.2.2.1 r.2.2.2.2.2.2.2.1 r.2.2.2.2.2.2.2.2.1 r.2.2.2.2.2.2.2.2.2.1 r.2.2.2.2.2.2.2.2.2.2.1 r.2.2.2.2.2.2.2.2.2.2.2.1 r.2.2.2.2.2.2.2.2.2.2.2.2
variable {A12 A13:Type}
theorem c13 {γ:Type}{P:γ→Prop}{A:Nat→Option (A1×A2×A3×A4×A5×A6×A7×A8×A9×A10×A11×A12×A13)}{Q:A1→A2→A3→A4→A5→A6→A7→A8→A9→A10→A11→A12→A13→Prop}{k:Nat→A1→A2→A3→A4→A5→A6→A7→A8→A9→A10→A11→A12→A13→Option γ}(h:W13 A Q) (hk:∀a1 a2 a3 a4 a5 a6 a7 a8 a9 a10 a11 a12 a13,Q a1 a2 a3 a4 a5 a6 a7 a8 a9 a10 a11 a12 a13→Wp (fun n=>k n a1 a2 a3 a4 a5 a6 a7 a8 a9 a10 a11 a12 a13) P):Wp (fun n=>K2 (A n) (k n)) P:=wO (B:=fun n x=>K2 x (k n)) h fun _ hr=>hk _ _ _ _ _ _ _ _ _ _ _ _ _ hr
abbrev W17 {A1 A2 A3 A4 A5 A6 A7 A8 A9 A10 A11 A12 A13 A14 A15 A16 A17:Type}(A:Nat→Option (A1×A2×A3×A4×A5×A6×A7×A8×A9×A10×A11×A12×A13×A14×A15×A16×A17)) (Q:A1→A2→A3→A4→A5→A6→A7→A8→A9→A10→A11→A12→A13→A14→A15→A16→A17→Prop):Prop:=Wp A fun r=>Q r.1 r.2.1 r.2.2.1 r.2.2.2.1 r.2.2.2.2.1 r.2.2.2.2.2.1 r.2.2.2.2.2.2.1 r.2.2.2.2.2.2.2.1 r.2.2.2.2.2.2.2.2.1 r.2.2.2.2.2.2.2.2.2.1 r.2.2.2.2.2.2.2.2.2.2.1 r.2.2.2.2.2.2.2.2.2.2.2.1 r.2.2.2.2.2.2.2.2.2.2.2.2.1 r.2.2.2.2.2.2.2.2.2.2.2.2.2.1 r.2.2.2.2.2.2.2.2.2.2.2.2.2.2.1 r.2.2.2.2.2.2.2.2.2.2.2.2.2.2.2.1 r.2.2.2.2.2.2.2.2.2.2.2.2.2.2.2.2
variable {A14 A15 A16 A17:Type}
theorem c17 {γ:Type}{P:γ→Prop}{A:Nat→Option (A1×A2×A3×A4×A5×A6×A7×A8×A9×A10×A11×A12×A13×A14×A15×A16×A17)}{Q:A1→A2→A3→A4→A5→A6→A7→A8→A9→A10→A11→A12→A13→A14→A15→A16→A17→Prop}{k:Nat→A1→A2→A3→A4→A5→A6→A7→A8→A9→A10→A11→A12→A13→A14→A15→A16→A17→Option γ}(h:W17 A Q) (hk:∀a1 a2 a3 a4 a5 a6 a7 a8 a9 a10 a11 a12 a13 a14 a15 a16 a17,Q a1 a2 a3 a4 a5 a6 a7 a8 a9 a10 a11 a12 a13 a14 a15 a16 a17→Wp (fun n=>k n a1 a2 a3 a4 a5 a6 a7 a8 a9 a10 a11 a12 a13 a14 a15 a16 a17) P):Wp (fun n=>Vd (A n) (k n)) P:=wO (B:=fun n x=>Vd x (k n)) h fun _ hr=>hk _ _ _ _ _ _ _ _ _ _ _ _ _ _ _ _ _ hr
abbrev W18 {A1 A2 A3 A4 A5 A6 A7 A8 A9 A10 A11 A12 A13 A14 A15 A16 A17 A18:Type}(A:Nat→Option (A1×A2×A3×A4×A5×A6×A7×A8×A9×A10×A11×A12×A13×A14×A15×A16×A17×A18)) (Q:A1→A2→A3→A4→A5→A6→A7→A8→A9→A10→A11→A12→A13→A14→A15→A16→A17→A18→Prop):Prop:=Wp A fun r=>Q r.1 r.2.1 r.2.2.1 r.2.2.2.1 r.2.2.2.2.1 r.2.2.2.2.2.1 r.2.2.2.2.2.2.1 r.2.2.2.2.2.2.2.1 r.2.2.2.2.2.2.2.2.1 r.2.2.2.2.2.2.2.2.2.1 r.2.2.2.2.2.2.2.2.2.2.1 r.2.2.2.2.2.2.2.2.2.2.2.1 r.2.2.2.2.2.2.2.2.2.2.2.2.1 r.2.2.2.2.2.2.2.2.2.2.2.2.2.1 r.2.2.2.2.2.2.2.2.2.2.2.2.2.2.1 r.2.2.2.2.2.2.2.2.2.2.2.2.2.2.2.1 r.2.2.2.2.2.2.2.2.2.2.2.2.2.2.2.2.1 r.2.2.2.2.2.2.2.2.2.2.2.2.2.2.2.2.2
variable {A18:Type}{A:Nat→Option (A1×A2×A3×A4×A5×A6×A7×A8×A9×A10×A11×A12×A13×A14×A15×A16×A17×A18)}
theorem c18 {γ:Type}{P:γ→Prop}{Q:A1→A2→A3→A4→A5→A6→A7→A8→A9→A10→A11→A12→A13→A14→A15→A16→A17→A18→Prop}{k:Nat→A1→A2→A3→A4→A5→A6→A7→A8→A9→A10→A11→A12→A13→A14→A15→A16→A17→A18→Option γ}(h:W18 A Q) (hk:∀a1 a2 a3 a4 a5 a6 a7 a8 a9 a10 a11 a12 a13 a14 a15 a16 a17 a18,Q a1 a2 a3 a4 a5 a6 a7 a8 a9 a10 a11 a12 a13 a14 a15 a16 a17 a18→Wp (fun n=>k n a1 a2 a3 a4 a5 a6 a7 a8 a9 a10 a11 a12 a13 a14 a15 a16 a17 a18) P):Wp (fun n=>Qq (A n) (k n)) P:=wO (B:=fun n x=>Qq x (k n)) h fun _ hr=>hk _ _ _ _ _ _ _ _ _ _ _ _ _ _ _ _ _ _ hr
abbrev W20 {A1 A2 A3 A4 A5 A6 A7 A8 A9 A10 A11 A12 A13 A14 A15 A16 A17 A18 A19 A20:Type}(A:Nat→Option (A1×A2×A3×A4×A5×A6×A7×A8×A9×A10×A11×A12×A13×A14×A15×A16×A17×A18×A19×A20)) (Q:A1→A2→A3→A4→A5→A6→A7→A8→A9→A10→A11→A12→A13→A14→A15→A16→A17→A18→A19→A20→Prop):Prop:=Wp A fun r=>Q r.1 r.2.1 r.2.2.1 r.2.2.2.1 r.2.2.2.2.1 r.2.2.2.2.2.1 r.2.2.2.2.2.2.1 r.2.2.2.2.2.2.2.1 r.2.2.2.2.2.2.2.2.1 r.2.2.2.2.2.2.2.2.2.1 r.2.2.2.2.2.2.2.2.2.2.1 r.2.2.2.2.2.2.2.2.2.2.2.1 r.2.2.2.2.2.2.2.2.2.2.2.2.1 r.2.2.2.2.2.2.2.2.2.2.2.2.2.1 r.2.2.2.2.2.2.2.2.2.2.2.2.2.2.1 r.2.2.2.2.2.2.2.2.2.2.2.2.2.2.2.1 r.2.2.2.2.2.2.2.2.2.2.2.2.2.2.2.2.1 r.2.2.2.2.2.2.2.2.2.2.2.2.2.2.2.2.2.1 r.2.2.2.2.2.2.2.2.2.2.2.2.2.2.2.2.2.2.1 r.2.2.2.2.2.2.2.2.2.2.2.2.2.2.2.2.2.2.2
theorem c20 {A19 A20 γ:Type}{P:γ→Prop}{A:Nat→Option (A1×A2×A3×A4×A5×A6×A7×A8×A9×A10×A11×A12×A13×A14×A15×A16×A17×A18×A19×A20)}{Q:A1→A2→A3→A4→A5→A6→A7→A8→A9→A10→A11→A12→A13→A14→A15→A16→A17→A18→A19→A20→Prop}{k:Nat→A1→A2→A3→A4→A5→A6→A7→A8→A9→A10→A11→A12→A13→A14→A15→A16→A17→A18→A19→A20→Option γ}(h:W20 A Q) (hk:∀a1 a2 a3 a4 a5 a6 a7 a8 a9 a10 a11 a12 a13 a14 a15 a16 a17 a18 a19 a20,Q a1 a2 a3 a4 a5 a6 a7 a8 a9 a10 a11 a12 a13 a14 a15 a16 a17 a18 a19 a20→Wp (fun n=>k n a1 a2 a3 a4 a5 a6 a7 a8 a9 a10 a11 a12 a13 a14 a15 a16 a17 a18 a19 a20) P):Wp (fun n=>TS (A n) (k n)) P:=wO (B:=fun n x=>TS x (k n)) h fun _ hr=>hk _ _ _ _ _ _ _ _ _ _ _ _ _ _ _ _ _ _ _ _ hr
abbrev W22 {A1 A2 A3 A4 A5 A6 A7 A8 A9 A10 A11 A12 A13 A14 A15 A16 A17 A18 A19 A20 A21 A22:Type}(A:Nat→Option (A1×A2×A3×A4×A5×A6×A7×A8×A9×A10×A11×A12×A13×A14×A15×A16×A17×A18×A19×A20×A21×A22)) (Q:A1→A2→A3→A4→A5→A6→A7→A8→A9→A10→A11→A12→A13→A14→A15→A16→A17→A18→A19→A20→A21→A22→Prop):Prop:=Wp A fun r=>Q r.1 r.2.1 r.2.2.1 r.2.2.2.1 r.2.2.2.2.1 r.2.2.2.2.2.1 r.2.2.2.2.2.2.1 r.2.2.2.2.2.2.2.1 r.2.2.2.2.2.2.2.2.1 r.2.2.2.2.2.2.2.2.2.1 r.2.2.2.2.2.2.2.2.2.2.1 r.2.2.2.2.2.2.2.2.2.2.2.1 r.2.2.2.2.2.2.2.2.2.2.2.2.1 r.2.2.2.2.2.2.2.2.2.2.2.2.2.1 r.2.2.2.2.2.2.2.2.2.2.2.2.2.2.1 r.2.2.2.2.2.2.2.2.2.2.2.2.2.2.2.1 r.2.2.2.2.2.2.2.2.2.2.2.2.2.2.2.2.1 r.2.2.2.2.2.2.2.2.2.2.2.2.2.2.2.2.2.1 r.2.2.2.2.2.2.2.2.2.2.2.2.2.2.2.2.2.2.1 r.2.2.2.2.2.2.2.2.2.2.2.2.2.2.2.2.2.2.2.1 r.2.2.2.2.2.2.2.2.2.2.2.2.2.2.2.2.2.2.2.2.1 r.2.2.2.2.2.2.2.2.2.2.2.2.2.2.2.2.2.2.2.2.2
theorem c22 {A19 A20 A21 A22 γ:Type}{P:γ→Prop}{A:Nat→Option (A1×A2×A3×A4×A5×A6×A7×A8×A9×A10×A11×A12×A13×A14×A15×A16×A17×A18×A19×A20×A21×A22)}{Q:A1→A2→A3→A4→A5→A6→A7→A8→A9→A10→A11→A12→A13→A14→A15→A16→A17→A18→A19→A20→A21→A22→Prop}{k:Nat→A1→A2→A3→A4→A5→A6→A7→A8→A9→A10→A11→A12→A13→A14→A15→A16→A17→A18→A19→A20→A21→A22→Option γ}(h:W22 A Q) (hk:∀a1 a2 a3 a4 a5 a6 a7 a8 a9 a10 a11 a12 a13 a14 a15 a16 a17 a18 a19 a20 a21 a22,Q a1 a2 a3 a4 a5 a6 a7 a8 a9 a10 a11 a12 a13 a14 a15 a16 a17 a18 a19 a20 a21 a22→Wp (fun n=>k n a1 a2 a3 a4 a5 a6 a7 a8 a9 a10 a11 a12 a13 a14 a15 a16 a17 a18 a19 a20 a21 a22) P):Wp (fun n=>Ys (A n) (k n)) P:=wO (B:=fun n x=>Ys x (k n)) h fun _ hr=>hk _ _ _ _ _ _ _ _ _ _ _ _ _ _ _ _ _ _ _ _ _ _ hr
theorem u1 {γ:Type}{P:γ→Prop}{A:Nat→Option (A1)}{k:Nat→A1→Option γ}(h:Tl A) (hk:∀a1,Wp (fun n=>k n a1) P):Wp (fun n=>Au (A n) (k n)) P:=c1 (Q:=fun _=>True) h fun a1 _=>hk a1
theorem u2 {γ:Type}{P:γ→Prop}{A:Nat→Option (A1×A2)}{k:Nat→A1→A2→Option γ}(h:Tl A) (hk:∀a1 a2,Wp (fun n=>k n a1 a2) P):Wp (fun n=>Im (A n) (k n)) P:=c2 (Q:=fun _ _=>True) h fun a1 a2 _=>hk a1 a2
theorem u3 {γ:Type}{P:γ→Prop}{A:Nat→Option (A1×A2×A3)}{k:Nat→A1→A2→A3→Option γ}(h:Tl A) (hk:∀a1 a2 a3,Wp (fun n=>k n a1 a2 a3) P):Wp (fun n=>Dq (A n) (k n)) P:=c3 (Q:=fun _ _ _=>True) h fun a1 a2 a3 _=>hk a1 a2 a3
theorem u5 {γ:Type}{P:γ→Prop}{A:Nat→Option (A1×A2×A3×A4×A5)}{k:Nat→A1→A2→A3→A4→A5→Option γ}(h:Tl A) (hk:∀a1 a2 a3 a4 a5,Wp (fun n=>k n a1 a2 a3 a4 a5) P):Wp (fun n=>ZY (A n) (k n)) P:=c5 (Q:=fun _ _ _ _ _=>True) h fun a1 a2 a3 a4 a5 _=>hk a1 a2 a3 a4 a5
theorem u9 {γ:Type}{P:γ→Prop}{A:Nat→Option (A1×A2×A3×A4×A5×A6×A7×A8×A9)}{k:Nat→A1→A2→A3→A4→A5→A6→A7→A8→A9→Option γ}(h:Tl A) (hk:∀a1 a2 a3 a4 a5 a6 a7 a8 a9,Wp (fun n=>k n a1 a2 a3 a4 a5 a6 a7 a8 a9) P):Wp (fun n=>jF (A n) (k n)) P:=c9 (Q:=fun _ _ _ _ _ _ _ _ _=>True) h fun a1 a2 a3 a4 a5 a6 a7 a8 a9 _=>hk a1 a2 a3 a4 a5 a6 a7 a8 a9
theorem u17 {γ:Type}{P:γ→Prop}{A:Nat→Option (A1×A2×A3×A4×A5×A6×A7×A8×A9×A10×A11×A12×A13×A14×A15×A16×A17)}{k:Nat→A1→A2→A3→A4→A5→A6→A7→A8→A9→A10→A11→A12→A13→A14→A15→A16→A17→Option γ}(h:Tl A) (hk:∀a1 a2 a3 a4 a5 a6 a7 a8 a9 a10 a11 a12 a13 a14 a15 a16 a17,Wp (fun n=>k n a1 a2 a3 a4 a5 a6 a7 a8 a9 a10 a11 a12 a13 a14 a15 a16 a17) P):Wp (fun n=>Vd (A n) (k n)) P:=c17 (Q:=fun _ _ _ _ _ _ _ _ _ _ _ _ _ _ _ _ _=>True) h fun a1 a2 a3 a4 a5 a6 a7 a8 a9 a10 a11 a12 a13 a14 a15 a16 a17 _=>hk a1 a2 a3 a4 a5 a6 a7 a8 a9 a10 a11 a12 a13 a14 a15 a16 a17
theorem u18 {γ:Type}{P:γ→Prop}{k:Nat→A1→A2→A3→A4→A5→A6→A7→A8→A9→A10→A11→A12→A13→A14→A15→A16→A17→A18→Option γ}(h:Tl A) (hk:∀a1 a2 a3 a4 a5 a6 a7 a8 a9 a10 a11 a12 a13 a14 a15 a16 a17 a18,Wp (fun n=>k n a1 a2 a3 a4 a5 a6 a7 a8 a9 a10 a11 a12 a13 a14 a15 a16 a17 a18) P):Wp (fun n=>Qq (A n) (k n)) P:=c18 (Q:=fun _ _ _ _ _ _ _ _ _ _ _ _ _ _ _ _ _ _=>True) h fun a1 a2 a3 a4 a5 a6 a7 a8 a9 a10 a11 a12 a13 a14 a15 a16 a17 a18 _=>hk a1 a2 a3 a4 a5 a6 a7 a8 a9 a10 a11 a12 a13 a14 a15 a16 a17 a18
theorem c0 {γ:Type}{P:γ→Prop}{A:Nat→Option Unit}{Q:Unit→Prop}{k:Nat→Option γ}(h:Wp A Q) (hk:Q ()→Wp k P):Wp (fun n=>uK (A n) (k n)) P:=wO (B:=fun n x=>uK x (k n)) h fun _ hr=>hk hr
theorem AB.le {ti:Types}{e:TypeId}{L:List D}(h:AB ti e L):L.length≤9223372036854775807:=h.1
mutual
def wt:D→Nat
 | .agg cs=>AU cs+1
 | .list _ _ l=>AU l
 | .int _ _=>1
 | .bool _=>1
 | .str _=>1
 | .nil=>1
 | .box _=>1
 | .map _ _=>1
def AU:List D→Nat
 | []=>0
 | x::l=>wt x+AU l
end
theorem CZ {l:List D}{i:Nat}{x:D}(h:l[i]?=some x):AU (l.drop i)=wt x+AU (l.drop (i+1)):=by
 obtain⟨hi,rfl⟩:=List.getElem?_eq_some_iff.1 h;rw[List.drop_eq_getElem_cons hi,AU]
theorem FZ {l:List D}{i:Nat}(h:l.length≤i):AU (l.drop i)=0:=by rw[List.drop_eq_nil_of_le h];rfl
theorem BI:∀(l:List D) (i:Nat),AU (l.drop i)≤AU l
 | [],_=>by simp
 | x::l,0=>Nat.le_refl _
 | x::l,i+1=>by have:=BI l i;simp only[List.drop_succ_cons,AU];omega
theorem IQ {Q:List D→Prop}(H:∀L,(∀M,AU M<AU L→Q M)→Q L) (L:List D):Q L:=by
 obtain⟨m,hm⟩:∃m,AU L<m:=⟨_,Nat.lt_succ_self _⟩
 induction m generalizing L with
 | zero=>omega
 | succ m ih=>grind
end
end Go.AM
set_option linter.unusedVariables false
noncomputable section
namespace Go.Proofs.YtjfmnfncmfepnaaGreatDoor
open Go Go.AM
theorem Ai {Q:Nat→Prop}(N:Nat) (step:∀i,i≤N→(i<N→Q (i+1))→Q i):∀i,i≤N→Q i:=by
 intro i hi;obtain⟨d,hd⟩:∃d,d=N - i:=⟨_,rfl⟩
 induction d generalizing i with
 | zero=>grind
 | succ d ih=>grind
section
variable {γ:Type}{P:γ→Prop}{l:List D}{i:Nat}
theorem gi {k:Nat→D→Option γ}(hi:i<l.length) (h:∀x,l[i]?=some x→Wp (fun n=>k n x) P):Wp (fun n=>Ae l (i:Int) (k n)) P:=wG (by omega) fun x hx=>h x (by simpa using hx)
theorem zV {k:Nat→Int→ByteArray→List D→Option γ}(hl:AB Ab 48 l) (hi:i<l.length) (h:∀(a0:Int) (a1:ByteArray) (a2:List D),l[i]?=some (.agg [.int .u8 a0,.str a1,.list true 3 a2])→AU (l.drop i)=AU a2+3+AU (l.drop (i+1))→(Lit.int .u8 a0).wf=true→a1.size≤maxLen→AB Ab 48 a2→Wp (fun n=>k n a0 a1 a2) P):Wp (fun n=>Ae l (i:Int) fun x=>D0 x (k n)) P:=gi hi fun x hx=>by
 obtain⟨a0,a1,a2,rfl,w0,w1,w2⟩:=yI (hl.mem hx);exact h a0 a1 a2 hx (by rw[CZ hx];simp only[wt,AU];omega) w0 w1 w2
theorem Ub {k:Nat→Int→Int→ByteArray→ByteArray→ByteArray→List D→List D→Int→Option γ}(hl:AB Ab 54 l) (hi:i<l.length) (h:∀(a0:Int) (a1:Int) (a2:ByteArray) (a3:ByteArray) (a4:ByteArray) (a5:List D) (a6:List D) (a7:Int),l[i]?=some (.agg [.int .u8 a0,.int .i64 a1,.str a2,.str a3,.str a4,.list false 1 a5,.list true 8 a6,.int .i64 a7])→AU (l.drop i)=AU a5+AU a6+7+AU (l.drop (i+1))→(Lit.int .u8 a0).wf=true→(Lit.int .i64 a1).wf=true→a2.size≤maxLen→a3.size≤maxLen→a4.size≤maxLen→AB Ab 9 a5→AB Ab 54 a6→(Lit.int .i64 a7).wf=true→Wp (fun n=>k n a0 a1 a2 a3 a4 a5 a6 a7) P):Wp (fun n=>Ae l (i:Int) fun x=>Bj x (k n)) P:=gi hi fun x hx=>by
 obtain⟨a0,a1,a2,a3,a4,a5,a6,a7,rfl,w0,w1,w2,w3,w4,w5,w6,w7⟩:=yJ (hl.mem hx);exact h a0 a1 a2 a3 a4 a5 a6 a7 hx (by rw[CZ hx];simp only[wt,AU];omega) w0 w1 w2 w3 w4 w5 w6 w7
theorem Xx {k:Nat→ByteArray→Int→ByteArray→List D→Option γ}(hl:AB Ab 58 l) (hi:i<l.length) (h:∀(a0:ByteArray) (a1:Int) (a2:ByteArray) (a3:List D),l[i]?=some (.agg [.str a0,.int .u8 a1,.str a2,.list true 3 a3])→AU (l.drop i)=AU a3+4+AU (l.drop (i+1))→a0.size≤maxLen→(Lit.int .u8 a1).wf=true→a2.size≤maxLen→AB Ab 48 a3→Wp (fun n=>k n a0 a1 a2 a3) P):Wp (fun n=>Ae l (i:Int) fun x=>Bt x (k n)) P:=gi hi fun x hx=>by
 obtain⟨a0,a1,a2,a3,rfl,w0,w1,w2,w3⟩:=lU (hl.mem hx);exact h a0 a1 a2 a3 hx (by rw[CZ hx];simp only[wt,AU];omega) w0 w1 w2 w3
theorem qD {k:Nat→ByteArray→ByteArray→List D→Option γ}(hl:AB Ab 96 l) (hi:i<l.length) (h:∀(a0:ByteArray) (a1:ByteArray) (a2:List D),l[i]?=some (.agg [.str a0,.str a1,.list true 15 a2])→AU (l.drop i)=AU a2+3+AU (l.drop (i+1))→a0.size≤maxLen→a1.size≤maxLen→AB Ab 90 a2→Wp (fun n=>k n a0 a1 a2) P):Wp (fun n=>Ae l (i:Int) fun x=>Cv x (k n)) P:=gi hi fun x hx=>by
 obtain⟨a0,a1,a2,rfl,w0,w1,w2⟩:=Wx (hl.mem hx);exact h a0 a1 a2 hx (by rw[CZ hx];simp only[wt,AU];omega) w0 w1 w2
theorem tA {k:Nat→Int→ByteArray→ByteArray→List D→Int→ByteArray→List D→Int→ByteArray→List D→List D→List D→List D→List D→Int→Option γ}(hl:AB Ab 90 l) (hi:i<l.length) (h:∀(a0:Int) (a1:ByteArray) (a2:ByteArray) (a3:List D) (a4:Int) (a5:ByteArray) (a6:List D) (a7:Int) (a8:ByteArray) (a9:List D) (a10:List D) (a11:List D) (a12:List D) (a13:List D) (a14:Int),l[i]?=some (.agg [.int .u8 a0,.str a1,.str a2,.list false 1 a3,.int .u8 a4,.str a5,.list true 3 a6,.int .i64 a7,.str a8,.list false 1 a9,.list true 8 a10,.list true 15 a11,.list true 15 a12,.list true 3 a13,.int .i64 a14])→AU (l.drop i)=AU a3+AU a6+AU a9+AU a10+AU a11+AU a12+AU a13+9+AU (l.drop (i+1))→(Lit.int .u8 a0).wf=true→a1.size≤maxLen→a2.size≤maxLen→AB Ab 9 a3→(Lit.int .u8 a4).wf=true→a5.size≤maxLen→AB Ab 48 a6→(Lit.int .i64 a7).wf=true→a8.size≤maxLen→AB Ab 9 a9→AB Ab 54 a10→AB Ab 90 a11→AB Ab 90 a12→AB Ab 96 a13→(Lit.int .i64 a14).wf=true→Wp (fun n=>k n a0 a1 a2 a3 a4 a5 a6 a7 a8 a9 a10 a11 a12 a13 a14) P):Wp (fun n=>Ae l (i:Int) fun x=>Ba x (k n)) P:=gi hi fun x hx=>by
 obtain⟨a0,a1,a2,a3,a4,a5,a6,a7,a8,a9,a10,a11,a12,a13,a14,rfl,w0,w1,w2,w3,w4,w5,w6,w7,w8,w9,w10,w11,w12,w13,w14⟩:=yK (hl.mem hx);exact h a0 a1 a2 a3 a4 a5 a6 a7 a8 a9 a10 a11 a12 a13 a14 hx (by rw[CZ hx];simp only[wt,AU];omega) w0 w1 w2 w3 w4 w5 w6 w7 w8 w9 w10 w11 w12 w13 w14
variable {k:Nat→Int→ByteArray→List D→Int→ByteArray→List D→List D→Int→Int→ByteArray→ByteArray→ByteArray→List D→List D→Int→Int→Option γ}
theorem qE (hl:AB Ab 56 l) (hi:i<l.length) (h:∀(a0:Int) (a1:ByteArray) (a2:List D) (a3:Int) (a4:ByteArray) (a5:List D) (a6:List D) (a7:Int) (a8:Int) (a9:ByteArray) (a10:ByteArray) (a11:ByteArray) (a12:List D) (a13:List D) (a14:Int) (a15:Int),l[i]?=some (.agg [.int .u8 a0,.str a1,.list true 4 a2,.int .u8 a3,.str a4,.list true 3 a5,.list true 15 a6,.int .u8 a7,.int .i64 a8,.str a9,.str a10,.str a11,.list false 1 a12,.list true 8 a13,.int .i64 a14,.int .i64 a15])→AU (l.drop i)=AU a2+AU a5+AU a6+AU a12+AU a13+12+AU (l.drop (i+1))→(Lit.int .u8 a0).wf=true→a1.size≤maxLen→AB Ab 58 a2→(Lit.int .u8 a3).wf=true→a4.size≤maxLen→AB Ab 48 a5→AB Ab 90 a6→(Lit.int .u8 a7).wf=true→(Lit.int .i64 a8).wf=true→a9.size≤maxLen→a10.size≤maxLen→a11.size≤maxLen→AB Ab 9 a12→AB Ab 54 a13→(Lit.int .i64 a14).wf=true→(Lit.int .i64 a15).wf=true→Wp (fun n=>k n a0 a1 a2 a3 a4 a5 a6 a7 a8 a9 a10 a11 a12 a13 a14 a15) P):Wp (fun n=>Ae l (i:Int) fun x=>BZ x (k n)) P:=gi hi fun x hx=>by
 obtain⟨a0,a1,a2,a3,a4,a5,a6,a7,a8,a9,a10,a11,a12,a13,a14,a15,rfl,w0,w1,w2,w3,w4,w5,w6,w7,w8,w9,w10,w11,w12,w13,w14,w15⟩:=lV (hl.mem hx);exact h a0 a1 a2 a3 a4 a5 a6 a7 a8 a9 a10 a11 a12 a13 a14 a15 hx (by rw[CZ hx];simp only[wt,AU];omega) w0 w1 w2 w3 w4 w5 w6 w7 w8 w9 w10 w11 w12 w13 w14 w15
theorem d56 {x:D}(hx:GN Ab 56 x) (h:∀(a0:Int) (a1:ByteArray) (a2:List D) (a3:Int) (a4:ByteArray) (a5:List D) (a6:List D) (a7:Int) (a8:Int) (a9:ByteArray) (a10:ByteArray) (a11:ByteArray) (a12:List D) (a13:List D) (a14:Int) (a15:Int),x=(.agg [.int .u8 a0,.str a1,.list true 4 a2,.int .u8 a3,.str a4,.list true 3 a5,.list true 15 a6,.int .u8 a7,.int .i64 a8,.str a9,.str a10,.str a11,.list false 1 a12,.list true 8 a13,.int .i64 a14,.int .i64 a15])→(Lit.int .u8 a0).wf=true→a1.size≤maxLen→AB Ab 58 a2→(Lit.int .u8 a3).wf=true→a4.size≤maxLen→AB Ab 48 a5→AB Ab 90 a6→(Lit.int .u8 a7).wf=true→(Lit.int .i64 a8).wf=true→a9.size≤maxLen→a10.size≤maxLen→a11.size≤maxLen→AB Ab 9 a12→AB Ab 54 a13→(Lit.int .i64 a14).wf=true→(Lit.int .i64 a15).wf=true→Wp (fun n=>k n a0 a1 a2 a3 a4 a5 a6 a7 a8 a9 a10 a11 a12 a13 a14 a15) P):Wp (fun n=>BZ x (k n)) P:=by
 obtain⟨a0,a1,a2,a3,a4,a5,a6,a7,a8,a9,a10,a11,a12,a13,a14,a15,rfl,w0,w1,w2,w3,w4,w5,w6,w7,w8,w9,w10,w11,w12,w13,w14,w15⟩:=lV hx;exact h a0 a1 a2 a3 a4 a5 a6 a7 a8 a9 a10 a11 a12 a13 a14 a15 rfl w0 w1 w2 w3 w4 w5 w6 w7 w8 w9 w10 w11 w12 w13 w14 w15
theorem gs {k:Nat→ByteArray→Option γ}(hl:AB Ab 9 l) (hi:i<l.length) (h:∀s:ByteArray,l[i]?=some (.str s)→AU (l.drop i)=1+AU (l.drop (i+1))→s.size≤maxLen→Wp (fun n=>k n s) P):Wp (fun n=>Ae l (i:Int) fun x=>B0 x (k n)) P:=gi hi fun x hx=>by
 obtain⟨s,rfl,w⟩:=yH (hl.mem hx);exact h s hx (by rw[CZ hx];simp only[wt]) w
theorem dS {s:ByteArray}{k:Nat→ByteArray→Option γ}(h:Wp (fun n=>k n s) P):Wp (fun n=>B0 (.str s) (k n)) P:=h
theorem dB {b:Bool}{k:Nat→Bool→Option γ}(h:Wp (fun n=>k n b) P):Wp (fun n=>Dj (rowOf true [.bool b]) (k n)) P:=h
theorem dW {b:Bool}{s:ByteArray}{k:Nat→Bool→ByteArray→Option γ}(h:Wp (fun n=>k n b s) P):Wp (fun n=>Ch (.agg [.bool b,.str s]) (k n)) P:=h
theorem dZ {z:Int}{k:Nat→Int→Option γ}(h:Wp (fun n=>k n z) P):Wp (fun n=>B1 (.int .i64 z) (k n)) P:=h
end
end Go.Proofs.YtjfmnfncmfepnaaGreatDoor
end
set_option linter.unusedVariables false
noncomputable section
namespace Go.Proofs.YtjfmnfncmfepnaaGreatDoor
open Go Go.AM
theorem t201 (z:Int):Tl fun n=>lI n z:=by unfold lI;repeat' first | exact wS trivial | with_reducible refine wI (fun _=>?_) fun _=>?_ | with_reducible refine wL ?_ | with_reducible refine wB ?_ | with_reducible refine wT ?_ | with_reducible refine wZ ?_
theorem t200 (z:Int):Tl fun n=>lJ n z:=by unfold lJ;repeat' first | exact wS trivial | with_reducible refine wI (fun _=>?_) fun _=>?_ | with_reducible refine wL ?_ | with_reducible refine wB ?_ | with_reducible refine wT ?_ | with_reducible refine wZ ?_
theorem t252 (z:Int):Tl fun n=>pH n z:=by unfold pH;repeat' first | exact wS trivial | with_reducible refine wI (fun _=>?_) fun _=>?_ | with_reducible refine wL ?_ | with_reducible refine wB ?_ | with_reducible refine wT ?_ | with_reducible refine wZ ?_
theorem t243 (z:Int):Tl fun n=>pI n z:=by unfold pI;repeat' first | exact wS trivial | with_reducible refine wI (fun _=>?_) fun _=>?_ | with_reducible refine wL ?_ | with_reducible refine wB ?_ | with_reducible refine wT ?_ | with_reducible refine wZ ?_ | with_reducible refine u1 (t201 _) fun _=>?_ | with_reducible refine u1 (t200 _) fun _=>?_ | with_reducible refine u1 (t252 _) fun _=>?_
theorem t242 {s:ByteArray}(hs:(s.size:Int)≤16):Tl fun n=>lK n s:=by
 unfold lK;have e:∀z,Tl fun n=>OH n z:=fun z=>wU (by simp only[OH];exact wS trivial)
 have a:∀i,i≤s.size→Tl fun n=>OI n s (i:Int):=Ai _ fun i hi ih=>wU (by
  simp only[OI];exact wZ (wI (fun h=>wa (by omega) fun y=>c1 (t243 y) fun b _=>wI (fun _=>wi (by omega) (ih (by omega))) fun _=>e _) fun _=>e _))
 exact a 0 (Nat.zero_le _)
theorem t253:Wp (fun n=>pJ n) (Aq fun vs=>∃z,vs=[.int .i64 z]):=by
 unfold pJ
 have h0:Wp (fun n=>Yu n Cw) fun l=>(∀x∈l,∃s,x= .str s)∧l.length≤maxLen:=by
  unfold Yu;exact⟨_,.of fun n=>if_pos ⟨of_decide_eq_true (by kernel_rfl),by kernel_rfl,by trivial⟩,fun x hx=>by unfold fieldsD at hx;grind,by trivial⟩
 refine c1 h0 fun l ⟨hl,hm⟩=>?_
 have hm:l.length≤9223372036854775807:=hm
 have a:∀i,i≤l.length→∀m,Aq (fun vs=>∃z,vs=[.int .i64 z]) m→Wp (fun n=>OJ n l l.length i m) (Aq fun vs=>∃z,vs=[.int .i64 z]):=Ai _ fun i hi ih m hm'=>wU (by
  simp only[OJ]
  exact wI (fun h=>gi (by omega) fun x hx=>by
   obtain⟨s,rfl⟩:=hl x (List.mem_of_getElem? hx);exact dS (wi (by omega) (wP hm' ⟨_,rfl⟩ fun r hr _=>wi (by omega) (ih (by omega) r hr)))) fun _=>wS hm')
 exact wL (a 0 (Nat.zero_le _) [] .nil)
theorem t244 (s:ByteArray):Tl fun n=>lL n s:=by
 unfold lL;exact c1 t253 fun l hl=>wF hl (fun vs ⟨z,e⟩=>by subst e;exact dZ (wI (fun _=>wS trivial) fun _=>wS trivial)) (wS trivial)
theorem Xy {s:ByteArray}(h:¬s=ByteArray.empty):0<s.size:=by
 by_cases h0:s.size=0
 ·simp_all
 ·omega
theorem t199 (s:ByteArray):Tl fun n=>pK n s:=by
 unfold pK;exact wI (fun _=>wS trivial) fun h=>wZ (wI (fun h2=>wa (by have:=Xy h;omega) fun y=>c1 (t200 y) fun b _=>wI (fun _=>c1 (t242 h2) fun z _=>wZ (wI (fun _=>c1 (t244 s) fun _ _=>wB (wS trivial)) fun _=>wS trivial)) fun _=>wS trivial) fun _=>wS trivial)
theorem yM (s:ByteArray):Tl fun n=>Rj n s:=by
 unfold Rj;exact wI (fun _=>wS trivial) fun h=>wZ (wI (fun h2=>wa (by have:=Xy h;omega) fun y=>c1 (t201 y) fun b _=>wI (fun _=>c1 (t242 h2) fun z _=>wZ (wI (fun _=>c1 (t244 s) fun _ _=>wB (wS trivial)) fun _=>wS trivial)) fun _=>wS trivial) fun _=>wS trivial)
theorem t142 (s:ByteArray):Tl fun n=>KO n s:=by unfold KO;exact c1 (yM s) fun _ _=>wS trivial
theorem t141 (s:ByteArray):Tl fun n=>MM n s:=by unfold MM;exact c1 (t199 s) fun _ _=>wS trivial
theorem t138 (z:Int) (s:ByteArray) (l:List D):Tl fun n=>O4 n z s l:=by unfold O4;repeat' first | exact wS trivial | with_reducible refine wI (fun _=>?_) fun _=>?_ | with_reducible refine wL ?_ | with_reducible refine wB ?_ | with_reducible refine wT ?_ | with_reducible refine wZ ?_
section
variable {l:List D}
theorem tB (h:∀i,i≤l.length→∀z w,Tl fun n=>LR n l z i w) (k:Int) (s:ByteArray) (z:Int):Tl fun n=>JW n k s l z:=by
 have f:∀z w,Tl fun n=>pL n l z w:=fun z w=>wU (by simp only[pL];exact h 0 (Nat.zero_le _) z w)
 have h2:∀z y b,Tl fun n=>Gr n k l z y b:=fun z y b=>wU (by
  simp only[Gr]
  repeat' first | exact wS trivial | with_reducible refine wI (fun _=>?_) fun _=>?_ | with_reducible refine wL ?_ | with_reducible refine wB ?_ | with_reducible refine wT ?_ | with_reducible refine wZ ?_ | with_reducible refine u2 (f _ _) fun _ _=>?_)
 have h1:∀z b,Tl fun n=>OM n k s l z b:=fun z b=>wU (by
  simp only[OM]
  repeat' first | exact wS trivial | with_reducible refine wI (fun _=>?_) fun _=>?_ | with_reducible refine wL ?_ | with_reducible refine wB ?_ | with_reducible refine wT ?_ | with_reducible refine wZ ?_ | with_reducible refine h2 _ _ _ | with_reducible refine u1 (t141 _) fun _=>?_)
 exact wU (by simp only[JW];repeat' first | exact wS trivial | with_reducible refine wI (fun _=>?_) fun _=>?_ | simp_all | simp_all | simp_all | simp_all | simp_all)
theorem t195 (l:List D):AB Ab 48 l→∀i,i≤l.length→∀z w,Tl fun n=>LR n l z i w:=by
 induction l using IQ with | H l IH
 intro hl;have e:∀z w,Tl fun n=>OL n l z w:=fun z w=>wU (by simp only[OL];repeat' first | exact wS trivial | with_reducible refine wI (fun _=>?_) fun _=>?_ | with_reducible refine wL ?_ | with_reducible refine wB ?_ | with_reducible refine wT ?_ | with_reducible refine wZ ?_)
 refine Ai _ fun i hi ih z w=>wU ?_
 have hd:=BI l i;have:=hl.le;simp only[LR]
 exact wL (wI (fun h=>wI (fun _=>zV hl (by omega) fun k s m hx hw _ _ hm=>c2 (Q:=fun _ _=>True) (wU (by
  simp only[vF];exact wT (c1 (tB (IH m (by omega) hm) _ _ _) fun _ _=>wS trivial))) fun b y _=>wB (wI (fun _=>wS trivial) fun _=>wi (by omega) (ih (by omega) _ _))) fun _=>e _ _) fun _=>e _ _)
theorem t139 (hl:AB Ab 48 l) (k:Int) (s:ByteArray) (z:Int):Tl fun n=>JW n k s l z:=tB (t195 l hl) k s z
theorem t137 (hl:AB Ab 48 l) (s:ByteArray) (k:Int) (s2:ByteArray) (b:Bool) (z:Int):W3 (fun n=>pN n s k s2 l b z) fun _ _ w=>w=z:=by
 unfold pN;exact u1 (t142 _) fun _=>wI (fun _=>wI (fun _=>u1 (t138 _ _ _) fun _=>wI (fun _=>wS rfl) fun _=>wT (u1 (t139 hl _ _ _) fun _=>wS rfl)) fun _=>wT (u1 (t139 hl _ _ _) fun _=>wS rfl)) fun _=>wS rfl
theorem t136 (hl:AB Ab 58 l) (z:Int) (b:Bool) (w:Int):W3 (fun n=>pO n l z b w) fun _ _ u=>u=w:=by
 unfold pO;have e:∀b,W3 (fun n=>OO n l z b w) fun _ _ u=>u=w:=fun b=>wU (by simp only[OO];exact wL (wI (fun _=>wS rfl) fun _=>wS rfl))
 have a:∀i,i≤l.length→∀b,W3 (fun n=>OP n l z i b w) fun _ _ u=>u=w:=Ai _ fun i hi ih b=>wU (by
  simp only[OP];have:=hl.le;exact wL (wI (fun h=>wI (fun _=>Xx hl (by omega) fun _ _ _ _ _ _ _ _ _ hm=>c3 (t137 hm _ _ _ _ _) fun _ _ u hu=>by subst hu;exact wB (wI (fun _=>wS rfl) fun _=>wi (by omega) (ih (by omega) _))) fun _=>e _) fun _=>e _))
 exact a 0 (Nat.zero_le _) _
theorem yN (hl:AB Ab 48 l) (s:ByteArray) (k:Int) (s2:ByteArray) (b:Bool) (z:Int):W3 (fun n=>Rk n s k s2 l b z) fun _ _ w=>w=z:=by
 unfold Rk;exact u1 (t141 _) fun _=>wI (fun _=>wI (fun _=>u1 (t138 _ _ _) fun _=>wI (fun _=>wS rfl) fun _=>wT (u1 (t139 hl _ _ _) fun _=>wS rfl)) fun _=>wT (u1 (t139 hl _ _ _) fun _=>wS rfl)) fun _=>wS rfl
theorem yO (hl:AB Ab 58 l) (z:Int) (b:Bool) (w:Int):W3 (fun n=>Rn n l z b w) fun _ _ u=>u=w:=by
 unfold Rn;have e:∀b,W3 (fun n=>Hl n l z b w) fun _ _ u=>u=w:=fun b=>wU (by simp only[Hl];exact wL (wI (fun _=>wS rfl) fun _=>wS rfl))
 have a:∀i,i≤l.length→∀b,W3 (fun n=>Hm n l z i b w) fun _ _ u=>u=w:=Ai _ fun i hi ih b=>wU (by
  simp only[Hm];have:=hl.le;exact wL (wI (fun h=>wI (fun _=>Xx hl (by omega) fun _ _ _ _ _ _ _ _ _ hm=>c3 (yN hm _ _ _ _ _) fun _ _ u hu=>by subst hu;exact wB (wI (fun _=>wS rfl) fun _=>wi (by omega) (ih (by omega) _))) fun _=>e _) fun _=>e _))
 exact a 0 (Nat.zero_le _) _
theorem LX (hl:AB Ab 9 l) (z:Int):Tl fun n=>Gs n l z:=by
 unfold Gs;have e:Tl fun n=>Hn n l z:=wU (by simp only[Hn];repeat' first | exact wS trivial | with_reducible refine wI (fun _=>?_) fun _=>?_ | with_reducible refine wL ?_ | with_reducible refine wB ?_ | with_reducible refine wT ?_ | with_reducible refine wZ ?_)
 have a:∀i,i≤l.length→Tl fun n=>Ho n l z i:=Ai _ fun i hi ih=>wU (by
  simp only[Ho];have:=hl.le;exact wL (wI (fun h=>wI (fun _=>gs hl (by omega) fun s _ _ _=>c1 (t142 s) fun _ _=>wB (wI (fun _=>wS trivial) fun _=>wi (by omega) (ih (by omega)))) fun _=>e) fun _=>e))
 exact a 0 (Nat.zero_le _)
theorem t246 (s:ByteArray):Tl fun n=>pQ n s:=by unfold pQ;repeat' first | exact wS trivial | with_reducible refine wI (fun _=>?_) fun _=>?_ | with_reducible refine wL ?_ | with_reducible refine wB ?_ | with_reducible refine wT ?_ | with_reducible refine wZ ?_ | with_reducible refine u1 (t142 _) fun _=>?_
theorem t209 (hl:AB Ab 9 l) (z:Int):Tl fun n=>pR n l z:=by
 unfold pR;have e:Tl fun n=>OQ n l z:=wU (by simp only[OQ];repeat' first | exact wS trivial | with_reducible refine wI (fun _=>?_) fun _=>?_ | with_reducible refine wL ?_ | with_reducible refine wB ?_ | with_reducible refine wT ?_ | with_reducible refine wZ ?_)
 have a:∀i,i≤l.length→Tl fun n=>OS n l z i:=Ai _ fun i hi ih=>wU (by
  simp only[OS];have:=hl.le;exact wL (wI (fun h=>wI (fun _=>gs hl (by omega) fun s _ _ _=>c1 (t246 s) fun _ _=>wB (wI (fun _=>wS trivial) fun _=>wi (by omega) (ih (by omega)))) fun _=>e) fun _=>e))
 exact a 0 (Nat.zero_le _)
theorem t210 (hl:AB Ab 9 l) (s:ByteArray):Tl fun n=>Ro n s l:=by unfold Ro;repeat' first | exact wS trivial | with_reducible refine wI (fun _=>?_) fun _=>?_ | with_reducible refine wL ?_ | with_reducible refine wB ?_ | with_reducible refine wT ?_ | with_reducible refine wZ ?_ | with_reducible refine u1 (t142 _) fun _=>?_ | with_reducible refine u1 (t209 hl _) fun _=>?_
theorem t211 (s:ByteArray) (l:List D):Tl fun n=>Rp n s l:=by unfold Rp;repeat' first | exact wS trivial | with_reducible refine wI (fun _=>?_) fun _=>?_ | with_reducible refine wL ?_ | with_reducible refine wB ?_ | with_reducible refine wT ?_ | with_reducible refine wZ ?_
theorem t143 (z1 z2:Int) (s3 s4 s5:ByteArray) (l6 l7:List D) (z8:Int):Tl fun n=>LS n z1 z2 s3 s4 s5 l6 l7 z8:=by unfold LS;repeat' first | exact wS trivial | with_reducible refine wI (fun _=>?_) fun _=>?_ | with_reducible refine wL ?_ | with_reducible refine wB ?_ | with_reducible refine wT ?_ | with_reducible refine wZ ?_
theorem t203 (z1 z2:Int) (s3 s4 s5:ByteArray) (l6 l7:List D) (z8:Int):Tl fun n=>WV n z1 z2 s3 s4 s5 l6 l7 z8:=by
 have h2:∀a b c,Tl fun n=>Ed n a b c:=fun a b c=>wU (by simp only[Ed];repeat' first | exact wS trivial | with_reducible refine wI (fun _=>?_) fun _=>?_ | with_reducible refine wL ?_ | with_reducible refine wB ?_ | with_reducible refine wT ?_ | with_reducible refine wZ ?_)
 have h1:∀a b c,Tl fun n=>FD n z1 z2 s3 s4 a b c:=fun a b c=>wU (by simp only[FD];repeat' first | exact wS trivial | with_reducible refine wI (fun _=>?_) fun _=>?_ | with_reducible refine wL ?_ | with_reducible refine wB ?_ | with_reducible refine wT ?_ | with_reducible refine wZ ?_ | with_reducible refine h2 _ _ _ | with_reducible refine u1 (t142 _) fun _=>?_ | with_reducible refine u1 (t141 _) fun _=>?_)
 unfold WV;repeat' first | exact wS trivial | with_reducible refine wI (fun _=>?_) fun _=>?_ | simp_all | simp_all | simp_all | simp_all | simp_all
theorem t204 (z1 z2:Int) (s3 s4 s5:ByteArray) {l6:List D}(h6:AB Ab 9 l6) (l7:List D) (z8:Int) (b:Bool):Wp (fun n=>WW n z1 z2 s3 s4 s5 l6 l7 z8 b) fun r=>r=true→b=false→z1=19→l7.length≤l6.length:=by
 unfold WW;exact wI (fun h=>c1 (t210 h6 s5) fun _ _=>wS (by simp[h])) fun h=>wI (fun h1=>wI (fun _=>wL (wL (wI (fun h2=>c1 (LX h6 6) fun _ _=>wS fun _ _ _=>by omega) fun _=>wS (by simp)))) fun _=>wS (by simp)) fun h1=>c1 (t211 _ _) fun _ _=>wS (by simp[h1])
end
end Go.Proofs.YtjfmnfncmfepnaaGreatDoor
end
set_option linter.unusedVariables false
noncomputable section
namespace Go.Proofs.YtjfmnfncmfepnaaGreatDoor
open Go Go.AM
theorem drop_at {l:List D}{i:Nat}{x:D}(h:l[i]?=some x):l.drop i=x::l.drop (i+1):=by
 obtain⟨hi,rfl⟩:=List.getElem?_eq_some_iff.1 h;simp_all
inductive DW:List D→Prop
 | nil:DW []
 | cons {op z:Int} {a b c:ByteArray} {p q:List D} {z2:Int} {l:List D} (h:op=19→q.length≤p.length) (hq:DW q) (hl:DW l):DW (.agg [.int .u8 op,.int .i64 z,.str a,.str b,.str c,.list false 1 p,.list true 8 q,.int .i64 z2]::l)
theorem ADo (z:Int):W4 (fun n=>pP n z) fun b _ _ _=>z=19→b=false:=by
 unfold pP
 repeat' first | exact wS (fun e=>by first | rfl | omega) | refine wI (fun _=>?_) fun _=>?_
theorem tC {l7:List D}(h:∀i,i≤l7.length→∀z2 a b c d e f g k m,DQ (fun n=>Gt n l7 z2 i a b c d e f g k m) fun r _ _ _ _ _ _ _ _ _=>r=true→DW (l7.drop i)) (z1 z2:Int) (s3 s4 s5:ByteArray) {l6:List D}(h6:AB Ab 9 l6) (z8 z9:Int):
  Wp (fun n=>GM n z1 z2 s3 s4 s5 l6 l7 z8 z9) fun r=>r=true→(z1=19→l7.length≤l6.length)∧DW l7:=wU (by
 simp only[GM];refine c4 (ADo z1) fun b z11 z12 b13 hb=>wI (fun _=>wS (by simp)) fun _=>wB (wI (fun _=>wS (by simp)) fun _=>u1 (t203 _ _ _ _ _ _ _ _) fun b15=>wB (wI (fun _=>wS (by simp)) fun _=>wL (wI (fun _=>wS (by simp)) fun _=>c1 (t204 z1 z2 s3 s4 s5 h6 l7 z8 b) fun b18 h18=>wB (wI (fun _=>wS (by simp)) fun hb18=>lW (Q:=fun r _ _ _ _ _ _ _ _ _=>r=true→DW l7) (wU (by simp only[ZH];exact h 0 (Nat.zero_le _) _ _ _ _ _ _ _ _ _ _)) fun r _ _ _ _ _ _ _ _ _ hr=>wS fun e=>⟨fun h1=>h18 (by simpa using hb18) (hb h1) h1,hr e⟩))))
 )
theorem t205 (l:List D):AB Ab 54 l→∀i,i≤l.length→∀z2 a b c d e f g k m,DQ (fun n=>Gt n l z2 i a b c d e f g k m) fun r _ _ _ _ _ _ _ _ _=>r=true→DW (l.drop i):=by
 induction l using IQ with | H l IH
 intro hl;refine Ai _ fun i hi ih z2 a b c d e f g k m=>wU ?_
 have hd:=BI l i;have:=hl.le
 have he:(i<l.length→¬(i:Int)<z2)→DQ (fun n=>Hp n l z2 a b c d e f g k m) fun r _ _ _ _ _ _ _ _ _=>r=true→DW (l.drop i):=fun hi=>wU (by
  simp only[Hp];exact wL (wI (fun h=>wS fun _=>by rw[List.drop_eq_nil_of_le (by omega)];exact .nil) fun _=>wS (by simp)))
 simp only[Gt]
 exact wL (wI (fun h=>wI (fun _=>Ub hl (by omega) fun z1 z3 s1 s2 s3 p q z4 hx hw _ _ _ _ _ hp hq _=>
  lW (Q:=fun r _ _ _ _ _ _ _ _ _=>r=true→(z1=19→q.length≤p.length)∧DW q) (wU (by
   have t:=fun z9=>tC (IH q (by omega) hq) z1 z3 s1 s2 s3 hp z4 z9
   simp only[ZG]
   exact wI (fun _=>wT (c1 (t _) fun _ hr=>wS hr)) fun _=>u1 (t143 _ _ _ _ _ _ _ _) fun _=>wB (wI (fun _=>wT (c1 (t _) fun _ hr=>wS hr)) fun _=>wS (by simp)))) fun r _ _ _ _ _ _ _ _ _ hr=>wB (wI (fun _=>wS (by simp)) fun hb=>wi (by omega) (wM (ih (by omega) _ _ _ _ _ _ _ _ _ _) fun r2 h2 e=>by
    have hr:=hr (by simpa using hb)
    rw[drop_at hx];exact .cons hr.1 hr.2 (h2 e)))) fun h=>he fun _=>h) fun h=>he fun h2=>(h (by omega)).elim)
theorem t144 {l6 l7:List D}(h6:AB Ab 9 l6) (h7:AB Ab 54 l7) (z1 z2:Int) (s3 s4 s5:ByteArray) (z8 z9:Int):Wp (fun n=>GM n z1 z2 s3 s4 s5 l6 l7 z8 z9) fun r=>r=true→(z1=19→l7.length≤l6.length)∧DW l7:=tC (t205 l7 h7) z1 z2 s3 s4 s5 h6 z8 z9
end Go.Proofs.YtjfmnfncmfepnaaGreatDoor
end
set_option linter.unusedVariables false
noncomputable section
namespace Go.Proofs.YtjfmnfncmfepnaaGreatDoor
open Go Go.AM
section
variable {p q:List D}
theorem t213 (hp:AB Ab 9 p) (hq:AB Ab 54 q) (z1 z3:Int) (s1 s2 s3:ByteArray) (z4 z9 z10:Int) (b11 b12 b13 b14 b15 b16:Bool) (m:Int):DQ (fun n=>WX n z1 z3 s1 s2 s3 p q z4 z9 z10 b11 b12 b13 b14 b15 b16 m) fun r _ _ _ _ _ _ _ _ w=>w=m∧(r=true→(z1=19→q.length≤p.length)∧DW q):=by
 have t:=fun y=>t144 hp hq z1 z3 s1 s2 s3 z4 y
 unfold WX;exact wI (fun _=>wT (c1 (t _) fun _ hr=>wS ⟨rfl,hr⟩)) fun _=>u1 (t143 _ _ _ _ _ _ _ _) fun _=>wB (wI (fun _=>wT (c1 (t _) fun _ hr=>wS ⟨rfl,hr⟩)) fun _=>wS (by simp))
variable {l:List D}
theorem yP (hl:AB Ab 54 l) (z2 a b:Int) (c d e f g k:Bool) (m:Int):DQ (fun n=>JY n l z2 a b c d e f g k m) fun r _ _ _ _ _ _ _ _ w=>w=m∧(r=true→DW l):=by
 have he:∀i,(i<l.length→¬(i:Int)<z2)→∀a b c d e f g k m,DQ (fun n=>EJ n l z2 a b c d e f g k m) fun r _ _ _ _ _ _ _ _ w=>w=m∧(r=true→DW (l.drop i)):=fun i hi a b c d e f g k m=>wU (by
  simp only[EJ];exact wL (wI (fun h=>wS ⟨rfl,fun _=>by rw[List.drop_eq_nil_of_le (by omega)];exact .nil⟩) fun _=>wS (by simp)))
 have main:∀i,i≤l.length→∀a b c d e f g k m,DQ (fun n=>EK n l z2 i a b c d e f g k m) fun r _ _ _ _ _ _ _ _ w=>w=m∧(r=true→DW (l.drop i)):=Ai _ fun i hi ih a b c d e f g k m=>wU (by
  have:=hl.le;simp only[EK]
  exact wL (wI (fun h=>wI (fun _=>Ub hl (by omega) fun z1 z3 s1 s2 s3 p q z4 hx hw _ _ _ _ _ hp hq _=>
   lW (t213 hp hq z1 z3 s1 s2 s3 z4 a b c d e f g k m) fun r _ _ _ _ _ _ _ _ w hr=>wB (wI (fun _=>wS ⟨hr.1,by simp⟩) fun hb=>wi (by omega) (wM (ih (by omega) _ _ _ _ _ _ _ _ _) fun r2 h2=>⟨h2.1.trans hr.1,fun e=>by
     have hr:=hr.2 (by simpa using hb)
     rw[drop_at hx];exact .cons hr.1 hr.2 (h2.2 e)⟩))) fun h=>he i (fun _=>h) _ _ _ _ _ _ _ _ _) fun h=>he i (fun h2=>(h (by omega)).elim) _ _ _ _ _ _ _ _ _))
 unfold JY;exact main 0 (Nat.zero_le _) _ _ _ _ _ _ _ _ _
theorem yQ (hp:AB Ab 9 p) (hq:AB Ab 54 q) (z1 z3:Int) (s1 s2 s3:ByteArray) (z4 z9 z10:Int) (b11 b12 b13 b14 b15 b16:Bool) (m:Int):DQ (fun n=>JZ n z1 z3 s1 s2 s3 p q z4 z9 z10 b11 b12 b13 b14 b15 b16 m) fun r _ _ _ _ _ _ _ _ w=>w=m∧(r=true→(z1=19→q.length≤p.length)∧DW q):=by
 have t:=fun y=>t144 hp hq z1 z3 s1 s2 s3 z4 y
 unfold JZ;exact wI (fun _=>wT (c1 (t _) fun _ hr=>wS ⟨rfl,hr⟩)) fun _=>u1 (t143 _ _ _ _ _ _ _ _) fun _=>wB (wI (fun _=>wT (c1 (t _) fun _ hr=>wS ⟨rfl,hr⟩)) fun _=>wS (by simp))
theorem yR (hl:AB Ab 54 l) (z2 a b:Int) (c d e f g k:Bool) (m:Int):DQ (fun n=>Ja n l z2 a b c d e f g k m) fun r _ _ _ _ _ _ _ _ w=>w=m∧(r=true→DW l):=by
 have he:∀i,(i<l.length→¬(i:Int)<z2)→∀a b c d e f g k m,DQ (fun n=>EL n l z2 a b c d e f g k m) fun r _ _ _ _ _ _ _ _ w=>w=m∧(r=true→DW (l.drop i)):=fun i hi a b c d e f g k m=>wU (by
  simp only[EL];exact wL (wI (fun h=>wS ⟨rfl,fun _=>by rw[List.drop_eq_nil_of_le (by omega)];exact .nil⟩) fun _=>wS (by simp)))
 have main:∀i,i≤l.length→∀a b c d e f g k m,DQ (fun n=>EM n l z2 i a b c d e f g k m) fun r _ _ _ _ _ _ _ _ w=>w=m∧(r=true→DW (l.drop i)):=Ai _ fun i hi ih a b c d e f g k m=>wU (by
  have:=hl.le;simp only[EM]
  exact wL (wI (fun h=>wI (fun _=>Ub hl (by omega) fun z1 z3 s1 s2 s3 p q z4 hx hw _ _ _ _ _ hp hq _=>
   lW (yQ hp hq z1 z3 s1 s2 s3 z4 a b c d e f g k m) fun r _ _ _ _ _ _ _ _ w hr=>wB (wI (fun _=>wS ⟨hr.1,by simp⟩) fun hb=>wi (by omega) (wM (ih (by omega) _ _ _ _ _ _ _ _ _) fun r2 h2=>⟨h2.1.trans hr.1,fun e=>by
     have hr:=hr.2 (by simpa using hb)
     rw[drop_at hx];exact .cons hr.1 hr.2 (h2.2 e)⟩))) fun h=>he i (fun _=>h) _ _ _ _ _ _ _ _ _) fun h=>he i (fun h2=>(h (by omega)).elim) _ _ _ _ _ _ _ _ _))
 unfold Ja;exact main 0 (Nat.zero_le _) _ _ _ _ _ _ _ _ _
theorem yS (hp:AB Ab 9 p) (hq:AB Ab 54 q) (z1 z3:Int) (s1 s2 s3:ByteArray) (z4 z9 z10:Int) (b11 b12 b13 b14 b15 b16:Bool) (m:Int):DQ (fun n=>Jb n z1 z3 s1 s2 s3 p q z4 z9 z10 b11 b12 b13 b14 b15 b16 m) fun r _ _ _ _ _ _ _ _ w=>w=m∧(r=true→(z1=19→q.length≤p.length)∧DW q):=by
 have t:=fun y=>t144 hp hq z1 z3 s1 s2 s3 z4 y
 unfold Jb;exact wI (fun _=>wT (c1 (t _) fun _ hr=>wS ⟨rfl,hr⟩)) fun _=>u1 (t143 _ _ _ _ _ _ _ _) fun _=>wB (wI (fun _=>wT (c1 (t _) fun _ hr=>wS ⟨rfl,hr⟩)) fun _=>wS (by simp))
theorem yT (hl:AB Ab 54 l) (z2 a b:Int) (c d e f g k:Bool) (m:Int):DQ (fun n=>Jc n l z2 a b c d e f g k m) fun r _ _ _ _ _ _ _ _ w=>w=m∧(r=true→DW l):=by
 have he:∀i,(i<l.length→¬(i:Int)<z2)→∀a b c d e f g k m,DQ (fun n=>EN n l z2 a b c d e f g k m) fun r _ _ _ _ _ _ _ _ w=>w=m∧(r=true→DW (l.drop i)):=fun i hi a b c d e f g k m=>wU (by
  simp only[EN];exact wL (wI (fun h=>wS ⟨rfl,fun _=>by rw[List.drop_eq_nil_of_le (by omega)];exact .nil⟩) fun _=>wS (by simp)))
 have main:∀i,i≤l.length→∀a b c d e f g k m,DQ (fun n=>EO n l z2 i a b c d e f g k m) fun r _ _ _ _ _ _ _ _ w=>w=m∧(r=true→DW (l.drop i)):=Ai _ fun i hi ih a b c d e f g k m=>wU (by
  have:=hl.le;simp only[EO]
  exact wL (wI (fun h=>wI (fun _=>Ub hl (by omega) fun z1 z3 s1 s2 s3 p q z4 hx hw _ _ _ _ _ hp hq _=>
   lW (yS hp hq z1 z3 s1 s2 s3 z4 a b c d e f g k m) fun r _ _ _ _ _ _ _ _ w hr=>wB (wI (fun _=>wS ⟨hr.1,by simp⟩) fun hb=>wi (by omega) (wM (ih (by omega) _ _ _ _ _ _ _ _ _) fun r2 h2=>⟨h2.1.trans hr.1,fun e=>by
     have hr:=hr.2 (by simpa using hb)
     rw[drop_at hx];exact .cons hr.1 hr.2 (h2.2 e)⟩))) fun h=>he i (fun _=>h) _ _ _ _ _ _ _ _ _) fun h=>he i (fun h2=>(h (by omega)).elim) _ _ _ _ _ _ _ _ _))
 unfold Jc;exact main 0 (Nat.zero_le _) _ _ _ _ _ _ _ _ _
theorem yU (hp:AB Ab 9 p) (hq:AB Ab 54 q) (z1 z3:Int) (s1 s2 s3:ByteArray) (z4 z9 z10:Int) (b11 b12 b13 b14 b15 b16:Bool) (m:Int):DQ (fun n=>Jd n z1 z3 s1 s2 s3 p q z4 z9 z10 b11 b12 b13 b14 b15 b16 m) fun r _ _ _ _ _ _ _ _ w=>w=m∧(r=true→(z1=19→q.length≤p.length)∧DW q):=by
 have t:=fun y=>t144 hp hq z1 z3 s1 s2 s3 z4 y
 unfold Jd;exact wI (fun _=>wT (c1 (t _) fun _ hr=>wS ⟨rfl,hr⟩)) fun _=>u1 (t143 _ _ _ _ _ _ _ _) fun _=>wB (wI (fun _=>wT (c1 (t _) fun _ hr=>wS ⟨rfl,hr⟩)) fun _=>wS (by simp))
theorem yV (hl:AB Ab 54 l) (z2 a b:Int) (c d e f g k:Bool) (m:Int):DQ (fun n=>Je n l z2 a b c d e f g k m) fun r _ _ _ _ _ _ _ _ w=>w=m∧(r=true→DW l):=by
 have he:∀i,(i<l.length→¬(i:Int)<z2)→∀a b c d e f g k m,DQ (fun n=>EP n l z2 a b c d e f g k m) fun r _ _ _ _ _ _ _ _ w=>w=m∧(r=true→DW (l.drop i)):=fun i hi a b c d e f g k m=>wU (by
  simp only[EP];exact wL (wI (fun h=>wS ⟨rfl,fun _=>by rw[List.drop_eq_nil_of_le (by omega)];exact .nil⟩) fun _=>wS (by simp)))
 have main:∀i,i≤l.length→∀a b c d e f g k m,DQ (fun n=>ER n l z2 i a b c d e f g k m) fun r _ _ _ _ _ _ _ _ w=>w=m∧(r=true→DW (l.drop i)):=Ai _ fun i hi ih a b c d e f g k m=>wU (by
  have:=hl.le;simp only[ER]
  exact wL (wI (fun h=>wI (fun _=>Ub hl (by omega) fun z1 z3 s1 s2 s3 p q z4 hx hw _ _ _ _ _ hp hq _=>
   lW (yU hp hq z1 z3 s1 s2 s3 z4 a b c d e f g k m) fun r _ _ _ _ _ _ _ _ w hr=>wB (wI (fun _=>wS ⟨hr.1,by simp⟩) fun hb=>wi (by omega) (wM (ih (by omega) _ _ _ _ _ _ _ _ _) fun r2 h2=>⟨h2.1.trans hr.1,fun e=>by
     have hr:=hr.2 (by simpa using hb)
     rw[drop_at hx];exact .cons hr.1 hr.2 (h2.2 e)⟩))) fun h=>he i (fun _=>h) _ _ _ _ _ _ _ _ _) fun h=>he i (fun h2=>(h (by omega)).elim) _ _ _ _ _ _ _ _ _))
 unfold Je;exact main 0 (Nat.zero_le _) _ _ _ _ _ _ _ _ _
theorem yW (hp:AB Ab 9 p) (hq:AB Ab 54 q) (z1 z3:Int) (s1 s2 s3:ByteArray) (z4 z9 z10:Int) (b11 b12 b13 b14 b15 b16:Bool) (m:Int):DQ (fun n=>Jf n z1 z3 s1 s2 s3 p q z4 z9 z10 b11 b12 b13 b14 b15 b16 m) fun r _ _ _ _ _ _ _ _ w=>w=m∧(r=true→(z1=19→q.length≤p.length)∧DW q):=by
 have t:=fun y=>t144 hp hq z1 z3 s1 s2 s3 z4 y
 unfold Jf;exact wI (fun _=>wT (c1 (t _) fun _ hr=>wS ⟨rfl,hr⟩)) fun _=>u1 (t143 _ _ _ _ _ _ _ _) fun _=>wB (wI (fun _=>wT (c1 (t _) fun _ hr=>wS ⟨rfl,hr⟩)) fun _=>wS (by simp))
theorem yX (hl:AB Ab 54 l) (z2 a b:Int) (c d e f g k:Bool) (m:Int):DQ (fun n=>Jg n l z2 a b c d e f g k m) fun r _ _ _ _ _ _ _ _ w=>w=m∧(r=true→DW l):=by
 have he:∀i,(i<l.length→¬(i:Int)<z2)→∀a b c d e f g k m,DQ (fun n=>ES n l z2 a b c d e f g k m) fun r _ _ _ _ _ _ _ _ w=>w=m∧(r=true→DW (l.drop i)):=fun i hi a b c d e f g k m=>wU (by
  simp only[ES];exact wL (wI (fun h=>wS ⟨rfl,fun _=>by rw[List.drop_eq_nil_of_le (by omega)];exact .nil⟩) fun _=>wS (by simp)))
 have main:∀i,i≤l.length→∀a b c d e f g k m,DQ (fun n=>ET n l z2 i a b c d e f g k m) fun r _ _ _ _ _ _ _ _ w=>w=m∧(r=true→DW (l.drop i)):=Ai _ fun i hi ih a b c d e f g k m=>wU (by
  have:=hl.le;simp only[ET]
  exact wL (wI (fun h=>wI (fun _=>Ub hl (by omega) fun z1 z3 s1 s2 s3 p q z4 hx hw _ _ _ _ _ hp hq _=>
   lW (yW hp hq z1 z3 s1 s2 s3 z4 a b c d e f g k m) fun r _ _ _ _ _ _ _ _ w hr=>wB (wI (fun _=>wS ⟨hr.1,by simp⟩) fun hb=>wi (by omega) (wM (ih (by omega) _ _ _ _ _ _ _ _ _) fun r2 h2=>⟨h2.1.trans hr.1,fun e=>by
     have hr:=hr.2 (by simpa using hb)
     rw[drop_at hx];exact .cons hr.1 hr.2 (h2.2 e)⟩))) fun h=>he i (fun _=>h) _ _ _ _ _ _ _ _ _) fun h=>he i (fun h2=>(h (by omega)).elim) _ _ _ _ _ _ _ _ _))
 unfold Jg;exact main 0 (Nat.zero_le _) _ _ _ _ _ _ _ _ _
mutual
/-- Whole statements, as far as it matters: blocks stand where they may, at most so deep. -/
inductive DX:Nat→List D→Prop
 | nil {d:Nat}:DX d []
 | cons {d:Nat} {op k z z2:Int} {s1 s2 s3 s4:ByteArray} {ns ty path ex body els arms l:List D} (h1:op=7→1≤ex.length) (h2:op≠6→op≠7→op≠9→op≠10→op≠11→op≠13→body=[]) (h3:op≠6→els=[]) (h4:op≠8→arms=[])
   (he:DW ex) (hb:DX d body) (hs:DX d els) (ha:Kg d arms) (hl:DX (d+1) l):DX (d+1) (.agg [.int .u8 op,.str s1,.str s2,.list false 1 ns,.int .u8 k,.str s3,.list true 3 ty,.int .i64 z,.str s4,.list false 1 path,.list true 8 ex,.list true 15 body,.list true 15 els,.list true 3 arms,.int .i64 z2]::l)
inductive Kg:Nat→List D→Prop
 | nil {d:Nat}:Kg d []
 | cons {d:Nat} {s1 s2:ByteArray} {b l:List D} (hb:DX d b) (hl:Kg d l):Kg d (.agg [.str s1,.str s2,.list true 15 b]::l)
end
def ZQ (op:Int):((Int×Int×Bool×Bool×Bool×Bool×Bool) ⊕ ((Int×Bool×Bool×Bool) ⊕ ((Unit) ⊕ ((Unit) ⊕ (Unit)))))→Prop
 | .inl (_,z,_,b,o,_,k)=>k=true→op≠8∧(op=7→z=1)∧(b=true→op=6∨op=7∨op=9∨op=10∨op=13)∧(o=true→op=6)
 | .inr (.inl (_,_,b,_))=>op≠6∧op≠7∧op≠8∧(b=true→op=11)
 | .inr (.inr (.inl _))=>op=2
 | .inr (.inr (.inr (.inl _)))=>op=8
 | .inr (.inr (.inr (.inr _)))=>op=12
theorem t207 (z1:Int) (s2 s3:ByteArray) (l4:List D) (z5:Int) (s6:ByteArray) (l7:List D) (z8:Int) (s9:ByteArray) (l10 l11 l12 l13 l14:List D) (z15:Int):Wp (fun n=>WY n z1 s2 s3 l4 z5 s6 l7 z8 s9 l10 l11 l12 l13 l14 z15) (ZQ z1):=by
 unfold WY
 repeat' first | refine wI (fun _=>?_) fun _=>?_ | refine wL ?_ | exact wS (by unfold ZQ;simp;omega) | exact wS (by unfold ZQ;simp)
theorem t208 (z1:Int) (s2 s3:ByteArray) (l4:List D) (z5:Int) (s6:ByteArray) (l7:List D) (z8:Int) (s9:ByteArray) (l10 l11 l12 l13 l14:List D) (z15:Int):Tl fun n=>OT n z1 s2 s3 l4 z5 s6 l7 z8 s9 l10 l11 l12 l13 l14 z15:=by unfold OT;repeat' first | exact wS trivial | with_reducible refine wI (fun _=>?_) fun _=>?_ | with_reducible refine wL ?_ | with_reducible refine wB ?_ | with_reducible refine wT ?_ | with_reducible refine wZ ?_
theorem t245 (s:ByteArray):Tl fun n=>WZ n s:=by unfold WZ;repeat' first | exact wS trivial | with_reducible refine wI (fun _=>?_) fun _=>?_ | with_reducible refine wL ?_ | with_reducible refine wB ?_ | with_reducible refine wT ?_ | with_reducible refine wZ ?_
end
end Go.Proofs.YtjfmnfncmfepnaaGreatDoor
end
set_option linter.unusedVariables false
noncomputable section
namespace Go.Proofs.YtjfmnfncmfepnaaGreatDoor
open Go Go.AM
def mX (y:Int) (op:Int) (ex body els arms:List D):Prop:=1≤y∧(op=7→1≤ex.length)∧(op≠6→op≠7→op≠9→op≠10→op≠11→op≠13→body=[])∧(op≠6→els=[])∧(op≠8→arms=[])∧DW ex∧DX y.toNat body∧DX y.toNat els∧Kg y.toNat arms
section
variable {body els arms ex:List D}{y:Int}
def Bl (body els arms:List D) (y:Int):Prop:=(∀z,W2 (fun n=>Bu n body z y) fun r w=>w=y∧(r=true→DX y.toNat body))∧(∀z,W2 (fun n=>Bu n els z y) fun r w=>w=y∧(r=true→DX y.toNat els))∧∀z,W2 (fun n=>Jh n arms z y) fun r w=>w=y∧(r=true→Kg y.toNat arms)
theorem Ka (h:Bl body els arms y) {A:Nat→Option (Bool×Int×Int×Bool×Bool×Bool×Bool×Bool×Bool×Int)}(hA:DQ A fun r _ _ _ _ _ _ _ _ w=>w=y∧(r=true→DW ex)):
  Wp (fun n=>BO (A n) fun b _ _ _ _ _ _ _ _ z=>(if b=true then AO body fun z1=>Im (Bu n body z1 z) fun b1 z2=>(if b1=true then AO els fun z3=>Im (Bu n els z3 z2) fun b2 z4=>(if b2=true then Im (Jh n arms 6 z4) fun b3 z5=>some b3 else some false)else some false)else some false)) fun r=>r=true→DW ex∧DX y.toNat body∧DX y.toNat els∧Kg y.toNat arms:=by
 refine lW hA fun b _ _ _ _ _ _ _ _ z ⟨hz,hb⟩=>?_
 subst hz;refine wI (fun e=>wL (c2 (h.1 _) fun b1 z2 ⟨hz2,h2⟩=>wI (fun e1=>wL ?_) fun _=>wS (by simp))) fun _=>wS (by simp)
 subst hz2;refine c2 (h.2.1 _) fun b2 z4 ⟨hz4,h4⟩=>wI (fun e2=>?_) fun _=>wS (by simp)
 subst hz4;exact c2 (h.2.2 _) fun b3 z5 ⟨_,h5⟩=>wS fun e3=>⟨hb e,h2 e1,h4 e2,h5 e3⟩
theorem Fu {l:List D}(h:¬(0:Int)<l.length):l=[]:=List.eq_nil_of_length_eq_zero (by omega)
theorem t147 (h:Bl body els arms y) (h16:y≤40) (op:Int) (s2 s3:ByteArray) {ns:List D}(h4:AB Ab 9 ns) (k:Int) (s6:ByteArray) {ty:List D}(h7:AB Ab 48 ty) (z8:Int) (s9:ByteArray) {pa:List D}(h10:AB Ab 9 pa) (hex:AB Ab 54 ex) (z15:Int):
  Wp (fun n=>O5 n op s2 s3 ns k s6 ty z8 s9 pa ex body els arms z15 y) fun r=>r=true→mX y op ex body els arms:=wU (by
 simp only[O5]
 have h2:∀z17 z18 b19 b20 b21 b22,Wp (fun n=>Fo n ex body els arms y z17 z18 b19 b20 b21 b22) fun r=>r=true→DW ex∧DX y.toNat body∧DX y.toNat els∧Kg y.toNat arms:=fun _ _ _ _ _ _=>wU (by
  simp only[Fo];exact Ka h (yP hex _ _ _ _ _ _ _ _ _ _))
 have h1:∀z17 z18 b19 b20 b21 b22,Wp (fun n=>Hq n ex body els arms y z17 z18 b19 b20 b21 b22) fun r=>r=true→(b20=false→body=[])∧(b21=false→els=[])∧arms=[]∧DW ex∧DX y.toNat body∧DX y.toNat els∧Kg y.toNat arms:=fun _ _ _ b20 b21 _=>wU (by
  simp only[Hq];refine wB (wI (fun h20=>wL (wI (fun _=>wS (by simp)) fun e1=>wB (wI (fun h21=>wL (wI (fun _=>wS (by simp)) fun e2=>wL (wI (fun _=>wS (by simp)) fun e3=>?_))) fun h21=>wL (wI (fun _=>wS (by simp)) fun e3=>?_)))) fun h20=>wB (wI (fun h21=>wL (wI (fun _=>wS (by simp)) fun e2=>wL (wI (fun _=>wS (by simp)) fun e3=>?_))) fun h21=>wL (wI (fun _=>wS (by simp)) fun e3=>?_)))
  ·exact wM (h2 _ _ _ _ _ _) fun r hr e=>⟨fun _=>Fu e1,fun _=>Fu e2,Fu e3,hr e⟩
  ·exact wM (h2 _ _ _ _ _ _) fun r hr e=>⟨fun _=>Fu e1,fun q=>by simp[q]at h21,Fu e3,hr e⟩
  ·exact wM (h2 _ _ _ _ _ _) fun r hr e=>⟨fun q=>by simp[q]at h20,fun _=>Fu e2,Fu e3,hr e⟩
  ·exact wM (h2 _ _ _ _ _ _) fun r hr e=>⟨fun q=>by simp[q]at h20,fun q=>by simp[q]at h21,Fu e3,hr e⟩)
 have h4':∀z24 b25 b26 b27,Wp (fun n=>Ht n ex body els arms y z24 b25 b26 b27) fun r=>r=true→DW ex∧DX y.toNat body∧DX y.toNat els∧Kg y.toNat arms:=fun _ _ _ _=>wU (by
  simp only[Ht];exact Ka h (yR hex _ _ _ _ _ _ _ _ _ _))
 have h3:∀z24 b25 b26 b27,Wp (fun n=>Hr n ex body els arms y z24 b25 b26 b27) fun r=>r=true→(b26=false→body=[])∧els=[]∧arms=[]∧DW ex∧DX y.toNat body∧DX y.toNat els∧Kg y.toNat arms:=fun _ _ b26 _=>wU (by
  simp only[Hr];refine wB (wI (fun h20=>wL (wI (fun _=>wS (by simp)) fun e1=>wL (wI (fun _=>wS (by simp)) fun e2=>wL (wI (fun _=>wS (by simp)) fun e3=>?_)))) fun h20=>wL (wI (fun _=>wS (by simp)) fun e2=>wL (wI (fun _=>wS (by simp)) fun e3=>?_)))
  ·exact wM (h4' _ _ _ _) fun r hr e=>⟨fun _=>Fu e1,Fu e2,Fu e3,hr e⟩
  ·exact wM (h4' _ _ _ _) fun r hr e=>⟨fun q=>by simp[q]at h20,Fu e2,Fu e3,hr e⟩)
 have o1:∀{Q:Prop} {b:Bool},¬(!b)=true→(b=true→Q)→Q:=fun h q=>q (by simpa using h)
 refine qC (t207 ..) (fun p hQ=>?_) fun q hQ=>qC (Q:=fun x=>ZQ op (.inr x)) ⟨q,.ret,hQ⟩ (fun p hQ=>?_) fun q hQ=>qC (Q:=fun x=>ZQ op (.inr (.inr x))) ⟨q,.ret,hQ⟩ (fun p hQ=>?_) fun q hQ=>qC (Q:=fun x=>ZQ op (.inr (.inr (.inr x)))) ⟨q,.ret,hQ⟩ (fun p hQ=>?_) fun p hQ=>?_
 ·obtain⟨z17,z18,b19,b20,b21,b22,b23⟩:=p;show Wp (fun n=>if y<1 then some false else _) _
  refine wI (fun _=>wS (by simp)) fun hy=>wB (wI (fun _=>wS (by simp)) fun h23=>u1 (t208 ..) fun _=>wB (wI (fun _=>wS (by simp)) fun _=>u1 (t245 _) fun _=>wB (wI (fun _=>wS (by simp)) fun _=>u1 (t245 _) fun _=>wB (wI (fun _=>wS (by simp)) fun _=>wL (wI (fun hlen=>?_) fun _=>wS (by simp))))))
  obtain⟨q1,q2,q3,q4⟩:=hQ (by simpa using h23)
  dsimp only at hlen
  have fin:∀r,(r=true→(b20=false→body=[])∧(b21=false→els=[])∧arms=[]∧DW ex∧DX y.toNat body∧DX y.toNat els∧Kg y.toNat arms)→r=true→mX y op ex body els arms:=fun r hr e=>by
   obtain⟨r1,r2,r3,r4,r5,r6,r7⟩:=hr e;refine⟨by omega,fun h7=>by have:=q2 h7;omega,fun a1 a2 a3 a4 a5 a6=>?_,fun a1=>?_,fun _=>r3,r4,r5,r6,r7⟩
   ·grind
   grind
  repeat' first | exact wS trivial | with_reducible refine wI (fun _=>?_) fun _=>?_ | with_reducible refine wL ?_ | with_reducible refine wB ?_ | with_reducible refine wT ?_ | with_reducible refine wZ ?_ | with_reducible refine u1 (LX h4 _) fun _=>?_ | with_reducible refine u1 (t139 h7 _ _ _) fun _=>?_ | with_reducible refine u1 (t138 _ _ _) fun _=>?_ | with_reducible refine u1 (t210 h10 _) fun _=>?_ | with_reducible refine u1 (t211 _ _) fun _=>?_ | with_reducible refine wM (h1 _ _ _ _ _ _) fin | with_reducible refine wS (by simp)
 ·obtain⟨z24,b25,b26,b27⟩:=p;obtain⟨q1,q2,q3,q4⟩:=hQ;show Wp (fun n=>if y<1 then some false else _) _
  refine wI (fun _=>wS (by simp)) fun hy=>?_
  have fin:∀r,(r=true→(b26=false→body=[])∧els=[]∧arms=[]∧DW ex∧DX y.toNat body∧DX y.toNat els∧Kg y.toNat arms)→r=true→mX y op ex body els arms:=fun r hr e=>by
   obtain⟨r1,r2,r3,r4,r5,r6,r7⟩:=hr e;refine⟨by omega,fun h7=>absurd h7 q2,fun a1 a2 a3 a4 a5 a6=>?_,fun _=>r2,fun _=>r3,r4,r5,r6,r7⟩
   grind
  repeat' first | exact wS trivial | with_reducible refine wI (fun _=>?_) fun _=>?_ | with_reducible refine wL ?_ | with_reducible refine wB ?_ | with_reducible refine wT ?_ | with_reducible refine wZ ?_ | with_reducible refine u1 (t208 ..) fun _=>?_ | with_reducible refine u1 (t142 _) fun _=>?_ | with_reducible refine u1 (t245 _) fun _=>?_ | with_reducible refine u1 (LX h4 _) fun _=>?_ | with_reducible refine u1 (t139 h7 _ _ _) fun _=>?_ | with_reducible refine u1 (t138 _ _ _) fun _=>?_ | with_reducible refine u1 (t210 h10 _) fun _=>?_ | with_reducible refine u1 (t211 _ _) fun _=>?_ | with_reducible refine wM (h3 _ _ _ _) fin | with_reducible refine wS (by simp)
 ·have hQ:op=2:=hQ;refine wI (fun _=>wS (by simp)) fun hy=>?_
  have fin:∀{r:Bool},¬(0:Int)<body.length→¬(0:Int)<els.length→¬(0:Int)<arms.length→(r=true→DW ex∧DX y.toNat body∧DX y.toNat els∧Kg y.toNat arms)→r=true→mX y op ex body els arms:=fun e1 e2 e3 hr e=>⟨by omega,fun h7=>by omega,fun _ _ _ _ _ _=>Fu e1,fun _=>Fu e2,fun _=>Fu e3,hr e⟩
  repeat' first | exact wS trivial | with_reducible refine wI (fun _=>?_) fun _=>?_ | with_reducible refine wL ?_ | with_reducible refine wB ?_ | with_reducible refine wT ?_ | with_reducible refine wZ ?_ | with_reducible refine u1 (t208 ..) fun _=>?_ | with_reducible refine u1 (t141 _) fun _=>?_ | with_reducible refine u1 (t245 _) fun _=>?_ | with_reducible refine u1 (LX h4 _) fun _=>?_ | with_reducible refine u1 (t139 h7 _ _ _) fun _=>?_ | with_reducible refine u1 (t138 _ _ _) fun _=>?_ | with_reducible refine u1 (t210 h10 _) fun _=>?_ | with_reducible refine u1 (t211 _ _) fun _=>?_ | with_reducible refine wM (Ka h (yT hex _ _ _ _ _ _ _ _ _ _)) fun r hr=>fin ‹_› ‹_› ‹_› hr | with_reducible refine wS (by simp)
 ·have hQ:op=8:=hQ;refine wI (fun _=>wS (by simp)) fun hy=>?_
  have fin:∀{r:Bool},¬(0:Int)<body.length→¬(0:Int)<els.length→(r=true→DW ex∧DX y.toNat body∧DX y.toNat els∧Kg y.toNat arms)→r=true→mX y op ex body els arms:=fun e1 e2 hr e=>⟨by omega,fun h7=>by omega,fun _ _ _ _ _ _=>Fu e1,fun _=>Fu e2,fun h=>absurd hQ h,hr e⟩
  repeat' first | exact wS trivial | with_reducible refine wI (fun _=>?_) fun _=>?_ | with_reducible refine wL ?_ | with_reducible refine wB ?_ | with_reducible refine wT ?_ | with_reducible refine wZ ?_ | with_reducible refine u1 (t208 ..) fun _=>?_ | with_reducible refine u1 (t142 _) fun _=>?_ | with_reducible refine u1 (t141 _) fun _=>?_ | with_reducible refine u1 (LX h4 _) fun _=>?_ | with_reducible refine u1 (t139 h7 _ _ _) fun _=>?_ | with_reducible refine u1 (t138 _ _ _) fun _=>?_ | with_reducible refine u1 (t210 h10 _) fun _=>?_ | with_reducible refine u1 (t211 _ _) fun _=>?_ | with_reducible refine wM (Ka h (yV hex _ _ _ _ _ _ _ _ _ _)) fun r hr=>fin ‹_› ‹_› hr | with_reducible refine wS (by simp)
 ·have hQ:op=12:=hQ;refine wI (fun _=>wS (by simp)) fun hy=>?_
  have fin:∀{r:Bool},¬(0:Int)<body.length→¬(0:Int)<els.length→¬(0:Int)<arms.length→(r=true→DW ex∧DX y.toNat body∧DX y.toNat els∧Kg y.toNat arms)→r=true→mX y op ex body els arms:=fun e1 e2 e3 hr e=>⟨by omega,fun h7=>by omega,fun _ _ _ _ _ _=>Fu e1,fun _=>Fu e2,fun _=>Fu e3,hr e⟩
  repeat' first | exact wS trivial | with_reducible refine wI (fun _=>?_) fun _=>?_ | with_reducible refine wL ?_ | with_reducible refine wB ?_ | with_reducible refine wT ?_ | with_reducible refine wZ ?_ | with_reducible refine u1 (t208 ..) fun _=>?_ | with_reducible refine u1 (t142 _) fun _=>?_ | with_reducible refine u1 (LX h4 _) fun _=>?_ | with_reducible refine u1 (t139 h7 _ _ _) fun _=>?_ | with_reducible refine u1 (t138 _ _ _) fun _=>?_ | with_reducible refine u1 (t210 h10 _) fun _=>?_ | with_reducible refine u1 (t211 _ _) fun _=>?_ | with_reducible refine wM (Ka h (yX hex _ _ _ _ _ _ _ _ _ _)) fun r hr=>fin ‹_› ‹_› ‹_› hr | with_reducible refine wS (by simp))
end
end Go.Proofs.YtjfmnfncmfepnaaGreatDoor
end
set_option linter.unusedVariables false
noncomputable section
namespace Go.Proofs.YtjfmnfncmfepnaaGreatDoor
open Go Go.AM
section
variable {y:Int}{l:List D}
theorem Uc {op k z z2:Int}{s1 s2 s3 s4:ByteArray}{ns ty path ex body els arms:List D}(h:mX (y - 1) op ex body els arms) (hl:DX y.toNat l):DX y.toNat (.agg [.int .u8 op,.str s1,.str s2,.list false 1 ns,.int .u8 k,.str s3,.list true 3 ty,.int .i64 z,.str s4,.list false 1 path,.list true 8 ex,.list true 15 body,.list true 15 els,.list true 3 arms,.int .i64 z2]::l):=by
 obtain⟨h0,h1,h2,h3,h4,h5,h6,h7,h8⟩:=h;have e:y.toNat=(y - 1).toNat+1:=by omega
 rw[e]at hl ⊢;exact .cons h1 h2 h3 h4 h5 h6 h7 h8 hl
theorem ADp (hy:y<1) (op:Int) (s2 s3:ByteArray) (ns:List D) (k:Int) (s6:ByteArray) (ty:List D) (z8:Int) (s9:ByteArray) (pa ex body els arms:List D) (z15:Int):
  Wp (fun n=>O5 n op s2 s3 ns k s6 ty z8 s9 pa ex body els arms z15 y) fun r=>r=true→mX y op ex body els arms:=wU (by
 simp only[O5];refine qC (t207 ..) (fun p hQ=>?_) fun q hQ=>qC (Q:=fun _=>True) ⟨q,.ret,trivial⟩ (fun p hQ=>?_) fun q hQ=>qC (Q:=fun _=>True) ⟨q,.ret,trivial⟩ (fun p hQ=>?_) fun q hQ=>qC (Q:=fun _=>True) ⟨q,.ret,trivial⟩ (fun p hQ=>?_) fun p hQ=>?_
 ·obtain⟨z17,z18,b19,b20,b21,b22,b23⟩:=p;show Wp (fun n=>if y<1 then some false else _) _
  exact wI (fun _=>wS (by simp)) fun h=>absurd hy h
 ·obtain⟨z24,b25,b26,b27⟩:=p;show Wp (fun n=>if y<1 then some false else _) _
  exact wI (fun _=>wS (by simp)) fun h=>absurd hy h
 all_goals exact wI (fun _=>wS (by simp)) fun h=>absurd hy h)
theorem ADq (l:List D):AB Ab 90 l→∀y:Int,0≤y→y≤40→∀i,i≤l.length→∀z2,W2 (fun n=>EU n l z2 i y) fun r w=>w=y∧(r=true→DX y.toNat (l.drop i)):=by
 induction l using IQ with | H l IH
 intro hl y hy0 hy
 have f145:∀m,AB Ab 90 m→AU m<AU l→∀y:Int,0≤y→y≤40→∀z,W2 (fun n=>Bu n m z y) fun r w=>w=y∧(r=true→DX y.toNat m):=fun m hm h y h0 h1 z=>wU (by
  simp only[Bu];exact IH m h hm y h0 h1 0 (Nat.zero_le _) z)
 have f214:∀m,AB Ab 96 m→AU m<AU l→∀y:Int,0≤y→y≤40→∀z,W2 (fun n=>Jh n m z y) fun r w=>w=y∧(r=true→Kg y.toNat m):=fun m hm h y h0 h1 z=>wU (by
  have he:∀k,(k<m.length→¬(k:Int)<z)→W2 (fun n=>Fm n m z y) fun r w=>w=y∧(r=true→Kg y.toNat (m.drop k)):=fun k hk=>wU (by
   simp only[Fm];exact wL (wI (fun h=>wS ⟨rfl,fun _=>by rw[List.drop_eq_nil_of_le (by omega)];exact .nil⟩) fun _=>wS (by simp)))
  have a:∀k,k≤m.length→W2 (fun n=>Fk n m z k y) fun r w=>w=y∧(r=true→Kg y.toNat (m.drop k)):=Ai _ fun k hk ih=>wU (by
   simp only[Fk];have:=hm.le;have hd:=BI m k;refine wL (wI (fun h=>wI (fun _=>qD hm (by omega) fun s1 s2 b hx hw _ _ hb=>c2 (Q:=fun r w=>w=y∧(r=true→DX y.toNat b)) (wU ?_) fun r w ⟨hw1,hr⟩=>wB (wI (fun _=>wS ⟨hw1,by simp⟩) fun e=>wi (by omega) ?_)) fun h=>he k fun _=>h) fun h=>he k fun h2=>(h (by omega)).elim)
   ·simp only[Wa];have q:=f145 b hb (by omega) y h0 h1
    exact u1 (t141 _) fun _=>wI (fun _=>wI (fun _=>wL (c2 (q _) fun r w hr=>wS hr)) fun _=>u1 (t142 _) fun _=>wI (fun _=>wL (c2 (q _) fun r w hr=>wS hr)) fun _=>wS (by simp)) fun _=>wS (by simp)
   ·subst hw1;exact wM (ih (by omega)) fun r2 h2=>⟨h2.1,fun e2=>by rw[drop_at hx];exact .cons (hr (by simpa using e)) (h2.2 e2)⟩)
  simp only[Jh];exact a 0 (Nat.zero_le _))
 have he:∀z2 i,(i<l.length→¬(i:Int)<z2)→W2 (fun n=>EV n l z2 y) fun r w=>w=y∧(r=true→DX y.toNat (l.drop i)):=fun z2 i hi=>wU (by
  simp only[EV];exact wL (wI (fun h=>wS ⟨rfl,fun _=>by rw[List.drop_eq_nil_of_le (by omega)];exact .nil⟩) fun _=>wS (by simp)))
 refine Ai _ fun i hi ih z2=>wU ?_
 have hd:=BI l i;have:=hl.le;simp only[EU];refine wL (wI (fun h=>wI (fun _=>tA hl (by omega) fun op s1 s2 ns k s3 ty z s4 pa ex bo el ar z3 hx hw _ _ _ hns _ _ hty _ _ hpa hex hbo hel har _=>c2 (Q:=fun r w=>w=y∧(r=true→mX (y - 1) op ex bo el ar)) (wU ?_) fun r w ⟨hw1,hr⟩=>wB (wI (fun _=>wS ⟨hw1,by simp⟩) fun e=>wi (by omega) ?_)) fun h=>he z2 i fun _=>h) fun h=>he z2 i fun h2=>(h (by omega)).elim)
 ·simp only[ZJ];refine wW rfl (by omega) (c1 ?_ fun r hr=>wS ⟨rfl,hr⟩)
  by_cases h1:y=0
  ·subst h1;exact ADp (by omega) op s1 s2 ns k s3 ty z s4 pa ex bo el ar z3
  ·exact t147 ⟨f145 bo hbo (by omega) _ (by omega) (by omega),f145 el hel (by omega) _ (by omega) (by omega),f214 ar har (by omega) _ (by omega) (by omega)⟩ (by omega) op s1 s2 hns k s3 hty z s4 hpa hex z3
 ·subst hw1;exact wM (ih (by omega) z2) fun r2 h2=>⟨h2.1,fun e2=>by rw[drop_at hx];exact Uc (hr (by simpa using e)) (h2.2 e2)⟩
theorem Wy (hl:AB Ab 90 l) (h0:0≤y) (h1:y≤40) (z:Int):W2 (fun n=>Bu n l z y) fun r w=>w=y∧(r=true→DX y.toNat l):=wU (by
 simp only[Bu];exact ADq l hl y h0 h1 0 (Nat.zero_le _) z)
theorem t214 {m:List D}(hm:AB Ab 96 m) (h0:0≤y) (h1:y≤40) (z:Int):W2 (fun n=>Jh n m z y) fun r w=>w=y∧(r=true→Kg y.toNat m):=wU (by
 have he:∀k,(k<m.length→¬(k:Int)<z)→W2 (fun n=>Fm n m z y) fun r w=>w=y∧(r=true→Kg y.toNat (m.drop k)):=fun k hk=>wU (by
  simp only[Fm];exact wL (wI (fun h=>wS ⟨rfl,fun _=>by rw[List.drop_eq_nil_of_le (by omega)];exact .nil⟩) fun _=>wS (by simp)))
 have a:∀k,k≤m.length→W2 (fun n=>Fk n m z k y) fun r w=>w=y∧(r=true→Kg y.toNat (m.drop k)):=Ai _ fun k hk ih=>wU (by
  simp only[Fk];have:=hm.le;refine wL (wI (fun h=>wI (fun _=>qD hm (by omega) fun s1 s2 b hx hw _ _ hb=>c2 (Q:=fun r w=>w=y∧(r=true→DX y.toNat b)) (wU ?_) fun r w ⟨hw1,hr⟩=>wB (wI (fun _=>wS ⟨hw1,by simp⟩) fun e=>wi (by omega) ?_)) fun h=>he k fun _=>h) fun h=>he k fun h2=>(h (by omega)).elim)
  ·simp only[Wa];have q:=Wy hb h0 h1;exact u1 (t141 _) fun _=>wI (fun _=>wI (fun _=>wL (c2 (q _) fun r w hr=>wS hr)) fun _=>u1 (t142 _) fun _=>wI (fun _=>wL (c2 (q _) fun r w hr=>wS hr)) fun _=>wS (by simp)) fun _=>wS (by simp)
  ·subst hw1;exact wM (ih (by omega)) fun r2 h2=>⟨h2.1,fun e2=>by rw[drop_at hx];exact .cons (hr (by simpa using e)) (h2.2 e2)⟩)
 simp only[Jh];exact a 0 (Nat.zero_le _))
theorem t145 (hl:AB Ab 90 l) (z2:Int) (h0:2≤y) (h1:y≤40):W2 (fun n=>Wb n l z2 y) fun r w=>w=y∧(r=true→DX y.toNat l):=by
 have he:∀i,(i<l.length→¬(i:Int)<z2)→W2 (fun n=>Hu n l z2 y) fun r w=>w=y∧(r=true→DX y.toNat (l.drop i)):=fun i hi=>wU (by
  simp only[Hu];exact wL (wI (fun h=>wS ⟨rfl,fun _=>by rw[List.drop_eq_nil_of_le (by omega)];exact .nil⟩) fun _=>wS (by simp)))
 have a:∀i,i≤l.length→W2 (fun n=>Hv n l z2 i y) fun r w=>w=y∧(r=true→DX y.toNat (l.drop i)):=Ai _ fun i hi ih=>wU (by
  have:=hl.le;simp only[Hv];refine wL (wI (fun h=>wI (fun _=>tA hl (by omega) fun op s1 s2 ns k s3 ty z s4 pa ex bo el ar z3 hx hw _ _ _ hns _ _ hty _ _ hpa hex hbo hel har _=>c2 (Q:=fun r w=>w=y∧(r=true→mX (y - 1) op ex bo el ar)) ?_ fun r w ⟨hw1,hr⟩=>wB (wI (fun _=>wS ⟨hw1,by simp⟩) fun e=>wi (by omega) ?_)) fun h=>he i fun _=>h) fun h=>he i fun h2=>(h (by omega)).elim)
  ·simp only[ZK];exact wW rfl (by omega) (c1 (t147 ⟨Wy hbo (by omega) (by omega),Wy hel (by omega) (by omega),t214 har (by omega) (by omega)⟩ (by omega) op s1 s2 hns k s3 hty z s4 hpa hex z3) fun r hr=>wS ⟨rfl,hr⟩)
  ·subst hw1;exact wM (ih (by omega)) fun r2 h2=>⟨h2.1,fun e2=>by rw[drop_at hx];exact Uc (hr (by simpa using e)) (h2.2 e2)⟩)
 unfold Wb;exact a 0 (Nat.zero_le _)
end
end Go.Proofs.YtjfmnfncmfepnaaGreatDoor
end
set_option linter.unusedVariables false
noncomputable section
namespace Go.Proofs.YtjfmnfncmfepnaaGreatDoor
open Go Go.AM
theorem t241 {l m:List D}(hl:AB Ab 9 l) (hm:AB Ab 9 m):Tl fun n=>pS n l m:=by
 unfold pS;refine wL (wL (wI (fun h=>wL ?_) fun _=>wS trivial))
 have h:l.length=m.length:=by omega
 have a:∀i,i≤l.length→Tl fun n=>OU n l m l.length i:=Ai _ fun i hi ih=>wU (by
  simp only[OU];have:=hl.le;exact wI (fun h=>gs hl (by omega) fun _ _ _ _=>gs hm (by omega) fun _ _ _ _=>wI (fun _=>wi (by omega) (ih (by omega))) fun _=>wS trivial) fun _=>wS trivial)
 exact a 0 (Nat.zero_le _)
theorem t197 {l m:List D}(hl:AB Ab 9 l) (hm:AB Ab 9 m) (s t:ByteArray):Tl fun n=>pT n s l t m:=by unfold pT;repeat' first | exact wS trivial | with_reducible refine wI (fun _=>?_) fun _=>?_ | with_reducible refine wL ?_ | with_reducible refine wB ?_ | with_reducible refine wT ?_ | with_reducible refine wZ ?_ | with_reducible refine u1 (t241 hl hm) fun _=>?_
theorem tD {q q':List D}(h:Tl fun n=>UO n q q') {p p':List D}(hp:AB Ab 9 p) (hp':AB Ab 9 p') (z1 z2:Int) (s3 s4 s5:ByteArray) (z8 z9 z10:Int) (s11 s12 s13:ByteArray) (z16:Int):Tl fun n=>UP n z1 z2 s3 s4 s5 p q z8 z9 z10 s11 s12 s13 p' q' z16:=wU (by
 simp only[UP]
 repeat' first | exact wS trivial | with_reducible refine wI (fun _=>?_) fun _=>?_ | with_reducible refine wL ?_ | with_reducible refine wB ?_ | with_reducible refine wT ?_ | with_reducible refine wZ ?_ | with_reducible refine u1 (t197 hp hp' _ _) fun _=>?_ | with_reducible refine u1 h fun _=>?_)
theorem t198 (l:List D):AB Ab 54 l→∀m,AB Ab 54 m→Tl fun n=>UO n l m:=by
 induction l using IQ with | H l IH
 intro hl m hm;refine wU ?_;simp only[UO];refine wL (wL (wI (fun h=>wL ?_) fun _=>wS trivial))
 have a:∀i,i≤l.length→Tl fun n=>Hw n l m l.length i:=Ai _ fun i hi ih=>wU (by
  simp only[Hw];have:=hl.le;have hd:=BI l i;exact wI (fun h=>Ub hl (by omega) fun _ _ _ _ _ p q _ _ hw _ _ _ _ _ hp hq _=>Ub hm (by omega) fun _ _ _ _ _ p' q' _ _ _ _ _ _ _ _ hp' hq' _=>u1 (tD (IH q (by omega) hq q' hq') hp hp' _ _ _ _ _ _ _ _ _ _ _ _) fun _=>wB (wI (fun _=>wS trivial) fun _=>wi (by omega) (ih (by omega)))) fun _=>wS trivial)
 exact a 0 (Nat.zero_le _)
def AMe (l7 l8:List D) (z9:Int) (l14 l15:List D) (z18:Int):Bool→Int→ByteArray→List D→Int→ByteArray→List D→List D→Int→Int→ByteArray→ByteArray→ByteArray→List D→List D→Int→Int→Int→Prop:=fun _ _ _ _ _ _ a7 a8 a9 _ _ _ _ a14 a15 _ _ a18=>a7=l7∧a8=l8∧a9=z9∧a14=l14∧a15=l15∧a18=z18
theorem t135 (b1:Bool) (z2:Int) (s3:ByteArray) {l4:List D}(h4:AB Ab 58 l4) (z5:Int) (s6:ByteArray) (l7 l8:List D) (z9 z10:Int) (s11 s12 s13:ByteArray) (l14 l15:List D) (z16 z17 z18:Int):W18 (fun n=>UN n b1 z2 s3 l4 z5 s6 l7 l8 z9 z10 s11 s12 s13 l14 l15 z16 z17 z18) (AMe l7 l8 z9 l14 l15 z18):=by
 unfold UN;exact c3 (t136 h4 _ _ _) fun _ _ u hu=>wS ⟨rfl,rfl,rfl,rfl,rfl,hu⟩
theorem yY (b1:Bool) (z2:Int) (s3:ByteArray) {l4:List D}(h4:AB Ab 58 l4) (z5:Int) (s6:ByteArray) (l7 l8:List D) (z9 z10:Int) (s11 s12 s13:ByteArray) (l14 l15:List D) (z16 z17 z18:Int):Tl fun n=>JX n b1 z2 s3 l4 z5 s6 l7 l8 z9 z10 s11 s12 s13 l14 l15 z16 z17 z18:=by
 unfold JX;exact c3 (yO h4 _ _ _) fun _ _ u hu=>wS trivial
def mY:D→Prop
 | .agg [.int .u8 k,_,_,_,_,_,.list _ _ body,.int .u8 op,_,_,_,_,.list _ _ path,.list _ _ args,_,_]=>k=3→(op=19→args.length≤path.length)∧DW args∧DX 39 body
 | _=>True
theorem t106 (z1:Int) (s2:ByteArray) {l3:List D}(h3:AB Ab 58 l3) (z4:Int) (s5:ByteArray) {l6:List D}(h6:AB Ab 48 l6) {l7:List D}(h7:AB Ab 90 l7) (z8 z9:Int) (s10 s11 s12:ByteArray) {l13 l14:List D}(h13:AB Ab 9 l13) (h14:AB Ab 54 l14) (z15 z16:Int):
  Wp (fun n=>Wc n z1 s2 l3 z4 s5 l6 l7 z8 z9 s10 s11 s12 l13 l14 z15 z16 39) fun r=>r=true→z1=3→(z8=19→l14.length≤l13.length)∧DW l14∧DX 39 l7:=by
 have h1:∀b,Wp (fun n=>Fq n z1 s2 l3 z4 s5 l6 l7 z8 z9 s10 s11 s12 l13 l14 z15 z16 39 b) fun r=>r=true→z1=3→(z8=19→l14.length≤l13.length)∧DW l14∧DX 39 l7:=fun b=>wU (by
  simp only[Fq];refine wI (fun e=>wI (fun _=>c18 (t135 false z1 s2 h3 z4 s5 l6 l7 z8 z9 s10 s11 s12 l13 l14 z15 z16 39) fun _ _ _ _ _ _ _ _ _ _ _ _ _ _ _ _ _ _ _=>wS fun _ h=>by omega) fun _=>wS (by simp)) fun _=>wI (fun e=>wI (fun _=>u18 (yY true z1 s2 h3 z4 s5 l6 l7 z8 z9 s10 s11 s12 l13 l14 z15 z16 39) fun _ _ _ _ _ _ _ _ _ _ _ _ _ _ _ _ _ _=>wS fun _ h=>by omega) fun _=>wS (by simp)) fun _=>wI (fun e=>u1 (t142 _) fun _=>wI (fun _=>c18 (t135 false z1 s2 h3 z4 s5 l6 l7 z8 z9 s10 s11 s12 l13 l14 z15 z16 39) fun _ _ _ _ _ _ a7 a8 a9 _ _ _ _ a14 a15 _ _ a18 ⟨e7,e8,e9,e14,e15,e18⟩=>?_) fun _=>wS (by simp)) fun _=>wS (by simp)
  subst e7;subst e8;subst e9;subst e14;subst e15;subst e18;exact wI (fun _=>wT (u1 (t139 h6 _ _ _) fun _=>wI (fun _=>u1 (t143 _ _ _ _ _ _ _ _) fun _=>wB (wI (fun _=>wT (c1 (t144 h13 h14 _ _ _ _ _ _ _) fun _ hr=>wI (fun e1=>wL (c2 (t145 h7 _ (y:=39) (by omega) (by omega)) fun _ _ hs=>wS fun e2 _=>⟨(hr e1).1,(hr e1).2,hs.2 e2⟩)) fun _=>wS (by simp))) fun _=>wS (by simp))) fun _=>wS (by simp))) fun _=>wS (by simp))
 unfold Wc;exact u1 (t138 _ _ _) fun _=>wI (fun _=>wL (wI (fun _=>u1 (tD (t198 _ h14 [] .nil) h13 .nil _ _ _ _ _ _ _ _ _ _ _ _) fun _=>wI (fun _=>u1 (t141 _) fun _=>h1 _) fun _=>h1 _) fun _=>h1 _)) fun _=>h1 _
theorem t54 {l:List D}(hl:AB Ab 56 l):Wp (fun n=>xD n l) fun r=>r=true→∀x∈l,mY x:=by
 have e:∀i,(i<l.length→¬(i:Int)<30)→Wp (fun n=>Hx n l 30) fun r=>r=true→∀x∈l.drop i,mY x:=fun i hi=>wU (by
  simp only[Hx];exact wL (wI (fun h=>wS fun _ x hx=>by rw[List.drop_eq_nil_of_le (by omega)]at hx;cases hx) fun _=>wS (by simp)))
 have a:∀i,i≤l.length→Wp (fun n=>Hy n l 30 i) fun r=>r=true→∀x∈l.drop i,mY x:=Ai _ fun i hi ih=>wU (by
  simp only[Hy];have:=hl.le;refine wL (wI (fun h=>wI (fun _=>qE hl (by omega) fun k s1 l3 z4 s5 l6 l7 z8 z9 s10 s11 s12 l13 l14 z15 z16 hx _ _ _ h3 _ _ h6 h7 _ _ _ _ _ h13 h14 _ _=>?_) fun h=>e i fun _=>h) fun h=>e i fun h2=>(h (by omega)).elim)
  refine c1 (Q:=fun r=>r=true→k=3→(z8=19→l14.length≤l13.length)∧DW l14∧DX 39 l7) ?_ fun r hr=>wB (wI (fun _=>wS (by simp)) fun e1=>wi (by omega) (wM (ih (by omega)) fun r2 h2 e2 x hx2=>?_))
  ·simp only[ZL];exact c1 (t106 k s1 h3 z4 s5 h6 h7 z8 z9 s10 s11 s12 h13 h14 z15 z16) fun r hr=>wS hr
  ·rw[drop_at hx]at hx2;rcases List.mem_cons.1 hx2 with rfl | h3
   ·exact hr (by simpa using e1)
   ·exact h2 e2 x h3)
 unfold xD ZM;exact c1 (Q:=fun r=>r=true→∀x∈l,mY x) (a 0 (Nat.zero_le _)) fun r hr=>wS hr
end Go.Proofs.YtjfmnfncmfepnaaGreatDoor
end
set_option linter.unusedVariables false
noncomputable section
namespace Go.Proofs.YtjfmnfncmfepnaaGreatDoor
open Go Go.AM
def Kh (vs:List D):Prop:=GN Ab 56 (.agg vs)
def Vb (vs:List D):Prop:=∃b,vs=[.bool b]
def Vi (vs:List D):Prop:=∃z,vs=[.int .i64 z]
def Ns (t f q:List D) (w:Nat) (t' f' m' q':List D):Prop:=t'=t∧f'=f∧Aq Vb m'∧q'.length≤q.length+w
theorem t56 (b:Bool) (z2 z3:Int) (t f:List D) {q:List D}(h:q.length+1≤1000000000):W3 (fun n=>Bh n b z2 z3 t f q) fun t' f' q'=>t'=t∧f'=f∧q'.length≤q.length+1:=by
 unfold Bh;exact wB (wI (fun _=>wX (wA (ap (by simp;omega) (by omega)) (wS ⟨rfl,rfl,by simp⟩))) fun _=>wS ⟨rfl,rfl,by dsimp only;omega⟩)
def K3 (t f q:List D) (w:Nat) (t' f' q':List D):Prop:=t'=t∧f'=f∧q'.length≤q.length+w
theorem ADr {l t:List D}(ht:Aq Kh t) (h2:∀z f q,q.length+AU l≤1000000000→W3 (fun n=>KS n l z l.length (0:Nat) t f q) (K3 t f q (AU l))) (h3:∀z f q,q.length+AU l≤1000000000→W3 (fun n=>KT n l z l.length (0:Nat) t f q) (K3 t f q (AU l))) (k:Int) (s:ByteArray) (z:Int) (f q:List D) (hq:q.length+AU l+1≤1000000000):
  W3 (fun n=>ZO n k s l z t f q) (K3 t f q (AU l+1)):=wU (by
 have h1:∀b,W3 (fun n=>L9 n l z t f q b) (K3 t f q (AU l+1)):=fun b=>wU (by
  simp only[L9];refine c3 (t56 b 60 z t f (by omega)) fun t' f' q' ⟨e1,e2,e3⟩=>?_
  subst e1;subst e2;exact wL (wM (h2 z f' q' (by omega)) fun r h=>⟨h.1,h.2.1,by have:=h.2.2;omega⟩))
 simp only[ZO];exact wI (fun _=>wF ht (fun vs hv=>d56 hv fun _ _ _ _ _ _ _ _ _ _ _ _ _ _ _ _ _ _ _ _ _ _ _ _ _ _ _ _ _ _ _ _ _=>h1 _) (h1 _)) fun _=>wL (wM (h3 z f q (by omega)) fun r h=>⟨h.1,h.2.1,by have:=h.2.2;omega⟩))
theorem ADs {t:List D}(ht:Aq Kh t) (l:List D):AB Ab 48 l→∀z,(∀i,i≤l.length→∀f q,q.length+AU (l.drop i)≤1000000000→W3 (fun n=>KS n l z l.length i t f q) (K3 t f q (AU (l.drop i))))∧∀i,i≤l.length→∀f q,q.length+AU (l.drop i)≤1000000000→W3 (fun n=>KT n l z l.length i t f q) (K3 t f q (AU (l.drop i))):=by
 induction l using IQ with | H l IH
 intro hl z;have f58:∀m,AB Ab 48 m→AU m<AU l→∀k s z f q,q.length+AU m+1≤1000000000→W3 (fun n=>ZO n k s m z t f q) (K3 t f q (AU m+1)):=fun m hm h=>ADr ht (fun z f q hq=>(IH m h hm z).1 0 (Nat.zero_le _) f q (by simpa using hq)) fun z f q hq=>(IH m h hm z).2 0 (Nat.zero_le _) f q (by simpa using hq)
 refine⟨Ai _ fun i hi ih f q hq=>wU ?_,Ai _ fun i hi ih f q hq=>wU ?_⟩
 ·have:=hl.le;have hd:=BI l i;simp only[KS];refine wI (fun h=>zV hl (by omega) fun k s m hx hw _ _ hm=>c3 (f58 m hm (by omega) k s z f q (by omega)) fun t' f' q' ⟨e1,e2,e3⟩=>?_) fun _=>wS ⟨rfl,rfl,by dsimp only;omega⟩
  subst e1;subst e2;exact wi (by omega) (wM (ih (by omega) f' q' (by omega)) fun r h=>⟨h.1,h.2.1,by have:=h.2.2;omega⟩)
 ·have:=hl.le;have hd:=BI l i;simp only[KT];refine wI (fun h=>zV hl (by omega) fun k s m hx hw _ _ hm=>c3 (f58 m hm (by omega) k s z f q (by omega)) fun t' f' q' ⟨e1,e2,e3⟩=>?_) fun _=>wS ⟨rfl,rfl,by dsimp only;omega⟩
  subst e1;subst e2;exact wi (by omega) (wM (ih (by omega) f' q' (by omega)) fun r h=>⟨h.1,h.2.1,by have:=h.2.2;omega⟩)
theorem t58 {t l:List D}(ht:Aq Kh t) (hl:AB Ab 48 l) (k:Int) (s:ByteArray) (z:Int) (f q:List D) (hq:q.length+AU l+1≤1000000000):W3 (fun n=>ZO n k s l z t f q) (K3 t f q (AU l+1)):=
 ADr ht (fun z f q hq=>(ADs ht l hl z).1 0 (Nat.zero_le _) f q (by simpa using hq)) (fun z f q hq=>(ADs ht l hl z).2 0 (Nat.zero_le _) f q (by simpa using hq)) k s z f q hq
theorem t57 {t l:List D}(ht:Aq Kh t) (hl:AB Ab 58 l) (z1:Int) (s2:ByteArray) (z4:Int) (s5:ByteArray) (l6 l7:List D) (z8 z9:Int) (s10 s11 s12:ByteArray) (l13 l14:List D) (z15 z16:Int) (f q:List D) (hq:q.length+AU l≤1000000000):
  W3 (fun n=>xF n z1 s2 l z4 s5 l6 l7 z8 z9 s10 s11 s12 l13 l14 z15 z16 t f q) (K3 t f q (AU l)):=by
 have a:∀i,i≤l.length→∀f q m,Aq Vi m→q.length+AU (l.drop i)≤1000000000→W3 (fun n=>MA n l z16 l.length i t f l m q) (K3 t f q (AU (l.drop i))):=Ai _ fun i hi ih f q m hm hq=>wU (by
  have:=hl.le;simp only[MA];refine wI (fun h=>Xx hl (by omega) fun s k s2 ty hx hw _ _ _ hty=>?_) fun _=>wS ⟨rfl,rfl,by dsimp only;omega⟩
  have h3:∀m',Aq Vi m'→∀t' f' q',t'=t∧f'=f∧q'.length≤q.length+1→W3 (fun n=>KU n l z16 l.length i l k s2 ty m' t' f' q') (K3 t f q (AU (l.drop i))):=fun m' hm' t' f' q' ⟨e1,e2,e3⟩=>wU (by
   subst e1;subst e2;simp only[KU];refine c3 (t58 ht hty k s2 z16 f' q' (by omega)) fun t2 f2 q2 ⟨g1,g2,g3⟩=>?_
   subst g1;subst g2;exact wi (by omega) (wM (ih (by omega) f2 q2 m' hm' (by omega)) fun r h=>⟨h.1,h.2.1,by have:=h.2.2;omega⟩))
  have h2:∀m',Aq Vi m'→W3 (fun n=>MB n l z16 l.length i t f l q s k s2 ty m') (K3 t f q (AU (l.drop i))):=fun m' hm'=>wU (by
   simp only[MB];have e:=fun b=>t56 b 60 z16 t f (q:=q) (by omega)
   exact wF hm' (fun vs ⟨z,e'⟩=>by subst e';exact dZ (wI (fun _=>c3 (e _) fun _ _ _ h=>h3 m' hm' _ _ _ h) fun _=>c3 (e _) fun _ _ _ h=>h3 m' hm' _ _ _ h)) (c3 (e _) fun _ _ _ h=>h3 m' hm' _ _ _ h))
  exact wF hm (fun vs ⟨z,e'⟩=>by subst e';exact dZ (wT (wP hm ⟨_,rfl⟩ fun r hr _=>h2 r hr))) (wP hm ⟨_,rfl⟩ fun r hr _=>h2 r hr))
 unfold xF;exact wL (wM (a 0 (Nat.zero_le _) f q [] .nil (by simpa using hq)) fun r h=>by simpa using h)
end Go.Proofs.YtjfmnfncmfepnaaGreatDoor
end
set_option linter.unusedVariables false
noncomputable section
namespace Go.Proofs.YtjfmnfncmfepnaaGreatDoor
open Go Go.AM
theorem t216 (b:Bool) (s:ByteArray) (c o:Int) (t f q:List D) {m:List D}(hm:Aq Vb m):W6 (fun n=>O7 n b s c o t f q m) fun _ _ t' f' q' m'=>t'=t∧f'=f∧q'=q∧Aq Vb m':=by
 unfold O7;exact wP hm ⟨_,rfl⟩ fun r hr _=>wS ⟨rfl,rfl,rfl,hr⟩
theorem t148 (s:ByteArray) (z c o:Int) (t f:List D) {q m:List D}(hq:q.length+1≤1000000000) (hm:Aq Vb m):W8 (fun n=>MN n s z c o t f q m) fun _ _ _ _=>Ns t f q 1:=by
 have h1:∀a b,W8 (fun n=>H4 n s z c o t f q m a b) fun _ _ _ _=>Ns t f q 1:=fun a b=>wU (by
  simp only[H4];exact wB (c3 (t56 _ _ _ t f hq) fun t' f' q' ⟨e1,e2,e3⟩=>wP hm ⟨_,rfl⟩ fun r hr _=>wT (wS ⟨e1,e2,hr,e3⟩)))
 unfold MN;exact wF hm (fun vs ⟨b,e⟩=>by subst e;exact dB (h1 true b)) (h1 _ _)
theorem t149 (k:Int) (s:ByteArray) {t:List D}(ht:Aq Kh t) (f q:List D):W20 (fun n=>O6 n k s t f q) fun _ _ a3 _ _ _ _ _ _ _ _ _ _ _ _ _ _ t' f' q'=>AB Ab 58 a3∧t'=t∧f'=f∧q'=q:=by
 unfold O6;exact wF ht (fun vs hv=>d56 hv fun _ _ _ _ _ _ _ _ _ _ _ _ _ _ _ _ _ _ _ w2 _ _ _ _ _ _ _ _ _ _ _ _ _=>wI (fun _=>wS ⟨w2,rfl,rfl,rfl⟩) fun _=>wS ⟨w2,rfl,rfl,rfl⟩) (wS ⟨.nil,rfl,rfl,rfl⟩)
theorem t150 (s:ByteArray) (z c o:Int) (t f:List D) {q m:List D}(hq:q.length+1≤1000000000) (hm:Aq Vb m):W6 (fun n=>Rq n s z c o t f q m) fun _ _=>Ns t f q 1:=by
 unfold Rq;have e:=fun b=>t56 b 60 z t f hq
 exact wF hm (fun vs ⟨b,e'⟩=>by subst e';exact dB (c3 (e b) fun t' f' q' ⟨e1,e2,e3⟩=>wS ⟨e1,e2,hm,e3⟩)) (c3 (e _) fun t' f' q' ⟨e1,e2,e3⟩=>wS ⟨e1,e2,hm,e3⟩)
theorem t154 {l3:List D}(h3:AB Ab 58 l3) (z1:Int) (s2:ByteArray) (z4:Int) (s5:ByteArray) (l6 l7:List D) (z8 z9:Int) (s10 s11 s12:ByteArray) (l13 l14:List D) (z15 z16:Int) (s17:ByteArray):Tl fun n=>UQ n z1 s2 l3 z4 s5 l6 l7 z8 z9 s10 s11 s12 l13 l14 z15 z16 s17:=by
 have a:∀i,i≤l3.length→Tl fun n=>OV n l3 s17 l3.length i:=Ai _ fun i hi ih=>wU (by
  have:=h3.le;simp only[OV];exact wI (fun h=>Xx h3 (by omega) fun _ _ _ _ _ _ _ _ _ _=>wI (fun _=>wS trivial) fun _=>wi (by omega) (ih (by omega))) fun _=>wS trivial)
 unfold UQ;exact wL (a 0 (Nat.zero_le _))
theorem t217 {l3 l17:List D}(h3:AB Ab 58 l3) (h17:AB Ab 96 l17) (z1:Int) (s2:ByteArray) (z4:Int) (s5:ByteArray) (l6 l7:List D) (z8 z9:Int) (s10 s11 s12:ByteArray) (l13 l14:List D) (z15 z16:Int):Tl fun n=>Wq n z1 s2 l3 z4 s5 l6 l7 z8 z9 s10 s11 s12 l13 l14 z15 z16 l17:=by
 have h3a:∀m,Aq Vi m→∀i,i≤l3.length→Tl fun n=>OX n l3 m l3.length i:=fun m hm=>Ai _ fun i hi ih=>wU (by
  have:=h3.le;simp only[OX];exact wI (fun h=>Xx h3 (by omega) fun _ _ _ _ _ _ _ _ _ _=>wF hm (fun vs ⟨z,e⟩=>by subst e;exact dZ (wI (fun _=>wS trivial) fun _=>wi (by omega) (ih (by omega)))) (wS trivial)) fun _=>wS trivial)
 have a:∀i,i≤l17.length→∀m,Aq Vi m→Tl fun n=>D5 n z1 s2 l3 z4 s5 l6 l7 z8 z9 s10 s11 s12 l13 l14 z15 z16 l17 l17.length i m:=Ai _ fun i hi ih m hm=>wU (by
  have:=h17.le
  have h2:i<l17.length→∀s22 s23 z26 b29 m',Aq Vi m'→Tl fun n=>IE n z1 s2 l3 z4 s5 l6 l7 z8 z9 s10 s11 s12 l13 l14 z15 z16 l17 l17.length i s22 s23 z26 b29 m':=fun h s22 s23 z26 b29 m' hm'=>wU (by
   have q:Tl fun n=>findF false (.str s22) m' (fun x37=>B1 x37 fun z38=>(if (1:Int)<z38 then some false else AW (IntKind.wrap .i64 ((i:Int)+1)) fun z41=>D5 n z1 s2 l3 z4 s5 l6 l7 z8 z9 s10 s11 s12 l13 l14 z15 z16 l17 l17.length z41 m')) (AW (IntKind.wrap .i64 ((i:Int)+1)) fun z42=>D5 n z1 s2 l3 z4 s5 l6 l7 z8 z9 s10 s11 s12 l13 l14 z15 z16 l17 l17.length z42 m'):=
    wF hm' (fun vs ⟨z,e⟩=>by subst e;exact dZ (wI (fun _=>wS trivial) fun _=>wi (by omega) (ih h m' hm'))) (wi (by omega) (ih h m' hm'))
   simp only[IE];exact wB (wI (fun _=>wS trivial) fun _=>wI (fun _=>wI (fun _=>q) fun _=>wS trivial) fun _=>wI (fun _=>wS trivial) fun _=>q))
  simp only[D5];exact wI (fun h=>qD h17 (by omega) fun _ _ _ _ _ _ _ _=>u5 (t154 h3 _ _ _ _ _ _ _ _ _ _ _ _ _ _ _ _) fun _ _ _ _ _=>wF hm (fun vs ⟨z,e⟩=>by subst e;exact dZ (wT (wP hm ⟨_,rfl⟩ fun r hr _=>h2 (by omega) _ _ _ _ r hr))) (wP hm ⟨_,rfl⟩ fun r hr _=>h2 (by omega) _ _ _ _ r hr)) fun _=>wL (h3a m hm 0 (Nat.zero_le _)))
 unfold Wq;exact wL (a 0 (Nat.zero_le _) [] .nil)
def Nq (c o:Int) (t f q m:List D):Bool→Int→Int→List D→List D→List D→List D→Prop:=fun _ c' o' t' f' m' q'=>c'=c∧o'=o∧t'=t∧f'=f∧m'=m∧q'=q
theorem t108 {t f q m l6 l7:List D}(ht:Aq Kh t) (hf:Aq Kh f) (hm:Aq Vb m) (h6:AB Ab 9 l6) (h7:AB Ab 54 l7) (z1 z2:Int) (s3 s4 s5:ByteArray) (z8 c o:Int) (hw:z1=19→l7.length≤l6.length):W7 (fun n=>Wd n z1 z2 s3 s4 s5 l6 l7 z8 c o t f q m) (Nq c o t f q m):=by
 have r:∀b,Nq c o t f q m b c o t f m q:=fun b=>⟨rfl,rfl,rfl,rfl,rfl,rfl⟩
 have h4:∀b,W7 (fun n=>Hz n c o m t f q b) (Nq c o t f q m):=fun b=>wU (by simp only[Hz];exact wS (r _))
 unfold Wd;refine wI (fun _=>wF hf (fun vs hv=>d56 hv fun _ _ _ _ _ _ _ _ _ _ _ _ _ _ _ _ _ _ _ _ _ _ _ _ _ _ _ _ _ _ _ _ _=>wL (wL (wI (fun _=>wS (r _)) fun _=>wS (r _)))) (wS (r _))) fun _=>wI (fun _=>c20 (t149 2 s3 ht f q) fun _ _ _ _ _ _ _ _ _ _ _ _ _ _ _ _ _ _ _ _ ⟨h3,e1,e2,e3⟩=>u5 (t154 h3 _ _ _ _ _ _ _ _ _ _ _ _ _ _ _ _) fun _ _ _ _ _=>?_) fun _=>wI (fun e19=>c20 (t149 1 s3 ht f q) fun _ _ fs _ _ _ _ _ _ _ _ _ _ _ _ _ _ t' f' q' ⟨h3,e1,e2,e3⟩=>?_) fun _=>wI (fun _=>wS (r _)) fun _=>wF hm (fun vs ⟨b,e⟩=>by subst e;exact dB (wS (r b))) (wS (r _))
 ·subst e1;subst e2;subst e3;exact wI (fun _=>wI (fun _=>wL (wI (fun _=>wI (fun _=>wS (r _)) fun _=>wS (r _)) fun _=>wI (fun _=>wS (r _)) fun _=>wS (r _))) fun _=>wS (r _)) fun _=>wS (r _)
 ·subst e1;subst e2;subst e3;have hl:=hw e19
  have a:∀i,i≤l7.length→∀b,(b=true→fs.length=l7.length)→W7 (fun n=>H0 n l6 l7 c o m fs t' f' q' b i) (Nq c o t' f' q' m):=Ai _ fun i hi ih b hb=>wU (by
   have:=h7.le
   have h3':i<l7.length→fs.length=l7.length→∀b,W7 (fun n=>H3 n l6 l7 c o m fs t' f' q' i b) (Nq c o t' f' q' m):=fun h hq b=>wU (by
    simp only[H3];exact wi (by omega) (ih h b fun _=>hq))
   simp only[H0];exact wL (wI (fun h=>wI (fun e=>Xx h3 (by have:=hb e;omega) fun _ _ _ _ _ _ _ _ _ _=>gs h6 (by omega) fun _ _ _ _=>wI (fun _=>h3' (by omega) (hb e) _) fun _=>h3' (by omega) (hb e) _) fun _=>h4 _) fun _=>h4 _))
  have h1:∀b,(b=true→fs.length=l7.length)→W7 (fun n=>Gu n l6 l7 c o m fs t' f' q' b) (Nq c o t' f' q' m):=fun b hb=>wU (by simp only[Gu];exact a 0 (Nat.zero_le _) b hb)
  exact wI (fun _=>wL (wL (wI (fun e=>h1 true fun _=>by omega) fun _=>h1 false fun h=>by cases h))) fun _=>h1 false fun h=>by cases h
end Go.Proofs.YtjfmnfncmfepnaaGreatDoor
end
set_option linter.unusedVariables false
noncomputable section
namespace Go.Proofs.YtjfmnfncmfepnaaGreatDoor
open Go Go.AM
section
variable {γ:Type}{P:γ→Prop}{t f q:List D}{w:Nat}
section
variable {k:Nat→List D→List D→List D→Option γ}
theorem n3 {A:Nat→Option (List D×List D×List D)}(h:W3 A (K3 t f q w)) (hk:∀q',q'.length≤q.length+w→Wp (fun n=>k n t f q') P):Wp (fun n=>Dq (A n) (k n)) P:=c3 h fun t' f' q' ⟨e1,e2,e3⟩=>by
 simp_all
theorem n6 {A:Nat→Option (Int×Int×List D×List D×List D×List D)}{k:Nat→Int→Int→List D→List D→List D→List D→Option γ}(h:W6 A fun _ _=>Ns t f q w) (hk:∀c o m' q',Aq Vb m'→q'.length≤q.length+w→Wp (fun n=>k n c o t f m' q') P):Wp (fun n=>Lw (A n) (k n)) P:=c6 h fun c o t' f' m' q' ⟨e1,e2,e3,e4⟩=>by
 simp_all
theorem n8 {A:Nat→Option (Bool×ByteArray×Int×Int×List D×List D×List D×List D)}{k:Nat→Bool→ByteArray→Int→Int→List D→List D→List D→List D→Option γ}(h:W8 A fun _ _ _ _=>Ns t f q w) (hk:∀b s c o m' q',Aq Vb m'→q'.length≤q.length+w→Wp (fun n=>k n b s c o t f m' q') P):Wp (fun n=>XX (A n) (k n)) P:=c8 h fun b s c o t' f' m' q' ⟨e1,e2,e3,e4⟩=>by
 subst e1;subst e2;exact hk b s c o m' q' e3 e4
theorem Za {b:Bool}{z2 z3:Int}(h:q.length+1≤1000000000) (hk:∀q',q'.length≤q.length+1→Wp (fun n=>k n t f q') P):Wp (fun n=>Dq (Bh n b z2 z3 t f q) (k n)) P:=n3 (t56 b z2 z3 t f h) hk
end
end
def Lc (l:List D):Prop:=∀x∈l,∃b s,x= .agg [.bool b,.str s]
theorem Lc.cons {b:Bool}{s:ByteArray}{l:List D}(h:Lc l):Lc (.agg [.bool b,.str s]::l):=fun x hx=>by
 rcases List.mem_cons.1 hx with rfl | hx
 ·exact⟨b,s,rfl⟩
 ·exact h x hx
theorem lX {l:List D}(h:DW l):∀i,DW (l.drop i):=by
 induction h with
 | nil=>intro i;simp;exact .nil
 | cons h hq hl _ ih=>intro i;cases i with
  | zero=>exact .cons h hq hl
  | succ i=>exact ih i
theorem lY {l:List D}(h:DW l) {i:Nat}{op z z2:Int}{a b c:ByteArray}{p q:List D}(hx:l[i]?=some (.agg [.int .u8 op,.int .i64 z,.str a,.str b,.str c,.list false 1 p,.list true 8 q,.int .i64 z2])):(op=19→q.length≤p.length)∧DW q:=by
 have:=lX h i;rw[drop_at hx]at this;cases this with
 | cons h hq hl=>exact⟨h,hq⟩
section
variable {t f:List D}(ht:Aq Kh t) (hf:Aq Kh f)
include ht hf
theorem ADt {l7:List D}(h7:AB Ab 54 l7) (h:∀i,i≤l7.length→∀c o q m,Aq Vb m→q.length+AU (l7.drop i)≤1000000000→W6 (fun n=>KV n l7 l7.length i c o t f m q) fun _ _=>Ns t f q (AU (l7.drop i))) (z1 z2:Int) (s3 s4 s5:ByteArray) {l6:List D}(h6:AB Ab 9 l6) (hw:z1=19→l7.length≤l6.length) (z8 c o:Int) (q m:List D) (hm:Aq Vb m) (hq:q.length+AU l7+1≤1000000000):
  W6 (fun n=>mV n z1 z2 s3 s4 s5 l6 l7 z8 c o t f q m) fun _ _=>Ns t f q (AU l7+1):=wU (by
 simp only[mV];refine c7 (t108 ht hf hm h6 h7 z1 z2 s3 s4 s5 z8 c o hw) fun b c' o' t' f' m' q' ⟨e1,e2,e3,e4,e5,e6⟩=>?_
 subst e1;subst e2;subst e3;subst e4;subst e5;subst e6;exact wN rfl (wN rfl (Za (by omega) fun q2 h2=>wL (wM (h 0 (Nat.zero_le _) _ _ q2 _ hm (by grind)) fun r hr=>⟨hr.1,hr.2.1,hr.2.2.1,by have:=hr.2.2.2;grind⟩)))
 )
theorem AMf (l:List D):AB Ab 54 l→DW l→∀i,i≤l.length→∀c o q m,Aq Vb m→q.length+AU (l.drop i)≤1000000000→W6 (fun n=>KV n l l.length i c o t f m q) fun _ _=>Ns t f q (AU (l.drop i)):=by
 induction l using IQ with | H l IH
 intro hl hx;refine Ai _ fun i hi ih c o q m hm hq=>wU ?_
 have:=hl.le;have hd:=BI l i;simp only[KV]
 exact wI (fun h=>Ub hl (by omega) fun k z1 s1 s2 s3 p r z2 he hw _ _ _ _ _ hp hr _=>by
  obtain⟨x1,x2⟩:=lY hx he;exact n6 (ADt ht hf hr (IH r (by omega) hr x2) k z1 s1 s2 s3 hp x1 z2 c o q m hm (by omega)) fun c' o' m' q' hm' hq'=>wi (by omega) (wM (ih (by omega) c' o' q' m' hm' (by omega)) fun r hr=>⟨hr.1,hr.2.1,hr.2.2.1,by have:=hr.2.2.2;omega⟩)) fun _=>wS ⟨rfl,rfl,hm,by dsimp only;omega⟩
theorem t62 {l6 l7:List D}(h6:AB Ab 9 l6) (h7:AB Ab 54 l7) (hx:DW l7) (z1 z2:Int) (s3 s4 s5:ByteArray) (hw:z1=19→l7.length≤l6.length) (z8 c o:Int) {q m:List D}(hm:Aq Vb m) (hq:q.length+AU l7+1≤1000000000):
  W6 (fun n=>mV n z1 z2 s3 s4 s5 l6 l7 z8 c o t f q m) fun _ _=>Ns t f q (AU l7+1):=ADt ht hf h7 (AMf ht hf l7 h7 hx) z1 z2 s3 s4 s5 h6 hw z8 c o q m hm hq
end
end Go.Proofs.YtjfmnfncmfepnaaGreatDoor
end
set_option linter.unusedVariables false
noncomputable section
namespace Go.Proofs.YtjfmnfncmfepnaaGreatDoor
open Go Go.AM
theorem sm9 {a0:ByteArray}(w0:a0.size≤maxLen):Shape Ab 9 [.str a0]:=.str (x:=CT Ab 9) a0 (by kernel_rfl) (by kernel_rfl) w0
theorem mk9 {a0:ByteArray}(w0:a0.size≤maxLen):GN Ab 9 (.str a0):=⟨sm9 w0,fun y hy=>by rw[show Ab 9=some (CT Ab 9)by kernel_rfl]at hy;cases hy;kernel_rfl⟩
end Go.Proofs.YtjfmnfncmfepnaaGreatDoor
end
set_option linter.unusedVariables false
noncomputable section
namespace Go.Proofs.YtjfmnfncmfepnaaGreatDoor
open Go Go.AM
mutual
theorem DX.drop:∀{d:Nat}{l:List D},DX d l→∀i,DX d (l.drop i)
 | _,_,.nil,i=>by simp;exact .nil
 | _,_,.cons h1 h2 h3 h4 he hb hs ha hl,0=>.cons h1 h2 h3 h4 he hb hs ha hl
 | _,_,.cons h1 h2 h3 h4 he hb hs ha hl,i+1=>DX.drop hl i
end
theorem Kg.drop:∀{d:Nat}{l:List D},Kg d l→∀i,Kg d (l.drop i)
 | _,_,.nil,i=>by simp;exact .nil
 | _,_,.cons hb hl,0=>.cons hb hl
 | _,_,.cons hb hl,i+1=>Kg.drop hl i
def Wps (d:Nat) (op:Int) (ex body els arms:List D):Prop:=(op=7→1≤ex.length)∧(op≠6→op≠7→op≠9→op≠10→op≠11→op≠13→body=[])∧(op≠6→els=[])∧(op≠8→arms=[])∧DW ex∧DX d body∧DX d els∧Kg d arms
theorem Wz {d:Nat}{l:List D}(h:DX d l) {i:Nat}{op k z z2:Int}{s1 s2 s3 s4:ByteArray}{ns ty path ex body els arms:List D}(hx:l[i]?=some (.agg [.int .u8 op,.str s1,.str s2,.list false 1 ns,.int .u8 k,.str s3,.list true 3 ty,.int .i64 z,.str s4,.list false 1 path,.list true 8 ex,.list true 15 body,.list true 15 els,.list true 3 arms,.int .i64 z2])):1≤d∧Wps (d - 1) op ex body els arms:=by
 have:=h.drop i;rw[drop_at hx]at this;cases this with
 | cons h1 h2 h3 h4 he hb hs ha hl=>exact⟨by omega,h1,h2,h3,h4,he,hb,hs,ha⟩
theorem W0 {d:Nat}{l:List D}(h:Kg d l) {i:Nat}{s1 s2:ByteArray}{b:List D}(hx:l[i]?=some (.agg [.str s1,.str s2,.list true 15 b])):DX d b:=by
 have:=h.drop i;rw[drop_at hx]at this;cases this with
 | cons hb hl=>exact hb
section
variable {t f:List D}(ht:Aq Kh t) (hf:Aq Kh f)
theorem yZ (rows:List D):Lc rows→∀c o (q m:List D),Aq Vb m→W6 (fun n=>Gx n rows c o t f m q) fun _ _=>Ns t f q 0:=by
 induction rows with
 | nil=>exact fun _ c o q m hm=>wU (by simp only[Gx,Eg];exact wS ⟨rfl,rfl,hm,Nat.le_refl _⟩)
 | cons x rows ih=>
  refine fun hr c o q m hm=>wU ?_
  obtain⟨b,s,rfl⟩:=hr x (List.mem_cons_self ..);simp only[Gx,Eg,Ch];refine c6 (t216 b s c o t f q hm) fun c' o' t' f' q' m' ⟨e1,e2,e3,h⟩=>?_
  subst e1;subst e2;subst e3;exact ih (fun y hy=>hr y (List.mem_cons_of_mem _ hy)) c' o' _ m' h
theorem qF (rows:List D):Lc rows→∀c o (q m:List D),Aq Vb m→W6 (fun n=>El n rows c o t f m q) fun _ _=>Ns t f q 0:=by
 induction rows with
 | nil=>exact fun _ c o q m hm=>wU (by simp only[El,Eg];exact wS ⟨rfl,rfl,hm,Nat.le_refl _⟩)
 | cons x rows ih=>
  refine fun hr c o q m hm=>wU ?_
  obtain⟨b,s,rfl⟩:=hr x (List.mem_cons_self ..);simp only[El,Eg,Ch];refine c6 (t216 b s c o t f q hm) fun c' o' t' f' q' m' ⟨e1,e2,e3,h⟩=>?_
  subst e1;subst e2;subst e3;exact ih (fun y hy=>hr y (List.mem_cons_of_mem _ hy)) c' o' _ m' h
theorem qG (rows:List D):Lc rows→∀c o (q m:List D),Aq Vb m→W6 (fun n=>Em n rows c o t f m q) fun _ _=>Ns t f q 0:=by
 induction rows with
 | nil=>exact fun _ c o q m hm=>wU (by simp only[Em,Eg];exact wS ⟨rfl,rfl,hm,Nat.le_refl _⟩)
 | cons x rows ih=>
  refine fun hr c o q m hm=>wU ?_
  obtain⟨b,s,rfl⟩:=hr x (List.mem_cons_self ..);simp only[Em,Eg,Ch];refine c6 (t216 b s c o t f q hm) fun c' o' t' f' q' m' ⟨e1,e2,e3,h⟩=>?_
  subst e1;subst e2;subst e3;exact ih (fun y hy=>hr y (List.mem_cons_of_mem _ hy)) c' o' _ m' h
def S1 (t f m:List D):Prop:=∀c o q mm,Aq Vb mm→q.length+AU m≤1000000000→W6 (fun n=>OY n m c o t f q mm) fun _ _=>Ns t f q (AU m)
def S2 (t f m:List D):Prop:=∀c o q mm,Aq Vb mm→q.length+AU m≤1000000000→W6 (fun n=>OZ n m c o t f q mm) fun _ _=>Ns t f q (AU m)
theorem t153 {m:List D}(hS:S1 t f m) {ns:List D}(hns:AB Ab 9 ns) (z c o:Int) {q mm:List D}(hm:Aq Vb mm) (hq:q.length+AU m+ns.length≤1000000000):W6 (fun n=>LU n m z ns c o t f q mm) fun _ _=>Ns t f q (AU m+ns.length):=wU (by
 have a:∀i,i≤ns.length→∀rows c o q mm,Lc rows→Aq Vb mm→q.length+AU m+(ns.length - i)≤1000000000→W6 (fun n=>IG n m z ns ns.length i rows c o t f mm q) fun _ _=>Ns t f q (AU m+(ns.length - i)):=Ai _ fun i hi ih rows c o q mm hr hm hq=>wU (by
  have:=hns.le;simp only[IG];exact wI (fun h=>gs hns (by omega) fun s _ _ _=>n8 (t148 s z c o t f (by omega) hm) fun b s c o m' q' hm' hq'=>wi (by omega) (wM (ih (by omega) _ c o q' m' hr.cons hm' (by omega)) fun r hr=>⟨hr.1,hr.2.1,hr.2.2.1,by have:=hr.2.2.2;omega⟩)) fun h=>n6 (hS c o q mm hm (by omega)) fun c o m' q' hm' hq'=>wM (yZ rows hr c o q' m' hm') fun r hr=>⟨hr.1,hr.2.1,hr.2.2.1,by have:=hr.2.2.2;omega⟩)
 simp only[LU];exact wL (wM (a 0 (Nat.zero_le _) [] c o q mm (fun x hx=>by cases hx) hm (by simpa using hq)) fun r hr=>by simpa using hr))
theorem t151 {l14:List D}(h14:AB Ab 96 l14) (hS:∀(i:Nat) s1 s2 b,l14[i]?=some (.agg [.str s1,.str s2,.list true 15 b])→S1 t f b) (ht:Aq Kh t) (z1:Int) (s2 s3:ByteArray) (l4:List D) (z5:Int) (s6:ByteArray) (l7:List D) (z8:Int) (s9:ByteArray) (l10 l11 l12 l13:List D) (z15 c o:Int) {q m:List D}(hm:Aq Vb m) (hq:q.length+AU l14+1≤1000000000):
  W6 (fun n=>Wr n z1 s2 s3 l4 z5 s6 l7 z8 s9 l10 l11 l12 l13 l14 z15 c o t f q m) fun _ _=>Ns t f q (AU l14+1):=wU (by
 have a:∀i,i≤l14.length→∀c o q m,Aq Vb m→q.length+AU (l14.drop i)≤1000000000→W6 (fun n=>Ft n l14 z15 l14.length i c o t f m l14 q) fun _ _=>Ns t f q (AU (l14.drop i)):=Ai _ fun i hi ih c o q m hm hq=>wU (by
  have:=h14.le;simp only[Ft];refine wI (fun h=>qD h14 (by omega) fun s1 s2 b hx hw _ hs2 hb=>?_) fun _=>wS ⟨rfl,rfl,hm,by dsimp only;omega⟩
  have e:∀ns,AB Ab 9 ns→ns.length≤1→W6 (fun n=>Lw (LU n b z15 ns c o t f q m) fun z73 z74 l75 l76 l77 l78=>AW (IntKind.wrap .i64 ((i:Int)+1)) fun z85=>Ft n l14 z15 l14.length z85 z73 z74 l75 l76 l77 l14 l78) fun _ _=>Ns t f q (AU (l14.drop i)):=fun ns hns hl=>n6 (t153 (hS i s1 s2 b hx) hns z15 c o hm (by omega)) fun c o m' q' hm' hq'=>wi (by omega) (wM (ih (by omega) c o q' m' hm' (by omega)) fun r hr=>⟨hr.1,hr.2.1,hr.2.2.1,by have:=hr.2.2.2;omega⟩)
  exact wI (fun _=>e [] .nil (by simp)) fun _=>e [.str s2] (.one (mk9 hs2)) (by simp))
 have h1:∀q',q'.length≤q.length+1→W6 (fun n=>Fs n l14 z15 c o m t f q') fun _ _=>Ns t f q (AU l14+1):=fun q' h=>wU (by
  simp only[Fs];exact wL (wM (a 0 (Nat.zero_le _) c o q' m hm (by grind)) fun r hr=>⟨hr.1,hr.2.1,hr.2.2.1,by have:=hr.2.2.2;grind⟩))
 simp only[Wr];refine c20 (t149 2 s3 ht f q) fun _ _ _ _ _ _ _ _ _ _ _ _ _ _ _ _ _ t' f' q' ⟨h3,e1,e2,e3⟩=>?_
 subst e1;subst e2;subst e3;exact wF hm (fun vs ⟨b,e⟩=>by subst e;exact dB (wI (fun _=>wI (fun _=>u1 (t217 h3 h14 _ _ _ _ _ _ _ _ _ _ _ _ _ _ _) fun _=>Za (by omega) h1) fun _=>Za (by omega) h1) fun _=>Za (by omega) h1)) (Za (by omega) h1))
theorem t152 {ns body:List D}(hns:AB Ab 9 ns) (hS:S2 t f body) (z1:Int) (s2 s3:ByteArray) (z5:Int) (s6:ByteArray) (l7:List D) (z8:Int) (s9:ByteArray) (l10 l11 l13 l14:List D) (z15 c o:Int) {q m:List D}(hm:Aq Vb m) (hq:q.length+ns.length+AU body+2≤1000000000):
  W6 (fun n=>Ws n z1 s2 s3 ns z5 s6 l7 z8 s9 l10 l11 body l13 l14 z15 c o t f q m) fun _ _=>Ns t f q (ns.length+AU body+2):=wU (by
 have a:∀i,i≤ns.length→∀c' o' q' m',Aq Vb m'→q'.length+(ns.length - i)+AU body+1≤1000000000→W6 (fun n=>IJ n ns body z15 c o m ns.length i t f ns c' o' m' q') fun _ _=>Ns t f q' (ns.length - i+AU body+1):=Ai _ fun i hi ih c' o' q' m' hm' hq=>wU (by
  have:=hns.le;simp only[IJ];exact wI (fun h=>gs hns (by omega) fun s _ _ _=>n8 (t148 s z15 c' o' t f (by omega) hm') fun b s c o m' q' hm' hq'=>wi (by omega) (wM (ih (by omega) c o q' m' hm' (by omega)) fun r hr=>⟨hr.1,hr.2.1,hr.2.2.1,by have:=hr.2.2.2;omega⟩)) fun h=>n6 (hS c' o' q' m' hm' (by omega)) fun c o m2 q2 hm2 hq2=>wI (fun _=>Za (by omega) fun q3 h3=>wS ⟨rfl,rfl,hm,by dsimp only;omega⟩) fun _=>Za (by omega) fun q3 h3=>wS ⟨rfl,rfl,hm,by dsimp only;omega⟩)
 have h1:∀q',q'.length≤q.length+1→W6 (fun n=>II n ns body z15 c o m t f q') fun _ _=>Ns t f q (ns.length+AU body+2):=fun q' h=>wU (by
  simp only[II];refine c3 (Q:=fun a b c=>t=a∧f=b∧q'=c) (by unfold sM;exact wS ⟨rfl,rfl,rfl⟩) fun a b c ⟨e1,e2,e3⟩=>?_
  subst e1;subst e2;subst e3;exact wL (wM (a 0 (Nat.zero_le _) 0 0 q' [] .nil (by omega)) fun r hr=>⟨hr.1,hr.2.1,hr.2.2.1,by have:=hr.2.2.2;omega⟩))
 simp only[Ws];exact wI (fun _=>Za (by omega) h1) fun _=>Za (by omega) h1)
end
end Go.Proofs.YtjfmnfncmfepnaaGreatDoor
end
set_option linter.unusedVariables false
noncomputable section
namespace Go.Proofs.YtjfmnfncmfepnaaGreatDoor
open Go Go.AM
theorem Eo {l:List D}(h:AB Ab 9 l):AU l=l.length:=by
 replace h:=h.2
 induction l with
 | nil=>rfl
 | cons x l ih=>
  obtain⟨s,rfl,_⟩:=yH (h x (List.mem_cons_self ..));simp only[AU,wt,List.length_cons,ih fun y hy=>h y (List.mem_cons_of_mem _ hy)];omega
section
variable {t f:List D}(ht:Aq Kh t) (hf:Aq Kh f)
def ZR (t f q:List D) (w:Nat):Int→Int→List D→List D→List D→List D→List D→Prop:=fun _ _ t' f' m' out q'=>Ns t f q w t' f' m' q'∧Lc out∧out.length≤1000000000
include ht hf
theorem t107 {ns ty ex body els arms:List D}(hns:AB Ab 9 ns) (hty:AB Ab 48 ty) (hex:AB Ab 54 ex) (hx:DW ex) (har:AB Ab 96 arms) (hb:S1 t f body) (he:S1 t f els) (hb2:S2 t f body) (ha:∀(i:Nat) s1 s2 b,arms[i]?=some (.agg [.str s1,.str s2,.list true 15 b])→S1 t f b)
  (op:Int) (s2 s3:ByteArray) (k:Int) (s6:ByteArray) (z8:Int) (s9:ByteArray) (hs2:s2.size≤maxLen) (pa:List D) (z15 c o:Int) {q m:List D} (hm:Aq Vb m) (hq:q.length+(AU ns+AU ty+AU ex+AU body+AU els+AU arms+9)≤1000000000):
  W7 (fun n=>Rs n op s2 s3 ns k s6 ty z8 s9 pa ex body els arms z15 c o t f q m) (ZR t f q (AU ns+AU ty+AU ex+AU body+AU els+AU arms+9)):=wU (by
 have hln:=Eo hns
 have h4:∀c o m' out q',Aq Vb m'→Lc out→out.length≤1000000000→q'.length≤q.length+(AU ns+AU ty+AU ex+AU body+AU els+AU arms+9)→W7 (fun n=>Cz n c o t f m' out q') (ZR t f q (AU ns+AU ty+AU ex+AU body+AU els+AU arms+9)):=fun c o m' out q' h1 h2 h3 h4=>wU (by
  simp only[Cz];exact wS ⟨⟨rfl,rfl,h1,h4⟩,h2,h3⟩)
 have lc0:Lc []:=fun x hx=>by cases hx
 have h4':∀c o m' q',Aq Vb m'→q'.length≤q.length+(AU ns+AU ty+AU ex+AU body+AU els+AU arms+9)→W7 (fun n=>Cz n c o t f m' [] q') (ZR t f q (AU ns+AU ty+AU ex+AU body+AU els+AU arms+9)):=fun c o m' q' h1 h2=>h4 c o m' [] q' h1 lc0 (by simp) h2
 have h3:∀i,i≤ns.length→∀c o m' out q',Aq Vb m'→Lc out→out.length≤i→q'.length≤q.length+AU ex+i+1→W7 (fun n=>IL n ns z15 ns.length i c o t f m' ns out q') (ZR t f q (AU ns+AU ty+AU ex+AU body+AU els+AU arms+9)):=Ai _ fun i hi ih c o m' out q' g1 g2 g3 g4=>wU (by
  have:=hns.le;simp only[IL]
  exact wI (fun h=>gs hns (by omega) fun s _ _ _=>n8 (t148 s z15 c o t f (by omega) g1) fun b s c o m2 q2 hm2 hq2=>wA (ap (by simp;omega) (by omega)) (wi (by omega) (ih (by omega) c o m2 _ q2 hm2 (fun x hx=>by
   rcases List.mem_append.1 hx with hx | hx
   ·exact g2 x hx
   simp_all) (by simp;omega) (by omega)))) fun _=>h4 c o m' out q' g1 g2 (by omega) (by omega))
 have h2:∀c o m' q',Aq Vb m'→q'.length≤q.length+AU ex+1→W7 (fun n=>Gy n ns z15 c o m' t f op q') (ZR t f q (AU ns+AU ty+AU ex+AU body+AU els+AU arms+9)):=fun c o m' q' g1 g2=>wU (by
  simp only[Gy];exact wL (h3 0 (Nat.zero_le _) c o m' [] q' g1 lc0 (by simp) g2))
 have h1:∀i,i≤ex.length→∀c o q' m',Aq Vb m'→q'.length+AU (ex.drop i)≤q.length+AU ex→W7 (fun n=>IK n op s2 s3 ns k s6 ty z8 s9 pa ex body els arms z15 ex.length i c o t f m' ex q') (ZR t f q (AU ns+AU ty+AU ex+AU body+AU els+AU arms+9)):=Ai _ fun i hi ih c o q' m' g1 g2=>wU (by
  have:=hex.le;simp only[IK]
  refine wI (fun h=>Ub hex (by omega) fun k z1 s1 s2 s3 p r z2 hy hw _ _ _ _ _ hp hr _=>?_) fun _=>wI (fun _=>n8 (t148 s2 z15 c o t f (by omega) g1) fun b s c o m2 q2 hm2 hq2=>wA (ap (by simp) (by omega)) (h4 c o m2 _ q2 hm2 (Lc.cons lc0) (by simp) (by omega))) fun _=>wI (fun _=>?_) fun _=>wI (fun _=>n6 (t150 s9 z15 c o t f (by omega) g1) fun c o m2 q2 hm2 hq2=>h4' c o m2 q2 hm2 (by omega)) fun _=>wI (fun _=>n6 (t150 s2 z15 c o t f (by omega) g1) fun c o m2 q2 hm2 hq2=>h4' c o m2 q2 hm2 (by omega)) fun _=>wI (fun _=>n3 (t58 ht hty k s6 z15 f q' (by omega)) fun q2 hq2=>n8 (t148 s2 z15 c o t f (by omega) g1) fun b s c o m3 q3 hm3 hq3=>n8 (t148 s3 z15 c o t f (by omega) hm3) fun b2 s2 c o m4 q4 hm4 hq4=>wA (ap (by simp) (by omega)) (h4 c o m4 _ q4 hm4 (Lc.cons (Lc.cons lc0)) (by simp) (by omega))) fun _=>wI (fun _=>n6 (t151 har ha ht op s2 s3 ns k s6 ty z8 s9 pa ex body els z15 c o g1 (by omega)) fun c o m2 q2 hm2 hq2=>h4' c o m2 q2 hm2 (by omega)) fun _=>wI (fun _=>n6 (t152 hns hb2 op s2 s3 k s6 ty z8 s9 pa ex els arms z15 c o g1 (by omega)) fun c o m2 q2 hm2 hq2=>h4' c o m2 q2 hm2 (by omega)) fun _=>wI (fun _=>wT (n6 (t153 hb .nil z15 c _ g1 (by simp;omega)) fun c o m2 q2 hm2 hq2=>wT (h4' c _ m2 q2 hm2 (by simp at hq2;omega)))) fun _=>wI (fun _=>n6 (t150 s9 z15 c o t f (by omega) g1) fun c o m2 q2 hm2 hq2=>wX (n6 (t153 hb (.one (mk9 hs2)) z15 c o hm2 (by simp;omega)) fun c o m3 q3 hm3 hq3=>h4' c o m3 q3 hm3 (by simp at hq3;omega))) fun _=>n6 (t153 hb .nil z15 c o g1 (by simp;omega)) fun c o m2 q2 hm2 hq2=>n6 (t153 he .nil z15 c o hm2 (by simp at hq2 ⊢;omega)) fun c o m3 q3 hm3 hq3=>h4' c o m3 q3 hm3 (by simp at hq2 hq3;omega)
  ·obtain⟨x1,x2⟩:=lY hx hy;exact n6 (t62 ht hf hp hr x2 k z1 s1 s2 s3 x1 z2 c o g1 (by omega)) fun c o m2 q2 hm2 hq2=>wi (by omega) (ih (by omega) c o q2 m2 hm2 (by omega))
  ·refine c20 (t149 1 s2 ht f q') fun _ _ _ _ _ _ _ _ _ _ _ _ _ _ _ _ _ t' f' q2 ⟨_,e1,e2,e3⟩=>?_
   subst e1;subst e2;subst e3;exact wI (fun _=>wL (wL (wI (fun _=>Za (by omega) fun q3 h=>h2 c o m' q3 g1 (by omega)) fun _=>Za (by omega) fun q3 h=>h2 c o m' q3 g1 (by omega)))) fun _=>Za (by omega) fun q3 h=>h2 c o m' q3 g1 (by omega))
 simp only[Rs];exact wL (h1 0 (Nat.zero_le _) c o q m hm (by simp)))
theorem tSa (l:List D) (hl:AB Ab 90 l) (hB:∀(i:Nat) op s1 s2 ns k s3 ty z s4 pa ex body els arms z2,l[i]?=some (.agg [.int .u8 op,.str s1,.str s2,.list false 1 ns,.int .u8 k,.str s3,.list true 3 ty,.int .i64 z,.str s4,.list false 1 pa,.list true 8 ex,.list true 15 body,.list true 15 els,.list true 3 arms,.int .i64 z2])→AB Ab 90 body→AB Ab 90 els→AB Ab 96 arms→AU body<AU l→AU els<AU l→AU arms<AU l→DW ex∧S1 t f body∧S1 t f els∧S2 t f body∧∀(j:Nat) s1 s2 b,arms[j]?=some (.agg [.str s1,.str s2,.list true 15 b])→S1 t f b):S1 t f l:=fun c o q mm hm hq=>wU (by
 have hd0:=BI l
 have h1:∀i,i≤l.length→∀rows c o q' m',Lc rows→Aq Vb m'→q'.length+AU (l.drop i)≤q.length+AU l→W6 (fun n=>FU n l l.length i rows c o t f m' q') fun _ _=>Ns t f q (AU l):=Ai _ fun i hi ih rows c o q' m' g0 g1 g2=>wU (by
  have:=hl.le;have hd:=hd0 i;simp only[FU];refine wI (fun h=>tA hl (by omega) fun op s1 s2 ns k s3 ty z s4 pa ex body els arms z2 hx hw _ hs1 _ hns _ _ hty _ _ hpa hex hbo hel har _=>?_) fun _=>c0 (Q:=fun _=>True) (by unfold xH;exact wS trivial) fun _=>wM (qF rows g0 c o q' m' g1) fun r hr=>⟨hr.1,hr.2.1,hr.2.2.1,by have:=hr.2.2.2;omega⟩
  obtain⟨x1,x2,x3,x4,x5⟩:=hB i op s1 s2 ns k s3 ty z s4 pa ex body els arms z2 hx hbo hel har (by omega) (by omega) (by omega)
  refine c7 (t107 ht hf hns hty hex x1 har x2 x3 x4 x5 op s1 s2 k s3 z s4 hs1 pa z2 c o g1 (by omega)) fun c o t' f' m2 out q2 ⟨⟨e1,e2,hm2,hq2⟩,ho,hl2⟩=>?_
  subst e1;subst e2
  have h2:∀j,j≤out.length→∀rows,Lc rows→W6 (fun n=>FV n l l.length i c o t' f' m2 out q2 out.length j rows) fun _ _=>Ns t' f' q (AU l):=Ai _ fun j hj ih2 rows g0=>wU (by
   simp only[FV]
   exact wI (fun h=>wN (by omega) (wK (by omega) fun x hx=>by
    obtain⟨b,s,rfl⟩:=ho x (List.mem_of_getElem? hx);exact dW (wi (by omega) (ih2 (by omega) _ g0.cons)))) fun _=>wi (by omega) (ih (by omega) rows c o q2 m2 g0 hm2 (by omega)))
  exact wL (h2 0 (Nat.zero_le _) rows g0))
 simp only[OY];exact wL (h1 0 (Nat.zero_le _) [] c o q mm (fun x hx=>by cases hx) hm (by simp)))
theorem tSb (l:List D) (hl:AB Ab 90 l) (hB:∀(i:Nat) op s1 s2 ns k s3 ty z s4 pa ex body els arms z2,l[i]?=some (.agg [.int .u8 op,.str s1,.str s2,.list false 1 ns,.int .u8 k,.str s3,.list true 3 ty,.int .i64 z,.str s4,.list false 1 pa,.list true 8 ex,.list true 15 body,.list true 15 els,.list true 3 arms,.int .i64 z2])→AB Ab 90 body→AB Ab 90 els→AB Ab 96 arms→AU body<AU l→AU els<AU l→AU arms<AU l→DW ex∧S1 t f body∧S1 t f els∧S2 t f body∧∀(j:Nat) s1 s2 b,arms[j]?=some (.agg [.str s1,.str s2,.list true 15 b])→S1 t f b):S2 t f l:=fun c o q mm hm hq=>wU (by
 have hd0:=BI l
 have h1:∀i,i≤l.length→∀rows c o q' m',Lc rows→Aq Vb m'→q'.length+AU (l.drop i)≤q.length+AU l→W6 (fun n=>FW n l l.length i rows c o t f m' q') fun _ _=>Ns t f q (AU l):=Ai _ fun i hi ih rows c o q' m' g0 g1 g2=>wU (by
  have:=hl.le;have hd:=hd0 i;simp only[FW];refine wI (fun h=>tA hl (by omega) fun op s1 s2 ns k s3 ty z s4 pa ex body els arms z2 hx hw _ hs1 _ hns _ _ hty _ _ hpa hex hbo hel har _=>?_) fun _=>c0 (Q:=fun _=>True) (by unfold xG;exact wS trivial) fun _=>wM (qG rows g0 c o q' m' g1) fun r hr=>⟨hr.1,hr.2.1,hr.2.2.1,by have:=hr.2.2.2;omega⟩
  obtain⟨x1,x2,x3,x4,x5⟩:=hB i op s1 s2 ns k s3 ty z s4 pa ex body els arms z2 hx hbo hel har (by omega) (by omega) (by omega)
  refine c7 (t107 ht hf hns hty hex x1 har x2 x3 x4 x5 op s1 s2 k s3 z s4 hs1 pa z2 c o g1 (by omega)) fun c o t' f' m2 out q2 ⟨⟨e1,e2,hm2,hq2⟩,ho,hl2⟩=>?_
  subst e1;subst e2
  have h2:∀j,j≤out.length→∀rows,Lc rows→W6 (fun n=>FX n l l.length i c o t' f' m2 out q2 out.length j rows) fun _ _=>Ns t' f' q (AU l):=Ai _ fun j hj ih2 rows g0=>wU (by
   simp only[FX]
   exact wI (fun h=>wN (by omega) (wK (by omega) fun x hx=>by
    obtain⟨b,s,rfl⟩:=ho x (List.mem_of_getElem? hx);exact dW (wi (by omega) (ih2 (by omega) _ g0.cons)))) fun _=>wi (by omega) (ih (by omega) rows c o q2 m2 g0 hm2 (by omega)))
  exact wL (h2 0 (Nat.zero_le _) rows g0))
 simp only[OZ];exact wL (h1 0 (Nat.zero_le _) [] c o q mm (fun x hx=>by cases hx) hm (by simp)))
theorem zA (l:List D):AB Ab 90 l→(∃d,DX d l)→S1 t f l∧S2 t f l:=by
 induction l using IQ with | H l IH
 rintro hl ⟨d,hd⟩
 have hB:∀(i:Nat) op s1 s2 ns k s3 ty z s4 pa ex body els arms z2,l[i]?=some (.agg [.int .u8 op,.str s1,.str s2,.list false 1 ns,.int .u8 k,.str s3,.list true 3 ty,.int .i64 z,.str s4,.list false 1 pa,.list true 8 ex,.list true 15 body,.list true 15 els,.list true 3 arms,.int .i64 z2])→AB Ab 90 body→AB Ab 90 els→AB Ab 96 arms→AU body<AU l→AU els<AU l→AU arms<AU l→DW ex∧S1 t f body∧S1 t f els∧S2 t f body∧∀(j:Nat) s1 s2 b,arms[j]?=some (.agg [.str s1,.str s2,.list true 15 b])→S1 t f b:=by
  intro i op s1 s2 ns k s3 ty z s4 pa ex body els arms z2 hx hbo hel har w1 w2 w3;obtain⟨_,_,_,_,_,h5,h6,h7,h8⟩:=Wz hd hx;refine⟨h5,(IH body w1 hbo ⟨_,h6⟩).1,(IH els w2 hel ⟨_,h7⟩).1,(IH body w1 hbo ⟨_,h6⟩).2,fun j v n b hj=>?_⟩
  obtain⟨v',n',b',e,_,_,hb⟩:=Wx (har.mem hj);cases e
  have:=CZ hj;have:=BI arms j;simp only[wt,AU]at*;exact (IH b (by omega) hb ⟨_,W0 h8 hj⟩).1
 exact⟨tSa ht hf l hl hB,tSb ht hf l hl hB⟩
end
end Go.Proofs.YtjfmnfncmfepnaaGreatDoor
end
set_option linter.unusedVariables false
noncomputable section
namespace Go.Proofs.YtjfmnfncmfepnaaGreatDoor
open Go Go.AM
section
variable {t f:List D}(ht:Aq Kh t) (hf:Aq Kh f)
def R60 (t f q:List D) (w:Nat):Int→Int→List D→List D→List D→Int→ByteArray→List D→Int→ByteArray→List D→List D→Int→Int→ByteArray→ByteArray→ByteArray→List D→List D→Int→Int→List D→Prop:=fun _ _ t' f' _ _ _ _ _ _ _ _ _ _ _ _ _ _ _ _ _ q'=>t=t'∧f=f'∧q'.length≤q.length+w
theorem ADu (rows:List D):Lc rows→∀c o (q m:List D),Aq Vb m→∀a1 a2 a3 a4 a5 a6 a7 a8 a9 a10 a11 a12 a13 a14 a15 a16,W22 (fun n=>KW n rows c o t f m a1 a2 a3 a4 a5 a6 a7 a8 a9 a10 a11 a12 a13 a14 a15 a16 q) (R60 t f q 0):=by
 induction rows with
 | nil=>exact fun _ c o q m hm a1 a2 a3 a4 a5 a6 a7 a8 a9 a10 a11 a12 a13 a14 a15 a16=>wU (by simp only[KW,Eg];exact wS ⟨rfl,rfl,Nat.le_refl _⟩)
 | cons x rows ih=>
  refine fun hr c o q m hm a1 a2 a3 a4 a5 a6 a7 a8 a9 a10 a11 a12 a13 a14 a15 a16=>wU ?_
  obtain⟨b,s,rfl⟩:=hr x (List.mem_cons_self ..);simp only[KW,Eg,Ch];refine c6 (t216 b s c o t f q hm) fun c' o' t' f' q' m' ⟨e1,e2,e3,h⟩=>?_
  subst e1;subst e2;subst e3;exact ih (fun y hy=>hr y (List.mem_cons_of_mem _ hy)) c' o' _ m' h _ _ _ _ _ _ _ _ _ _ _ _ _ _ _ _
include ht hf
theorem t60 {l:List D}(hl:AB Ab 90 l) (hd:DX 39 l) {a13 a14:List D}(h13:AB Ab 9 a13) (h14:AB Ab 54 a14) (hx:DW a14) (a1:Int) (a2:ByteArray) (a3:List D) (a4:Int) (a5:ByteArray) (a6 a7:List D) (a8 a9:Int) (a10 a11 a12:ByteArray) (hw:a8=19→a14.length≤a13.length) (a15 a16 c o:Int) {q m:List D}(hm:Aq Vb m) (hq:q.length+AU l+AU a14+1≤1000000000):
  W22 (fun n=>xJ n l c o t f q m a1 a2 a3 a4 a5 a6 a7 a8 a9 a10 a11 a12 a13 a14 a15 a16) (R60 t f q (AU l+AU a14+1)):=by
 have hd0:=BI l
 have h1:∀i,i≤l.length→∀rows c o q' m',Lc rows→Aq Vb m'→q'.length+AU (l.drop i)≤q.length+AU l→W22 (fun n=>MC n l a1 a2 a3 a4 a5 a6 a7 a8 a9 a10 a11 a12 a13 a14 a15 a16 l.length i rows c o t f m' q') (R60 t f q (AU l+AU a14+1)):=Ai _ fun i hi ih rows c o q' m' g0 g1 g2=>wU (by
  have:=hl.le;have hdi:=hd0 i;simp only[MC];refine wI (fun h=>tA hl (by omega) fun op s1 s2 ns k s3 ty z s4 pa ex body els arms z2 hy hw _ hs1 _ hns _ _ hty _ _ hpa hex hbo hel har _=>?_) fun _=>?_
  ·obtain⟨_,_,_,_,_,h5,h6,h7,h8⟩:=Wz hd hy;have hb:=zA ht hf body hbo ⟨_,h6⟩
   refine c7 (t107 ht hf hns hty hex h5 har hb.1 (zA ht hf els hel ⟨_,h7⟩).1 hb.2 (fun j v n b hj=>by
    obtain⟨v',n',b',e,_,_,hb⟩:=Wx (har.mem hj);cases e
    exact (zA ht hf b hb ⟨_,W0 h8 hj⟩).1) op s1 s2 k s3 z s4 hs1 pa z2 c o g1 (by omega)) fun c o t' f' m2 out q2 ⟨⟨e1,e2,hm2,hq2⟩,ho,hl2⟩=>?_
   subst e1;subst e2
   have h2:∀j,j≤out.length→∀rows,Lc rows→W22 (fun n=>MD n l a1 a2 a3 a4 a5 a6 a7 a8 a9 a10 a11 a12 a13 a14 a15 a16 l.length i c o t' f' m2 out q2 out.length j rows) (R60 t' f' q (AU l+AU a14+1)):=Ai _ fun j hj ih2 rows g0=>wU (by
    simp only[MD]
    exact wI (fun h=>wN (by omega) (wK (by omega) fun x hx=>by
     obtain⟨b,s,rfl⟩:=ho x (List.mem_of_getElem? hx);exact dW (wi (by omega) (ih2 (by omega) _ g0.cons)))) fun _=>wi (by omega) (ih (by omega) rows c o q2 m2 g0 hm2 (by omega)))
   exact wL (h2 0 (Nat.zero_le _) rows g0)
  ·refine c22 (Q:=fun c' o' t' f' m' b1 b2 b3 b4 b5 b6 b7 b8 b9 b10 b11 b12 b13 b14 b15 b16 q2=>t=t'∧f=f'∧Aq Vb m'∧q2.length≤q'.length+(AU a14+1)) ?_ fun c' o' t' f' m' b1 b2 b3 b4 b5 b6 b7 b8 b9 b10 b11 b12 b13 b14 b15 b16 q2 ⟨e1,e2,e3,e4⟩=>?_
   ·unfold zP;exact n6 (t62 ht hf h13 h14 hx a8 a9 a10 a11 a12 hw a15 c o g1 (by omega)) fun c o m2 q2 hm2 hq2=>wS ⟨rfl,rfl,hm2,hq2⟩
   ·subst e1;subst e2;exact wM (ADu rows g0 c' o' q2 m' e3 b1 b2 b3 b4 b5 b6 b7 b8 b9 b10 b11 b12 b13 b14 b15 b16) fun r hr=>⟨hr.1,hr.2.1,by have:=hr.2.2;omega⟩)
 unfold xJ;exact wL (h1 0 (Nat.zero_le _) [] c o q m (fun x hx=>by cases hx) hm (by simp))
end
def VK (l:List D) (x:D):Prop:=∃s vs,x= .agg (.str s::.int .u8 3::.str s::vs)∧Kh (.int .u8 3::.str s::vs)∧.agg (.int .u8 3::.str s::vs)∈l
theorem VK.map {l m:List D}(h:∀x∈m,VK l x):Aq Kh m:=fun x hx=>by
 obtain⟨s,vs,e,h1,_⟩:=h x hx;exact⟨s,_,e,h1⟩
theorem lZ {l:List D}{s:ByteArray}{vs:List D}(hv:Kh (.int .u8 3::.str s::vs)) (hl: .agg (.int .u8 3::.str s::vs)∈l):∀{m r:List D},(∀x∈m,VK l x)→G9 (.str s) (.int .u8 3::.str s::vs) m=some r→∀x∈r,VK l x
 | [],r,_,h,x,hx=>by cases h;rw[List.mem_singleton.1 hx];exact⟨s,vs,rfl,hv,hl⟩
 | y::m,r,hm,h,x,hx=>by
  obtain⟨k,us,rfl,_⟩:=hm y (List.mem_cons_self ..);unfold G9 at h;simp only[Zv]at h;split at h
  ·cases h
   rcases List.mem_cons.1 hx with rfl | hx
   ·exact⟨s,vs,rfl,hv,hl⟩
   simp_all
  ·split at h
   ·rename_i r' hr';cases h
    rcases List.mem_cons.1 hx with rfl | hx
    ·simp_all
    ·exact lZ hv hl (fun z hz=>hm z (List.mem_cons_of_mem _ hz)) hr' x hx
   ·cases h
  ·cases h
theorem t55 {l:List D}(hl:AB Ab 56 l) (hlen:l.length≤1000000000):W3 (fun n=>xE n l [] []) fun t f a=>Aq Kh t∧(∀x∈f,VK l x)∧(∀x∈a,∃b,x=D.bool b)∧a.length=l.length:=by
 have a:∀i,i≤l.length→∀t f a,Aq Kh t→(∀x∈f,VK l x)→(∀x∈a,∃b,x=D.bool b)→a.length=i→W3 (fun n=>KR n l l.length i t f a) fun t f a=>Aq Kh t∧(∀x∈f,VK l x)∧(∀x∈a,∃b,x=D.bool b)∧a.length=l.length:=Ai _ fun i hi ih t f a ht hf ha hal=>wU (by
  have happ:∀b:Bool,(∀x∈a++[D.bool b],∃b,x=D.bool b)∧(a++[D.bool b]).length=i+1:=fun b=>⟨fun x hx=>by
   grind,by simp[hal]⟩
  simp only[KR];refine wI (fun h=>qE hl (by omega) fun k s l3 z4 s5 l6 l7 z8 z9 s10 s11 s12 l13 l14 z15 z16 hx _ _ _ _ _ _ _ _ _ _ _ _ _ _ _ _ _=>?_) fun _=>wS ⟨ht,hf,ha,by dsimp only;omega⟩
  have hrow:=hl.mem hx;have hmem:=List.mem_of_getElem? hx;refine wI (fun hk=>?_) fun hk=>?_
  ·subst hk
   have h3:∀b f',(∀x∈f',VK l x)→W3 (fun n=>L6 n l l.length i t a b f') fun t f a=>Aq Kh t∧(∀x∈f,VK l x)∧(∀x∈a,∃b,x=D.bool b)∧a.length=l.length:=fun b f' hf'=>wU (by
    simp only[L6];exact wX (wA (ap (by simp;omega) (by omega)) (wi (by omega) (ih (by omega) t f' _ ht hf' (happ b).1 (happ b).2))))
   have h2:∀b,W3 (fun n=>L5 n l l.length i t f a 3 s l3 z4 s5 l6 l7 z8 z9 s10 s11 s12 l13 l14 z15 z16 b) fun t f a=>Aq Kh t∧(∀x∈f,VK l x)∧(∀x∈a,∃b,x=D.bool b)∧a.length=l.length:=fun b=>wU (by
    simp only[L5];refine wB (wI (fun _=>?_) fun _=>h3 _ _ hf)
    obtain⟨r,h1,_,_⟩:=Og (s:=s) (ws:=[.int .u8 3,.str s,.list true 4 l3,.int .u8 z4,.str s5,.list true 3 l6,.list true 15 l7,.int .u8 z8,.int .i64 z9,.str s10,.str s11,.str s12,.list false 1 l13,.list true 8 l14,.int .i64 z15,.int .i64 z16]) (V:=Kh) hrow (VK.map hf);have h4:=lZ hrow hmem hf h1;simp only[B5,h1];exact h3 _ _ h4)
   exact wF (VK.map hf) (fun vs hv=>d56 hv fun _ _ _ _ _ _ _ _ _ _ _ _ _ _ _ _ _ _ _ _ _ _ _ _ _ _ _ _ _ _ _ _ _=>h2 _) (h2 _)
  ·have h5:∀b t',Aq Kh t'→W3 (fun n=>L8 n l l.length i f a b t') fun t f a=>Aq Kh t∧(∀x∈f,VK l x)∧(∀x∈a,∃b,x=D.bool b)∧a.length=l.length:=fun b t' ht'=>wU (by
    simp only[L8];exact wX (wA (ap (by simp;omega) (by omega)) (wi (by omega) (ih (by omega) t' f _ ht' hf (happ b).1 (happ b).2))))
   have h4:∀b,W3 (fun n=>L7 n l l.length i t f a k s l3 z4 s5 l6 l7 z8 z9 s10 s11 s12 l13 l14 z15 z16 b) fun t f a=>Aq Kh t∧(∀x∈f,VK l x)∧(∀x∈a,∃b,x=D.bool b)∧a.length=l.length:=fun b=>wU (by
    simp only[L7];exact wB (wI (fun _=>wP ht hrow fun r hr _=>h5 _ r hr) fun _=>h5 _ _ ht))
   exact wF ht (fun vs hv=>d56 hv fun _ _ _ _ _ _ _ _ _ _ _ _ _ _ _ _ _ _ _ _ _ _ _ _ _ _ _ _ _ _ _ _ _=>h4 _) (h4 _))
 unfold xE;exact wL (a 0 (Nat.zero_le _) [] [] [] .nil (fun x hx=>by cases hx) (fun x hx=>by cases hx) rfl)
end Go.Proofs.YtjfmnfncmfepnaaGreatDoor
end
set_option linter.unusedVariables false
noncomputable section
namespace Go.Proofs.YtjfmnfncmfepnaaGreatDoor
open Go Go.AM
def Mn (l:List D):Prop:=∃vs,D.agg (.int .u8 3::.str Gg::vs)∈l
theorem bsq:∀{a b:ByteArray},(a==b)=true→a=b
 | ⟨a⟩,⟨b⟩,h=>by rw[eq_of_beq (show (a==b)=true from h)]
theorem QH {e:Bool}{s:ByteArray}{y:D}:∀{l:List D},DS e (.str s) l=some (some y)→∃vs,D.agg (.str s::vs)∈l
 | [],h=>by cases h
 | x::l,h=>by
  unfold DS at h;split at h
  ·cases h
  ·rename_i k vs r e1;cases e1
   split at h
   ·rename_i hk;cases k<;>simp only[Zv]at hk<;>try (cases hk;done)
    rw[bsq (Option.some.inj hk)];simp_all
   ·obtain⟨vs,hv⟩:=QH h;grind
   ·cases h
  ·cases h
theorem t63 {l t f q:List D}(hf:∀x∈f,VK l x) (hq:q.length+1≤1000000000):W3 (fun n=>xK n t f q) fun _ _ q'=>q'=[]→Mn l:=by
 have e:W3 (fun n=>Bh n false 62 0 t f q) fun _ _ q'=>q'=[]→Mn l:=by
  unfold Bh;exact wB (wI (fun _=>wX (wA (ap (by simp;omega) (by omega)) (wS (by simp)))) fun h=>absurd rfl h)
 have e':W3 (fun n=>Dq (Bh n false 62 0 t f q) fun a b c=>some (a,b,c)) fun _ _ q'=>q'=[]→Mn l:=c3 e fun _ _ _ h=>wS h
 obtain⟨r,h1,h2⟩:=LW (e:=true) (s:=Gg) (VK.map hf);unfold xK;simp only[findF,h1];cases r with
 | none=>exact e'
 | some y=>
  obtain⟨vs,hv,rfl⟩:=h2 y rfl
  have hm:Mn l:=by
   obtain⟨ws,h⟩:=QH h1;obtain⟨s,us,e,_,h2⟩:=hf _ h;cases e
   exact⟨us,h2⟩
  exact d56 hv fun _ _ _ _ _ _ _ _ _ _ _ _ _ _ _ _ _ _ _ _ _ _ _ _ _ _ _ _ _ _ _ _ _=>wL (wI (fun _=>wI (fun _=>c3 (t56 _ _ _ t f hq) fun _ _ _ _=>wS fun _=>hm) fun _=>e') fun _=>e')
theorem dQ {γ:Type}{P:γ→Prop}{b:Bool}{k:Nat→Bool→Option γ}(h:Wp (fun n=>k n b) P):Wp (fun n=>FP (.bool b) (k n)) P:=h
theorem t20 {l:List D}(hl:AB Ab 56 l) (hw:AU l≤20000) (hlen:l.length≤1000000000):Wp (fun n=>xL n l) fun q=>q=[]→(∀x∈l,mY x)∧Mn l:=by
 unfold xL;refine c1 (t54 hl) fun b hb=>wB (wI (fun _=>wX (wS (by simp))) fun hb2=>?_)
 have hb:=hb (by simpa using hb2)
 refine c3 (t55 hl hlen) fun t f a ⟨ht,hf,ha,hal⟩=>wL ?_
 have h1:∀i,i≤l.length→∀q,q.length+AU (l.drop i)≤20000→Wp (fun n=>I0 n l a l.length i t f q) fun q=>q=[]→(∀x∈l,mY x)∧Mn l:=Ai _ fun i hi ih q hq=>wU (by
  simp only[I0];refine wI (fun h=>qE hl (by omega) fun k s l3 z4 s5 l6 l7 z8 z9 s10 s11 s12 l13 l14 z15 z16 hx hw _ _ h3 _ _ h6 h7 _ _ _ _ _ h13 h14 _ _=>wN (by omega) (wK (by omega) fun x hx2=>?_)) fun _=>c3 (t63 hf (by omega)) fun _ _ _ h=>wS fun e=>⟨hb,h e⟩
  obtain⟨b,rfl⟩:=ha x (List.mem_of_getElem? hx2);have hrow:=hb _ (List.mem_of_getElem? hx);refine dQ (wB (c3 (t56 _ _ _ t f (by omega)) fun t1 f1 q1 ⟨e1,e2,e3⟩=>?_))
  subst e1;subst e2;refine c3 (t57 ht h3 _ _ _ _ _ _ _ _ _ _ _ _ _ _ _ _ _ (by omega)) fun t1 f1 q2 ⟨e1,e2,e4⟩=>?_
  subst e1;subst e2;refine wI (fun hk=>?_) fun _=>wi (by omega) (ih (by omega) q2 (by omega))
  subst hk;obtain⟨w1,w2,w3⟩:=hrow rfl;refine c3 (t58 ht h6 _ _ _ _ _ (by omega)) fun t1 f1 q3 ⟨e1,e2,e5⟩=>?_
  subst e1;subst e2;unfold sM;refine c3 (Q:=fun a b c=>a=t1∧b=f1∧c=q3) (wS ⟨rfl,rfl,rfl⟩) fun a1 a2 a3 ⟨e1,e2,e6⟩=>?_
  subst e1;subst e2;subst e6
  have h2:∀j,j≤l3.length→∀m,Aq Vb m→Wp (fun n=>ME n l a l.length i 3 s l3 z4 s5 l6 l7 z8 z9 s10 s11 s12 l13 l14 z15 z16 a1 a2 a3 l3.length j l3 m) fun q=>q=[]→(∀x∈l,mY x)∧Mn l:=Ai _ fun j hj ih2 m hm=>wU (by
   have:=h3.le;simp only[ME];refine wI (fun h=>Xx h3 (by omega) fun _ _ _ _ _ _ _ _ _ _=>wP hm ⟨_,rfl⟩ fun r hr _=>wi (by omega) (ih2 (by omega) r hr)) fun _=>wL (c22 (t60 ht (VK.map hf) h7 w3 h13 h14 w2 3 s l3 z4 s5 l6 l7 z8 z9 s10 s11 s12 w1 z15 z16 _ _ hm (by omega)) fun _ _ _ _ _ _ _ _ _ _ _ _ _ _ _ _ _ _ _ _ _ q4 ⟨e1,e2,e6⟩=>?_)
   subst e1;subst e2
   exact wI (fun _=>c3 (t56 _ _ _ _ _ (by omega)) fun _ _ q5 ⟨e1,e2,e7⟩=>by
    subst e1;subst e2;exact wi (by omega) (ih (by omega) q5 (by omega))) fun _=>c3 (t56 _ _ _ _ _ (by omega)) fun _ _ q5 ⟨e1,e2,e7⟩=>by
    subst e1;subst e2;exact wi (by omega) (ih (by omega) q5 (by omega)))
  exact wL (h2 0 (Nat.zero_le _) [] .nil))
 exact h1 0 (Nat.zero_le _) [] (by simpa using hw)
end Go.Proofs.YtjfmnfncmfepnaaGreatDoor
end
set_option linter.unusedVariables false
noncomputable section
namespace Go.Proofs.YtjfmnfncmfepnaaGreatDoor
open Go Go.AM
theorem nx {p:D→Prop}:∀y∈([]:List D),p y:=fun y h=>by cases h
def Cd (x:D):Prop:=∃(op a b c z:Int) (s:ByteArray) (ks ps vs:List D),x= .agg [.int .u8 op,.int .i64 a,.int .i64 b,.int .i64 c,.list false 1 ks,.list false 1 ps,.int .i64 z,.str s,.list false 1 vs]∧0≤op∧op≤255∧(∀y∈ks,∃z,y=D.int .i64 z)∧(∀y∈ps,∃s,y=D.str s)∧ -9223372036854775808≤z∧z≤9223372036854775807
def kl:D→Nat
 | .agg [_,_,_,_,.list _ _ ks,_,_,_,_]=>ks.length
 | _=>0
def Cx (c c':List D):Prop:=(∀x∈c',Cd x)∧c.map kl<+:c'.map kl
section
variable {c:List D}
theorem Cx.len {c':List D}(h:Cx c c'):c.length≤c'.length:=by
 have:=h.2.length_le;simpa using this
variable {a b:List D}
theorem Cx.trans (h:Cx a b) (h2:Cx b c):Cx a c:=⟨h2.1,h.2.trans h2.2⟩
theorem Cx.refl (h:∀x∈a,Cd x):Cx a a:=⟨h,List.prefix_refl _⟩
theorem Cx.app (h:Cx a b) {x:D}(hx:Cd x):Cx a (b++[x]):=⟨fun y hy=>by
 rcases List.mem_append.1 hy with hy | hy
 ·exact h.1 y hy
 simp_all,h.2.trans (by simp_all)⟩
theorem Cx.kl (h:Cx a b) {i:Nat}(hi:i<a.length):(b.map kl)[i]?=(a.map kl)[i]?:=by
 obtain⟨t,e⟩:=h.2;grind
theorem Cx.set (h:Cx a b) {i:Nat}{x:D}(hx:Cd x) (hk:(b.map YtjfmnfncmfepnaaGreatDoor.kl)[i]?=some (YtjfmnfncmfepnaaGreatDoor.kl x)):Cx a (b.set i x):=by
 refine⟨fun y hy=>?_,?_⟩
 ·rcases List.mem_or_eq_of_mem_set hy with hy | rfl
  ·exact h.1 y hy
  ·exact hx
 ·obtain⟨hi,e⟩:=List.getElem?_eq_some_iff.1 hk;rw[List.map_set,←e,List.set_getElem_self];exact h.2
def Lf (x:D):Prop:=∃ns body,x= .agg [.list false 1 ns,.list true 15 body]∧AB Ab 9 ns∧AB Ab 90 body∧(∃d,DX d body)∧AU ns+AU body≤20000
mutual
/-- How many spawns there are. -/
def sp:D→Nat
 | .agg [.int _ op,_,_,_,_,_,_,_,_,_,_,.list _ _ body,.list _ _ els,.list _ _ arms,_]=>(if op=10 then 1 else 0)+Dp body+Dp els+Dp arms
 | .agg [_,_,.list _ _ b]=>Dp b
 | _=>0
def Dp:List D→Nat
 | []=>0
 | x::l=>sp x+Dp l
end
def lwr:D→Nat
 | .agg [_,.list _ _ b]=>1+Dp b
 | _=>0
def lw:List D→Nat
 | []=>0
 | x::l=>lwr x+lw l
theorem Rx (a b:List D):lw (a++b)=lw a+lw b:=by
 induction a with
 | nil=>simp[lw]
 | cons x a ih=>simp only[List.cons_append,lw,ih];omega
theorem Ry (h:∀x∈a,Lf x):a.length≤lw a:=by
 induction a with
 | nil=>exact Nat.le_refl _
 | cons x a ih=>
  obtain⟨ns,b,rfl,_⟩:=h x (List.mem_cons_self ..);have:=ih fun y hy=>h y (List.mem_cons_of_mem _ hy)
  simp only[lw,lwr,List.length_cons];omega
def Lo (a:List D) (k:Nat) (b:List D):Prop:=∃e,b=a++e∧(∀x∈e,Lf x)∧lw e=k
theorem Lo.refl:Lo a 0 a:=⟨[],by simp,nx,rfl⟩
theorem Lo.trans {j k m:Nat}(h:Lo a j b) (h2:Lo b k c) (e:m=j+k):Lo a m c:=by
 obtain⟨x,rfl,h3,h4⟩:=h;obtain⟨y,rfl,h5,h6⟩:=h2;exact⟨x++y,by simp,fun z hz=>(List.mem_append.1 hz).elim (h3 z) (h5 z),by rw[Rx];omega⟩
theorem Lo.len {k:Nat}(h:Lo a k b):b.length≤a.length+k:=by
 obtain⟨x,rfl,h3,h4⟩:=h;have:=Ry h3;simp_all
theorem Lo.one {ns:List D}(h1:AB Ab 9 ns) (h2:AB Ab 90 b) (h3:∃d,DX d b) (h4:AU ns+AU b≤20000):Lo a (1+Dp b) (a++[.agg [.list false 1 ns,.list true 15 b]]):=
 ⟨_,rfl,fun x hx=>by rw[List.mem_singleton.1 hx];exact⟨ns,b,rfl,h1,h2,h3,h4⟩,by simp[lw,lwr]⟩
end
section
variable {γ:Type}{P:γ→Prop}{it fu ki lf co mp c0:List D}{mn pr z:Int}{nm:ByteArray}{w k:Nat}
def Se (it:List D) (mn:Int) (nm:ByteArray) (pr:Int) (fu ki lf co:List D) (w:Nat):List D→Int→ByteArray→Int→Int→List D→List D→List D→List D→List D→Prop:=fun it' mn' nm' pr' _ mp' fu' ki' lf' co'=>it'=it∧mn'=mn∧nm'=nm∧pr'=pr∧fu'=fu∧ki'=ki∧lf'=lf∧Aq Vi mp'∧Cx co co'∧co'.length≤co.length+w
def St (it:List D) (mn:Int) (nm:ByteArray) (pr:Int) (fu ki lf co:List D) (w k:Nat):List D→Int→ByteArray→Int→Int→List D→List D→List D→List D→List D→Prop:=fun it' mn' nm' pr' _ mp' fu' ki' lf' co'=>it'=it∧mn'=mn∧nm'=nm∧pr'=pr∧fu'=fu∧ki'=ki∧Lo lf k lf'∧Aq Vi mp'∧Cx co co'∧co'.length≤co.length+w
section
variable {co':List D}
theorem se (hm:Aq Vi mp) (hc:Cx co co') (hl:co'.length≤co.length+w):Se it mn nm pr fu ki lf co w it mn nm pr z mp fu ki lf co':=⟨rfl,rfl,rfl,rfl,rfl,rfl,rfl,hm,hc,hl⟩
theorem st {lf':List D}(ho:Lo lf k lf') (hm:Aq Vi mp) (hc:Cx co co') (hl:co'.length≤co.length+w):St it mn nm pr fu ki lf co w k it mn nm pr z mp fu ki lf' co':=⟨rfl,rfl,rfl,rfl,rfl,rfl,ho,hm,hc,hl⟩
theorem qH (hm:Aq Vi mp) (hc:Cx co co') (hl:co'.length≤co.length+w):DQ (fun _=>some (it,mn,nm,pr,z,mp,fu,ki,lf,co')) (Se it mn nm pr fu ki lf co w):=wS (se hm hc hl)
theorem mZ {lf':List D}(ho:Lo lf k lf') (hm:Aq Vi mp) (hc:Cx co co') (hl:co'.length≤co.length+w):DQ (fun _=>some (it,mn,nm,pr,z,mp,fu,ki,lf',co')) (St it mn nm pr fu ki lf co w k):=wS (st ho hm hc hl)
variable {A:Nat→Option _}{K:Nat→List D→Int→ByteArray→Int→Int→List D→List D→List D→List D→List D→Option γ}
theorem Ol (h:DQ A (Se it mn nm pr fu ki lf co w)) (hc:Cx c0 co) (hk:∀z mp co',Aq Vi mp→Cx c0 co'→co.length≤co'.length∧co'.length≤co.length+w→Wp (fun n=>K n it mn nm pr z mp fu ki lf co') P):Wp (fun n=>BO (A n) (K n)) P:=
 lW h fun _ _ _ _ z mp _ _ _ co' ⟨e1,e2,e3,e4,e5,e6,e7,h1,h2,h3⟩=>by
  subst e1;subst e2;subst e3;subst e4;subst e5;subst e6;subst e7;exact hk z mp co' h1 (hc.trans h2) ⟨h2.len,h3⟩
theorem t10 (h:DQ A (St it mn nm pr fu ki lf co w k)) (hc:Cx c0 co) (hk:∀z mp lf' co',Aq Vi mp→Lo lf k lf'→Cx c0 co'→co.length≤co'.length∧co'.length≤co.length+w→Wp (fun n=>K n it mn nm pr z mp fu ki lf' co') P):Wp (fun n=>BO (A n) (K n)) P:=
 lW h fun _ _ _ _ z mp _ _ lf' co' ⟨e1,e2,e3,e4,e5,e6,ho,h1,h2,h3⟩=>by
  subst e1;subst e2;subst e3;subst e4;subst e5;subst e6;exact hk z mp lf' co' h1 ho (hc.trans h2) ⟨h2.len,h3⟩
variable {op a b c v:Int}{s:ByteArray}{ks ps:List D}
theorem cd {vs:List D}(ho:0≤op∧op≤255) (h1:∀y∈ks,∃z,y=D.int .i64 z) (h2:∀y∈ps,∃s,y=D.str s) (hv: -9223372036854775808≤v∧v≤9223372036854775807:=by omega):Cd (.agg [.int .u8 op,.int .i64 a,.int .i64 b,.int .i64 c,.list false 1 ks,.list false 1 ps,.int .i64 v,.str s,.list false 1 vs]):=⟨op,a,b,c,v,s,ks,ps,vs,rfl,ho.1,ho.2,h1,h2,hv⟩
abbrev K11 (γ:Type):=Nat→Int→List D→Int→ByteArray→Int→Int→List D→List D→List D→List D→List D→Option γ
theorem zW {K:K11 γ}{vs:List D}(hc:Cx c0 co) (hl:co.length+1≤1000000000) (h1:∀y∈ks,∃z,y=D.int .i64 z) (h2:∀y∈ps,∃s,y=D.str s) (hk:∀co',Cx c0 co'→co'.length=co.length+1→Wp (fun n=>K n co.length it mn nm pr z mp fu ki lf co') P) (ho:0≤op∧op≤255:=by omega) (hv: -9223372036854775808≤v∧v≤9223372036854775807:=by omega):Wp (fun n=>BW (Xw n op a b c v s it mn nm pr z fu ki lf co mp ks ps vs) (K n)) P:=by
 unfold Xw
 exact yL (Q:=fun i it' mn' nm' pr' z' mp' fu' ki' lf' co'=>(i,it',mn',nm',pr',z',mp',fu',ki',lf',co')=((co.length:Int),it,mn,nm,pr,z,mp,fu,ki,lf,co++[_])) (wA (ap (by simp;omega) (by omega)) (wL (wW (x:=co.length) (by simp) (by omega) (wS rfl)))) fun _ _ _ _ _ _ _ _ _ _ _ e=>by
  cases e
  exact hk _ (hc.app (cd ho h1 h2 hv)) (by simp)
theorem p1 {K:K11 γ}(hc:Cx c0 co) (hl:co.length+1≤1000000000) (hk:∀co',Cx c0 co'→co'.length=co.length+1→Wp (fun n=>K n co.length it mn nm pr z mp fu ki lf co') P) (ho:0≤op∧op≤255:=by omega) (hv: -9223372036854775808≤v∧v≤9223372036854775807:=by omega):Wp (fun n=>BW (B3 n op a b c v s it mn nm pr z fu ki lf co mp) (K n)) P:=by
 unfold B3
 exact yL (Q:=fun i it' mn' nm' pr' z' mp' fu' ki' lf' co'=>(i,it',mn',nm',pr',z',mp',fu',ki',lf',co')=((co.length:Int),it,mn,nm,pr,z,mp,fu,ki,lf,co++[_])) (wX (wA (ap (by simp;omega) (by omega)) (wL (wW (x:=co.length) (by simp) (by omega) (wS rfl))))) fun _ _ _ _ _ _ _ _ _ _ _ e=>by
  cases e
  exact hk _ (hc.app (cd ho nx nx hv)) (by simp)
theorem p2 {K:K11 γ}(hc:Cx c0 co) (hl:co.length+1≤1000000000) (h1:∀y∈ks,∃z,y=D.int .i64 z) (hk:∀co',Cx c0 co'→co'.length=co.length+1→(co'.map kl)[co.length]?=some ks.length→Wp (fun n=>K n co.length it mn nm pr z mp fu ki lf co') P) (ho:0≤op∧op≤255:=by omega) (hv: -9223372036854775808≤v∧v≤9223372036854775807:=by omega):Wp (fun n=>BW (Ob n op a b c v s it mn nm pr z fu ki lf co mp ks) (K n)) P:=by
 unfold Ob
 exact yL (Q:=fun i it' mn' nm' pr' z' mp' fu' ki' lf' co'=>(i,it',mn',nm',pr',z',mp',fu',ki',lf',co')=((co.length:Int),it,mn,nm,pr,z,mp,fu,ki,lf,co++[_])) (wA (ap (by simp;omega) (by omega)) (wL (wW (x:=co.length) (by simp) (by omega) (wS rfl)))) fun _ _ _ _ _ _ _ _ _ _ _ e=>by
  cases e
  exact hk _ (hc.app (cd ho h1 nx hv)) (by simp) (by simp[YtjfmnfncmfepnaaGreatDoor.kl])
theorem mA {K:K11 γ}(hc:Cx c0 co) (hl:co.length+1≤1000000000) (hk:∀co',Cx c0 co'→co'.length=co.length+1→Wp (fun n=>K n co.length it mn nm pr z mp fu ki lf co') P) (ho:0≤op∧op≤255:=by omega):Wp (fun n=>BW (Oa n op it mn nm pr z fu ki lf co mp) (K n)) P:=by
 unfold Oa
 exact yL (Q:=fun i it' mn' nm' pr' z' mp' fu' ki' lf' co'=>∃c,(i,it',mn',nm',pr',z',mp',fu',ki',lf',co')=((co.length:Int),it,mn,nm,pr,z,mp,fu,ki,lf,c)∧Cx c0 c∧c.length=co.length+1) (p1 hc hl (fun c h h2=>wS ⟨c,rfl,h,h2⟩) ho) fun _ _ _ _ _ _ _ _ _ _ _ ⟨c,e,h,h2⟩=>by
  simp_all
theorem p65 {K:K11 γ}(hm:Aq Vi mp) (hk:∀i z mp,Aq Vi mp→Wp (fun n=>K n i it mn nm pr z mp fu ki lf co) P):Wp (fun n=>BW (pU n s it mn nm pr z fu ki lf co mp) (K n)) P:=by
 unfold pU
 exact yL (Q:=fun i it' mn' nm' pr' z' mp' fu' ki' lf' co'=>∃m,(it',mn',nm',pr',mp',fu',ki',lf',co')=(it,mn,nm,pr,m,fu,ki,lf,co)∧Aq Vi m) (wT (wT (wP hm ⟨_,rfl⟩ fun r hr _=>wT (wS ⟨r,rfl,hr⟩)))) fun i _ _ _ _ z _ _ _ _ _ ⟨m,e,h⟩=>by
  simp_all
theorem ZS {K:Nat→Int→Int→List D→Int→ByteArray→Int→Int→List D→List D→List D→List D→List D→List D→Option γ}(hm:Aq Vi mp) (hp:AB Ab 9 ps) (hl:ps.length≤1000000000) (hk:∀i ps',(∀y∈ps',∃s,y=D.str s)→Wp (fun n=>K n op i it mn nm pr z fu ki lf co mp ps') P):Wp (fun n=>K2 (KQ n op s ps it mn nm pr z fu ki lf co mp) (K n)) P:=by
 have h:Wp (fun n=>lO n ps) fun l=>∀y∈l,∃s,y=D.str s:=by
  unfold lO
  have e:Wp (fun n=>Be (HY ps=true) (Bw 16 [] ps fun l2=>some l2)) fun l=>∀y∈l,∃s,y=D.str s:=wN (by
   refine List.all_eq_true.2 fun x hx=>?_
   obtain⟨s,rfl,_⟩:=yH (hp.2 _ hx)
   rfl) (wA (ap (by simp;omega) (by omega)) (wS fun y hy=>by
    obtain⟨s,rfl,_⟩:=yH (hp.2 _ (by simpa using hy))
    exact⟨s,rfl⟩))
  refine Eq.mpr ?_ e;congr 1;funext n;exact oH fun e=>by subst e;rfl
 unfold KQ
 exact c13 (Q:=fun op' i it' mn' nm' pr' z' fu' ki' lf' co' mp' ps'=>(op',it',mn',nm',pr',z',fu',ki',lf',co',mp')=(op,it,mn,nm,pr,z,fu,ki,lf,co,mp)∧∀y∈ps',∃s,y=D.str s) (wF hm (fun vs ⟨z,e⟩=>by subst e;exact dZ (c1 h fun l hl=>wS ⟨rfl,hl⟩)) (c1 h fun l hl=>wS ⟨rfl,hl⟩)) fun _ i _ _ _ _ _ _ _ _ _ _ ps' ⟨e,h⟩=>by
  simp_all
end
end
end Go.Proofs.YtjfmnfncmfepnaaGreatDoor
end
set_option linter.unusedVariables false
noncomputable section
namespace Go.Proofs.YtjfmnfncmfepnaaGreatDoor
open Go Go.AM
section
variable {γ:Type}{P:γ→Prop}
def Ud (l:List D):Prop:=∀x∈l,∃k v:Int,x= .agg [.int .u8 k,.int .u8 v]∧0≤v∧v≤255
theorem QI {k v:Int}{l:List D}{K:Nat→List D→Option γ}(h:Ud l) (h1:∀r,Ud r→Wp (fun n=>K n r) P) (hv:0≤v∧v≤255:=by omega):Wp (fun n=>B5 (.int .u8 k) [.int .u8 v] l (K n)) P:=by
 have:∀{l:List D},Ud l→∃r,G9 (.int .u8 k) [.int .u8 v] l=some r∧Ud r:=fun {l} h=>by
  induction l with
  | nil=>exact⟨_,rfl,fun x hx=>by grind⟩
  | cons x l ih=>
   obtain⟨a,b,rfl,hb⟩:=h x (List.mem_cons_self ..);have ht:Ud l:=fun y hy=>h y (List.mem_cons_of_mem _ hy)
   obtain⟨r,h2,h3⟩:=ih ht;unfold G9;simp only[Zv,decide_true];split
   ·exact⟨_,rfl,fun y hy=>by
     rcases List.mem_cons.1 hy with rfl | hy
     ·grind
     ·exact ht y hy⟩
   ·rw[h2]
    exact⟨_,rfl,fun y hy=>by
     rcases List.mem_cons.1 hy with rfl | hy
     ·grind
     ·exact h3 y hy⟩
   ·rename_i e;cases e
 obtain⟨r,h2,h3⟩:=this h;simp only[B5,h2];exact h1 r h3
theorem wFI {k:Int}{l:List D}{K:Nat→Int→Option γ}{K0:Nat→Option γ}(h:Ud l) (h1:∀v,0≤v∧v≤255→Wp (fun n=>K n v) P) (h0:Wp K0 P):Wp (fun n=>findF false (.int .u8 k) l (fun x=>Ha x (K n)) (K0 n)) P:=by
 induction l with
 | nil=>exact h0
 | cons x l ih=>
  obtain⟨a,b,rfl,hb⟩:=h x (List.mem_cons_self ..);have ih:=ih fun y hy=>h y (List.mem_cons_of_mem _ hy)
  simp only[findF]at ih ⊢;unfold DS;simp only[Zv,decide_true];split
  ·rename_i e;split at e
   ·cases e;exact h1 _ hb
   ·simp_all
   ·cases e
  ·simp_all
  grind
end
theorem Ud.nil:Ud []:=nx
theorem u8 {a:Int}(h:(Lit.int .u8 a).wf=true):0≤a∧a≤255:=by
 have:IntKind.u8.min≤a∧a≤IntKind.u8.max:=by simpa [Lit.wf] using h
 exact this
theorem i8 {a:Int}(h:(Lit.int .i64 a).wf=true): -9223372036854775808≤a∧a≤9223372036854775807:=by
 have:IntKind.i64.min≤a∧a≤IntKind.i64.max:=by simpa [Lit.wf] using h
 exact this
theorem t110:Tl vC:=⟨(),⟨38,fun n hn=>by
 obtain⟨m,rfl⟩:∃m,n=m+38:=⟨n - 38,by omega⟩
 rfl⟩,trivial⟩
section
variable {it fu ki lf co mp l6:List D}(hit:AB Ab 56 it) (h6:AB Ab 9 l6) (hn6:l6.length≤1000000000) (hm:Aq Vi mp) (hc:∀x∈co,Cd x) (hn:co.length+1≤1000000000) (mn pr z:Int) (nm:ByteArray) (z1 z2:Int) (s3 s4 s5:ByteArray) (l7:List D) (z8:Int)
include hit h6 hn6 hm hc hn
theorem o1 {op a b c v:Int}{s:ByteArray}(ho:0≤op∧op≤255) (hv: -9223372036854775808≤v∧v≤9223372036854775807:=by omega):DQ (fun n=>BW (B3 n op a b c v s it mn nm pr z fu ki lf co mp) fun _ a1 a2 a3 a4 a5 a6 a7 a8 a9 a10=>some (a1,a2,a3,a4,a5,a6,a7,a8,a9,a10)) (Se it mn nm pr fu ki lf co 1):=
 p1 (Cx.refl hc) hn (fun co' h h2=>qH hm h (by omega)) ho hv
theorem t158 (hz2: -9223372036854775808≤z2∧z2≤9223372036854775807):DQ (fun n=>We n z1 z2 s3 s4 s5 l6 l7 z8 it mn nm pr z fu ki lf co mp) (Se it mn nm pr fu ki lf co 1):=by
 have h:∀v,DQ (fun n=>H5 n z2 it mn nm pr z fu ki lf co mp v) (Se it mn nm pr fu ki lf co 1):=fun v=>wU (by
  simp only[H5];exact wT (o1 hit h6 hn6 hm hc hn mn pr z nm (by omega)))
 unfold We;exact QI .nil fun _ h1=>QI h1 fun _ h1=>QI h1 fun _ h1=>wFI h1 (fun v _=>h v) (h 0)
theorem o2 {op:Int}(ho:0≤op∧op≤255):DQ (fun n=>K2 (KQ n op s5 l6 it mn nm pr z fu ki lf co mp) fun z25 z26 l27 z28 s29 z30 z31 l32 l33 l34 l35 l36 l37=>BW (Xw n z25 z26 (0:Int) (0:Int) (0:Int) ByteArray.empty l27 z28 s29 z30 z31 l32 l33 l34 l35 l36 ([]:List D) l37 ([]:List D)) fun z38 l39 z40 s41 z42 z43 l44 l45 l46 l47 l48=>some (l39,z40,s41,z42,z43,l44,l45,l46,l47,l48)) (Se it mn nm pr fu ki lf co 1):=
 ZS hm h6 hn6 fun i ps h=>zW (Cx.refl hc) hn nx h (fun co' h h2=>qH hm h (by omega)) ho
theorem t159:DQ (fun n=>Wf n z1 z2 s3 s4 s5 l6 l7 z8 it mn nm pr z fu ki lf co mp) (Se it mn nm pr fu ki lf co 1):=by
 have h:∀v,0≤v∧v≤255→DQ (fun n=>H6 n s5 l6 it mn nm pr z fu ki lf co mp v) (Se it mn nm pr fu ki lf co 1):=fun v hv=>wU (by
  simp only[H6];exact o2 hit h6 hn6 hm hc hn mn pr z nm s5 hv)
 unfold Wf;exact QI .nil fun _ h1=>QI h1 fun _ h1=>QI h1 fun _ h1=>wFI h1 h (h 0 (by omega))
theorem t160:DQ (fun n=>Wg n z1 z2 s3 s4 s5 l6 l7 z8 it mn nm pr z fu ki lf co mp) (Se it mn nm pr fu ki lf co 1):=by
 unfold Wg;exact wT (o1 hit h6 hn6 hm hc hn mn pr z nm (by omega))
theorem t161:DQ (fun n=>Wh n z1 z2 s3 s4 s5 l6 l7 z8 it mn nm pr z fu ki lf co mp) (Se it mn nm pr fu ki lf co 1):=by
 unfold Wh;exact wT (o1 hit h6 hn6 hm hc hn mn pr z nm (by omega))
theorem t162:DQ (fun n=>Wi n z1 z2 s3 s4 s5 l6 l7 z8 it mn nm pr z fu ki lf co mp) (Se it mn nm pr fu ki lf co 1):=by
 have h3:∀a,DQ (fun n=>H7 n l7 mn nm pr z fu ki lf co mp a it) (Se it mn nm pr fu ki lf co 1):=fun a=>wU (by
  simp only[H7];exact wL (o1 hit h6 hn6 hm hc hn mn pr z nm (by omega)))
 have h:∀i,i≤it.length→∀a,DQ (fun n=>Gv n s3 l7 it mn nm pr z fu ki lf co mp it.length a i it) (Se it mn nm pr fu ki lf co 1):=Ai _ fun i hi ih a=>wU (by
  have:=hit.le;simp only[Gv];refine wI (fun h=>qE hit (by omega) fun k s _ _ _ _ _ _ _ _ _ _ _ _ _ _ _ _ _ _ _ _ _ _ _ _ _ _ _ _ _ _ _ _=>?_) fun _=>h3 a
  have h2:DQ (fun n=>H8 n s3 l7 it mn nm pr z fu ki lf co mp it.length a i it k) (Se it mn nm pr fu ki lf co 1):=wU (by
   simp only[H8];exact wI (fun _=>wT (wi (by omega) (ih (by omega) _))) fun _=>wi (by omega) (ih (by omega) _))
  exact wI (fun _=>wI (fun _=>h3 a) fun _=>h2) fun _=>h2)
 unfold Wi;exact wL (h 0 (Nat.zero_le _) 0)
omit h6 hn6 hm hc hn in
theorem ADw {γ:Type}{P:γ→Prop}{K:Nat→List D→List D→Int→ByteArray→Int→Int→List D→List D→List D→List D→List D→Option γ}(hk:∀l,AB Ab 58 l→l.length≤AU it→Wp (fun n=>K n l it mn nm pr z fu ki lf co mp) P):Wp (fun n=>BW (UR n z1 s3 it mn nm pr z fu ki lf co mp) (K n)) P:=by
 let Q:List D→List D→Int→ByteArray→Int→Int→List D→List D→List D→List D→List D→Prop:=fun l it' mn' nm' pr' z' fu' ki' lf' co' mp'=>(it',mn',nm',pr',z',fu',ki',lf',co',mp')=(it,mn,nm,pr,z,fu,ki,lf,co,mp)∧AB Ab 58 l∧l.length≤AU it
 have h:∀i,i≤it.length→zU (fun n=>Gw n z1 s3 it mn nm pr z fu ki lf co mp it.length i it) Q:=Ai _ fun i hi ih=>wU (by
  have:=hit.le;simp only[Gw];have hd:=BI it i
  exact wI (fun h=>qE hit (by omega) fun k s l3 _ _ _ _ _ _ _ _ _ _ _ _ _ hx hw _ _ hl _ _ _ _ _ _ _ _ _ _ _ _ _=>wI (fun _=>wI (fun _=>wS ⟨rfl,hl,by
   have:l3.length≤AU l3:=by
    replace hl:=hl.2;clear hw hx
    induction l3 with
    | nil=>exact Nat.le_refl _
    | cons y l ih=>
     obtain⟨_,_,_,_,rfl,_⟩:=lU (hl y (List.mem_cons_self ..));have:=ih fun y hy=>hl y (List.mem_cons_of_mem _ hy)
     simp only[AU,wt,List.length_cons];omega
   dsimp only;omega⟩) fun _=>wi (by omega) (ih (by omega))) fun _=>wi (by omega) (ih (by omega))) fun _=>wS ⟨rfl,.nil,Nat.zero_le _⟩)
 unfold UR
 exact yL (wL (h 0 (Nat.zero_le _))) fun l _ _ _ _ _ _ _ _ _ _ ⟨e,h,h2⟩=>by
  simp_all
theorem t163:DQ (fun n=>Wk n z1 z2 s3 s4 s5 l6 l7 z8 it mn nm pr z fu ki lf co mp) (Se it mn nm pr fu ki lf co 1):=by
 unfold Wk;refine wI (fun _=>wL (o1 hit h6 hn6 hm hc hn mn pr z nm (by omega))) fun _=>ADw hit mn pr z nm _ _ fun l hl _=>?_
 have h:Tl fun n=>Wj n l z1 z2 s3 s4 s5 l6 l7 z8:=by
  have h:∀i,i≤l.length→∀a1 a2 a3 a4 a5 a6 a7 a8,Tl fun n=>H9 n l l.length i a1 a2 a3 a4 a5 a6 a7 a8:=Ai _ fun i hi ih a1 a2 a3 a4 a5 a6 a7 a8=>wU (by
   have:=hl.le;simp only[H9,ZN];exact wI (fun h=>Xx hl (by omega) fun _ _ _ _ _ _ _ _ _ _=>u9 (wI (fun _=>wS trivial) fun _=>wS trivial) fun _ _ _ _ _ _ _ _ _=>wI (fun _=>wS trivial) fun _=>wi (by omega) (ih (by omega) _ _ _ _ _ _ _ _)) fun _=>wS trivial)
  unfold Wj;exact wL (h 0 (Nat.zero_le _) _ _ _ _ _ _ _ _)
 exact u9 h fun _ _ _ _ _ _ _ _ _=>wL (o1 hit h6 hn6 hm hc hn mn pr z nm (by omega))
theorem t164:DQ (fun n=>Wl n z1 z2 s3 s4 s5 l6 l7 z8 it mn nm pr z fu ki lf co mp) (Se it mn nm pr fu ki lf co 1):=by
 have h:∀v,DQ (fun n=>IA n it mn nm pr z fu ki lf co mp v) (Se it mn nm pr fu ki lf co 1):=fun v=>wU (by
  simp only[IA];exact wT (o1 hit h6 hn6 hm hc hn mn pr z nm (by omega)))
 unfold Wl;exact QI .nil fun _ h1=>QI h1 fun _ h1=>QI h1 fun _ h1=>QI h1 fun _ h1=>QI h1 fun _ h1=>QI h1 fun _ h1=>wFI h1 (fun v _=>h v) (h 0)
theorem t165:DQ (fun n=>Wm n z1 z2 s3 s4 s5 l6 l7 z8 it mn nm pr z fu ki lf co mp) (Se it mn nm pr fu ki lf co 1):=by
 have h:∀v,DQ (fun n=>IB n it mn nm pr z fu ki lf co mp v) (Se it mn nm pr fu ki lf co 1):=fun v=>wU (by
  simp only[IB];exact wT (o1 hit h6 hn6 hm hc hn mn pr z nm (by omega)))
 unfold Wm;exact wI (fun _=>h _) fun _=>h _
theorem t166:DQ (fun n=>Wn n z1 z2 s3 s4 s5 l6 l7 z8 it mn nm pr z fu ki lf co mp) (Se it mn nm pr fu ki lf co 1):=by
 have h:∀v,0≤v∧v≤255→∀b,DQ (fun n=>IC n s5 l6 it mn nm pr z fu ki lf co mp v b) (Se it mn nm pr fu ki lf co 1):=fun v hv b=>wU (by
  simp only[IC];exact wI (fun _=>o2 hit h6 hn6 hm hc hn mn pr z nm s5 hv) fun _=>qH hm (Cx.refl hc) (by omega))
 unfold Wn;exact QI .nil fun _ h1=>QI h1 fun _ h1=>QI h1 fun _ h1=>QI h1 fun _ h1=>QI h1 fun _ h1=>QI h1 fun _ h1=>QI h1 fun _ h1=>QI h1 fun _ h1=>wFI h1 (fun v hv=>h v hv _) (h 0 (by omega) _)
end
end Go.Proofs.YtjfmnfncmfepnaaGreatDoor
end
set_option linter.unusedVariables false
noncomputable section
namespace Go.Proofs.YtjfmnfncmfepnaaGreatDoor
open Go Go.AM
theorem Se.tr {it fu ki lf co co1:List D}{mn pr:Int}{nm:ByteArray}{w w1:Nat}(h:Cx co co1) (hl:co1.length+w1≤co.length+w) {a1 a2 a3 a4 a5 a6 a7 a8 a9 a10}(hs:Se it mn nm pr fu ki lf co1 w1 a1 a2 a3 a4 a5 a6 a7 a8 a9 a10):Se it mn nm pr fu ki lf co w a1 a2 a3 a4 a5 a6 a7 a8 a9 a10:=by
 obtain⟨h1,h2,h3,h4,h5,h6,h7,h8,h9,h10⟩:=hs;exact⟨h1,h2,h3,h4,h5,h6,h7,h8,h.trans h9,by omega⟩
theorem ADx:∀k,k<37→FE [0,24,25,28,32,33,34,35,36] k=true∨FE [1,2,3] k=true∨FE [4,5,6] k=true∨FE [7,8] k=true∨FE [9,10,11,12,13,14,15,16,17] k=true∨FE [18] k=true∨FE [19,20] k=true∨FE [21,23,26,27,29,31] k=true∨FE [22,30] k=true:=by decide
section
variable {it fu ki lf:List D}(hit:AB Ab 56 it) (mn pr:Int) (nm:ByteArray)
include hit
theorem AMi (l:List D):AB Ab 54 l→∀{z1:Int},0≤z1∧z1≤255→∀{z2:Int},-9223372036854775808≤z2∧z2≤9223372036854775807→∀(s3 s4 s5:ByteArray) {l6:List D},AB Ab 9 l6→∀(z8:Int),∀i,i≤l.length→∀z {mp co:List D},Aq Vi mp→(∀x∈co,Cd x)→co.length+AU l6+AU (l.drop i)+1≤1000000000→
  DQ (fun n=>MF n z1 z2 s3 s4 s5 l6 l z8 l.length i it mn nm pr z mp l fu ki lf co) (Se it mn nm pr fu ki lf co (AU (l.drop i)+1)):=by
 induction l using IQ with | H l IH
 intro hl z1 hz1 z2 hz2 s3 s4 s5 l6 h6 z8;refine Ai _ fun i hi ih z mp co hm hc hn=>wU ?_
 have:=hl.le;have hd:=BI l i;have hn6:=Eo h6;simp only[MF];refine wI (fun h=>Ub hl (by omega) fun k y2 t3 t4 t5 p q y8 hx hw hk hy2 _ _ _ hp hq _=>Ol (w:=AU q+1) (wU ?_) (Cx.refl hc) fun z mp co' hm hc' hl'=>wi (by omega) (wM (ih (by omega) z hm hc'.1 (by omega)) fun r hr=>hr.tr hc' (by omega))) fun h=>?_
 ·simp only[lP];exact wL (by simpa using IH q (by omega) hq (u8 hk) (i8 hy2) t3 t4 t5 hp y8 0 (Nat.zero_le _) z hm hc (by simp;omega))
 ·refine c0 t110 fun _=>wW (x:=z1) rfl (by omega) (wI (fun h37=>wN (by omega) ?_) fun _=>qH hm (Cx.refl hc) (by omega))
  have hh:∀{A:Nat→Option _},DQ A (Se it mn nm pr fu ki lf co 1)→DQ (fun n=>BO (A n) fun a1 a2 a3 a4 a5 a6 a7 a8 a9 a10=>some (a1,a2,a3,a4,a5,a6,a7,a8,a9,a10)) (Se it mn nm pr fu ki lf co (AU (l.drop i)+1)):=fun h=>Ol h (Cx.refl hc) fun z mp co' hm hc' hl'=>qH hm hc' (by omega)
  have hN:co.length+1≤1000000000:=by omega
  have h6n:l6.length≤1000000000:=by omega
  exact wI (fun _=>hh (t166 hit h6 h6n hm hc hN _ _ _ _ _ _ _ _ _ _ _)) fun n1=>wI (fun _=>hh (t158 hit h6 h6n hm hc hN _ _ _ _ _ _ _ _ _ _ _ hz2)) fun n2=>wI (fun _=>hh (t159 hit h6 h6n hm hc hN _ _ _ _ _ _ _ _ _ _ _)) fun n3=>wI (fun _=>hh (t160 hit h6 h6n hm hc hN _ _ _ _ _ _ _ _ _ _ _)) fun n4=>wI (fun _=>hh (t161 hit h6 h6n hm hc hN _ _ _ _ _ _ _ _ _ _ _)) fun n5=>wI (fun _=>hh (t162 hit h6 h6n hm hc hN _ _ _ _ _ _ _ _ _ _ _)) fun n6=>wI (fun _=>hh (t163 hit h6 h6n hm hc hN _ _ _ _ _ _ _ _ _ _ _)) fun n7=>wI (fun _=>hh (t164 hit h6 h6n hm hc hN _ _ _ _ _ _ _ _ _ _ _)) fun n8=>wI (fun _=>hh (t165 hit h6 h6n hm hc hN _ _ _ _ _ _ _ _ _ _ _)) fun n9=>by
   rcases ADx z1.toNat (by omega)with e | e | e | e | e | e | e | e | e<;>contradiction
theorem t67 {z1:Int}(hz1:(Lit.int .u8 z1).wf=true) {z2:Int}(hz2:(Lit.int .i64 z2).wf=true) (s3 s4 s5:ByteArray) {l6 l:List D}(h6:AB Ab 9 l6) (hl:AB Ab 54 l) (z8 z:Int) {mp co:List D}(hm:Aq Vi mp) (hc:∀x∈co,Cd x) (hn:co.length+AU l6+AU l+1≤1000000000):
  DQ (fun n=>lP n z1 z2 s3 s4 s5 l6 l z8 it mn nm pr z fu ki lf co mp) (Se it mn nm pr fu ki lf co (AU l+1)):=wU (by
 simp only[lP];exact wL (by simpa using AMi hit mn pr nm l hl (u8 hz1) (i8 hz2) s3 s4 s5 h6 z8 0 (Nat.zero_le _) z hm hc (by simpa using hn)))
omit hit in
theorem t155 (s:ByteArray) (z:Int) {mp co:List D}(hm:Aq Vi mp) (hc:∀x∈co,Cd x) (hn:co.length+2≤1000000000):DQ (fun n=>MO n s it mn nm pr z fu ki lf co mp) (Se it mn nm pr fu ki lf co 2):=by
 unfold MO;exact p65 hm fun i z mp hm=>p1 (Cx.refl hc) (by omega) fun co1 h1 e1=>p1 h1 (by omega) fun co2 h2 e2=>qH hm h2 (by omega)
def Nm (l:List D):Prop:=∀x∈l,∃s,x=D.str s
omit hit in
theorem t68 {l:List D}(h:Nm l) (z:Int) {mp co:List D}(hm:Aq Vi mp) (hc:∀x∈co,Cd x) (hn:co.length+l.length≤1000000000):DQ (fun n=>Wt n l it mn nm pr z fu ki lf co mp) (Se it mn nm pr fu ki lf co l.length):=by
 have a:∀i:Nat,i≤l.length→∀z {mp co:List D},Aq Vi mp→(∀x∈co,Cd x)→co.length+i≤1000000000→DQ (fun n=>D4 n l ((i:Int) - 1) it mn nm pr z mp fu ki lf co) (Se it mn nm pr fu ki lf co i):=fun i=>by
  induction i with
  | zero=>exact fun _ z mp co hm hc hn=>wU (by
    simp only[D4]
    exact wI (fun h=>by omega) fun _=>wU (by
     simp only[Ee];exact wI (fun h=>by cases h) fun _=>qH hm (Cx.refl hc) (by omega)))
  | succ i ih=>exact fun hi z mp co hm hc hn=>wU (by
    simp only[D4];refine wI (fun _=>wU ?_) fun h=>by omega
    simp only[Ee];refine wI (fun _=>wG (by omega) fun x hx=>?_) fun h=>absurd trivial h
    obtain⟨s,rfl⟩:=h x (List.mem_of_getElem? hx);refine dS (Ol (w:=1) ?_ (Cx.refl hc) fun z mp co' hm hc' hl'=>wW (x:=(i:Int) - 1) (by omega) (by omega) (wM (ih (by omega) z hm hc'.1 (by omega)) fun r hr=>hr.tr hc' (by omega)))
    unfold OW;have e:∀a:Int,DQ (fun n=>BW (B3 n (2:Int) a (0:Int) (0:Int) (0:Int) ByteArray.empty it mn nm pr z fu ki lf co mp) fun _ a1 a2 a3 a4 a5 a6 a7 a8 a9 a10=>some (a1,a2,a3,a4,a5,a6,a7,a8,a9,a10)) (Se it mn nm pr fu ki lf co 1):=fun a=>p1 (Cx.refl hc) (by omega) fun co' h h2=>qH hm h (by omega)
    exact wF hm (fun vs ⟨z,e'⟩=>by subst e';exact dZ (e _)) (e _))
 have b:DQ (fun n=>US n it mn nm pr z fu ki lf co mp l) (Se it mn nm pr fu ki lf co l.length):=by
  unfold US;exact wL (wW rfl (by omega) (a l.length (Nat.le_refl _) z hm hc hn))
 unfold Wt pV
 exact c1 (Q:=fun l'=>l'=l) (wS rfl) fun l' e=>by
  subst e;exact Ol b (Cx.refl hc) fun z mp co' hm hc' hl'=>qH hm hc' hl'.2
theorem qI {γ:Type}{P:γ→Prop}{c0 mp co:List D}{z z1:Int}{K:Nat→List D→Int→ByteArray→Int→Int→List D→List D→List D→List D→List D→Option γ}(i:Nat) (e:z1=i) (hc:Cx c0 co) (hi:i<co.length) (hk:∀co',Cx c0 co'→co'.length=co.length→Wp (fun n=>K n it mn nm pr z mp fu ki lf co') P):Wp (fun n=>BO (O8 n z1 it mn nm pr z fu ki lf co mp) (K n)) P:=by
 subst e;unfold O8
 refine lW (Q:=fun it' mn' nm' pr' z' mp' fu' ki' lf' co'=>(it',mn',nm',pr',z',mp',fu',ki',lf')=(it,mn,nm,pr,z,mp,fu,ki,lf)∧Cx c0 co'∧co'.length=co.length) (wL (wN (by omega) (wK (by omega) fun x hx=>?_))) fun _ _ _ _ _ _ _ _ _ _ ⟨e,h,h2⟩=>by
  cases e
  exact hk _ h h2
 obtain⟨op,a,b,c,v,s,ks,ps,vs,rfl,h1,h2,h3,h4,h5⟩:=hc.1 x (List.mem_of_getElem? hx);simp only[Int.toNat_natCast]at hx;exact wS ⟨rfl,hc.set (cd ⟨h1,h2⟩ h3 h4 h5) (by simp[hx,kl]),by simp⟩
end
end Go.Proofs.YtjfmnfncmfepnaaGreatDoor
end
set_option linter.unusedVariables false
noncomputable section
namespace Go.Proofs.YtjfmnfncmfepnaaGreatDoor
open Go Go.AM
theorem St.tr {it fu ki lf co co1 lf1:List D}{mn pr:Int}{nm:ByteArray}{w w1 k k1 k2:Nat}(ho:Lo lf k1 lf1) (h:Cx co co1) (hl:co1.length+w1≤co.length+w) (hk:k=k1+k2) {a1 a2 a3 a4 a5 a6 a7 a8 a9 a10}(hs:St it mn nm pr fu ki lf1 co1 w1 k2 a1 a2 a3 a4 a5 a6 a7 a8 a9 a10):St it mn nm pr fu ki lf co w k a1 a2 a3 a4 a5 a6 a7 a8 a9 a10:=by
 obtain⟨h1,h2,h3,h4,h5,h6,h7,h8,h9,h10⟩:=hs;exact⟨h1,h2,h3,h4,h5,h6,ho.trans h7 hk,h8,h.trans h9,by omega⟩
theorem Kb {l:List D}{i:Nat}{x:D}(h:l[i]?=some x):Dp (l.drop i)=sp x+Dp (l.drop (i+1)):=by
 obtain⟨hi,rfl⟩:=List.getElem?_eq_some_iff.1 h;rw[List.drop_eq_getElem_cons hi,Dp]
theorem Ik {l:List D}(h:∀x∈l,∃cs,x=D.agg cs):l.length≤AU l:=by
 induction l with
 | nil=>exact Nat.le_refl _
 | cons x l ih=>
  obtain⟨cs,rfl⟩:=h x (List.mem_cons_self ..);have:=ih fun y hy=>h y (List.mem_cons_of_mem _ hy)
  simp only[AU,wt,List.length_cons];omega
section
variable {γ:Type}{P:γ→Prop}
theorem wD {b m:Nat}{z:D}{k:Nat→List D→Option γ}(h1:m≤1000000000) (hb:b≤1000) (h:Wp (fun n=>k n (List.replicate m z)) P):Wp (fun n=>Lv b z (m:Int) (m:Int) (k n)) P:=by
 have:(b:Int)*(m:Int)≤281474976710656:=by
  have:b*m≤1000*1000000000:=Nat.mul_le_mul hb h1;grind
 simp only[Lv,true_and,if_pos (show 0≤(m:Int)∧(m:Int)≤9223372036854775807∧(b:Int)*m≤281474976710656 from⟨by omega,by omega,this⟩),Int.toNat_natCast]
 exact h
theorem dc {op a b c v:Int}{s:ByteArray}{ks ps vs:List D}{k:Nat→Int→Int→Int→Int→List D→List D→Int→ByteArray→List D→Option γ}(h:Wp (fun n=>k n op a b c ks ps v s vs) P):Wp (fun n=>Ci (.agg [.int .u8 op,.int .i64 a,.int .i64 b,.int .i64 c,.list false 1 ks,.list false 1 ps,.int .i64 v,.str s,.list false 1 vs]) (k n)) P:=h
theorem wQ {l:List D}{i:Nat}{x:D}{k:Nat→List D→Option γ}(h:Wp (fun n=>k n (l.set i x)) P):Wp (fun n=>O3 l i x (k n)) P:=h
end
def Bk (it:List D) (mn:Int) (nm:ByteArray) (pr:Int) (fu ki l:List D):Prop:=∀z2 z {mp lf co:List D},Aq Vi mp→(∀x∈co,Cd x)→co.length+8*AU l≤1000000000→lf.length+Dp l≤1000000000→DQ (fun n=>KX n l z2 it mn nm pr z fu ki lf co mp) (St it mn nm pr fu ki lf co (8*AU l) (Dp l))
section
variable {it fu ki:List D}(hit:AB Ab 56 it) (hiw:AU it≤20000) {mn pr:Int}{nm:ByteArray}
include hit hiw
theorem t223 {l14:List D}(h14:AB Ab 96 l14) (hb:∀{j:Nat}{s1 s2:ByteArray}{b:List D},l14[j]?=some (D.agg [.str s1,.str s2,.list true 15 b])→Bk it mn nm pr fu ki b) (z1:Int) (s2 s3:ByteArray) (l4:List D) (z5:Int) (s6:ByteArray) (l7:List D) (z8:Int) (s9:ByteArray) (l10 l11 l12 l13:List D) (z15 z16 z:Int) {mp lf co:List D}(hm:Aq Vi mp) (hc:∀x∈co,Cd x) (hn:co.length+8*AU l14+2≤1000000000) (hf:lf.length+Dp l14≤1000000000):
  DQ (fun n=>Wu n z1 s2 s3 l4 z5 s6 l7 z8 s9 l10 l11 l12 l13 l14 z15 z16 it mn nm pr z fu ki lf co mp) (St it mn nm pr fu ki lf co (8*AU l14+2) (Dp l14)):=wU (by
 have hlen:l14.length≤AU l14:=Ik fun x hx=>by
  obtain⟨_,_,_,rfl,_⟩:=Wx (h14.2 x hx);exact⟨_,rfl⟩
 simp only[Wu];refine ZS hm .nil (by simp) fun i ps hps=>zW (Cx.refl hc) (by omega) nx hps fun co1 c1 e1=>ADw hit _ _ _ _ _ _ fun fs hfs hfl=>wL (wD (by omega) (by omega) (p2 c1 (by omega) (fun y hy=>⟨0,(List.mem_replicate.1 hy).2⟩) fun co2 c2 e2 k2=>wL ?_))
 have main:∀j,j≤l14.length→∀z {mp jm lf co:List D},Aq Vi mp→(∀x∈co,Cd x)→(∀x∈jm,∃i:Nat,x= .int .i64 i∧i<co.length)→jm.length=j→co1.length<co.length→(co.map kl)[co1.length]?=some fs.length→co.length+8*AU (l14.drop j)≤1000000000→lf.length+Dp (l14.drop j)≤1000000000→
   DQ (fun n=>G0 n l14 z16 fs co1.length l14.length j it mn nm pr z mp jm fu ki lf co) (St it mn nm pr fu ki lf co (8*AU (l14.drop j)) (Dp (l14.drop j))):=Ai _ fun j hj ih z mp jm lf co hm hc hjm hjl ha hka hn hf=>wU (by
  have:=h14.le;have:=hfs.le;simp only[G0];refine wI (fun h=>qD h14 (by omega) fun s1 s2 b hx hw _ _ hbl=>wL ?_) fun h=>wL ?_
  ·have hsp:=Kb hx;simp only[sp]at hsp
   have h2:∀i,i≤fs.length→∀co',Cx co co'→co'.length=co.length→DQ (fun n=>G1 n l14 z16 fs co1.length l14.length j it mn nm pr z mp jm fu ki lf s1 s2 b fs.length fs i co') (St it mn nm pr fu ki lf co (8*AU (l14.drop j)) (Dp (l14.drop j))):=Ai _ fun i hi ih2 co' c3 e3=>wU (by
    simp only[G1,Int.toNat_natCast,oQ];refine wI (fun h=>Xx hfs (by omega) fun f1 _ _ _ _ _ _ _ _ _=>wI (fun _=>wK (by omega) fun x hx=>?_) fun _=>wK (by omega) fun x hx=>?_) fun _=>wI (fun _=>?_) fun _=>?_
    ·have hk:=c3.kl ha;rw[hka,List.getElem?_map,hx]at hk;obtain⟨op,a,b,c,v,s,ks,ps,vs,rfl,h1,h2,h3,h4,h5⟩:=c3.1 x (List.mem_of_getElem? hx);simp only[Option.map_some,kl,Option.some.injEq]at hk;refine dc (wN (by omega) (wL (wN (by omega) (wK (by omega) fun y hy=>?_))))
     obtain⟨v,rfl⟩:=h3 y (List.mem_of_getElem? hy);refine dZ (wi (by omega) (wQ (wQ (ih2 (by omega) _ (c3.set (cd ⟨h1,h2⟩ (fun y hy=>?_) h4 h5) (by simp[hx,kl])) (by simp[e3])))))
     grind
    ·obtain⟨op,a,b,c,v,s,ks,ps,vs,rfl,h1,h2,h3,h4,h5⟩:=c3.1 x (List.mem_of_getElem? hx);exact dc (wi (by omega) (wQ (ih2 (by omega) _ (c3.set (cd ⟨h1,h2⟩ h3 h4 h5) (by simp[hx,kl])) (by simp[e3]))))
    ·refine t10 (hb hx z16 z hm c3.1 (by omega) (by omega)) c3 fun z mp lf1 co4 hm o1 c4 e4=>Ol (t68 mn pr nm nx z hm c4.1 (by simp;omega)) c4 fun z mp co5 hm c5 e5=>mA c5 (by simp at e5;omega) fun co6 c6 e6=>wA (ap (by simp;omega) (by omega)) (wi (by omega) ?_)
     simp at e5;have:=o1.len;refine wM (ih (by omega) z hm c6.1 (fun x hx=>?_) (by simp[hjl]) (by omega) (by rw[c6.kl ha,hka]) (by omega) (by omega)) fun r hr=>hr.tr o1 c6 (by omega) hsp
     grind
    ·refine Ol (t155 mn pr nm s2 z hm c3.1 (by omega)) c3 fun z mp co7 hm c7 e7=>wX (t10 (hb hx z16 z hm c7.1 (by omega) (by omega)) c7 fun z mp lf1 co4 hm o1 c4 e4=>Ol (t68 mn pr nm (fun x hx=>⟨_,List.mem_singleton.1 hx⟩) z hm c4.1 (by simp;omega)) c4 fun z mp co5 hm c5 e5=>mA c5 (by simp at e5;omega) fun co6 c6 e6=>wA (ap (by simp;omega) (by omega)) (wi (by omega) ?_))
     simp at e5;have:=o1.len;refine wM (ih (by omega) z hm c6.1 (fun x hx=>?_) (by simp[hjl]) (by omega) (by rw[c6.kl ha,hka]) (by omega) (by omega)) fun r hr=>hr.tr o1 c6 (by omega) hsp
     grind)
   exact h2 0 (Nat.zero_le _) co (Cx.refl hc) rfl
  ·have e0:l14.drop j=[]:=List.drop_eq_nil_of_le (by omega)
   rw[e0]
   have h3:∀i,i≤jm.length→∀z {mp co':List D},Aq Vi mp→Cx co co'→co'.length=co.length→DQ (fun n=>IM n jm jm.length i it mn nm pr z mp fu ki lf co') (St it mn nm pr fu ki lf co (8*AU []) (Dp [])):=Ai _ fun i hi ih3 z mp co' hm c3 e3=>wU (by
    simp only[IM,Int.toNat_natCast];refine wI (fun h=>wN (by omega) (wK (by omega) fun x hx=>?_)) fun _=>mZ Lo.refl hm c3 (by omega)
    obtain⟨k,rfl,hk⟩:=hjm x (List.mem_of_getElem? hx);exact dZ (qI hit mn pr nm k rfl c3 (by omega) fun co4 c4 e4=>wi (by omega) (ih3 (by omega) _ hm c4 (by omega))))
   exact h3 0 (Nat.zero_le _) z hm (Cx.refl hc) rfl)
 exact wM (main 0 (Nat.zero_le _) z hm c2.1 nx rfl (by omega) (by simpa using k2) (by simp;omega) (by simpa using hf)) fun r hr=>hr.tr Lo.refl c2 (by simp;omega) (by simp))
end
end Go.Proofs.YtjfmnfncmfepnaaGreatDoor
end
set_option linter.unusedVariables false
noncomputable section
namespace Go.Proofs.YtjfmnfncmfepnaaGreatDoor
open Go Go.AM
def Sn (it:List D) (mn:Int) (nm:ByteArray) (pr:Int) (fu ki lf co:List D) (w k:Nat):List D→Int→ByteArray→Int→Int→List D→List D→List D→List D→List D→List D→Prop:=fun it' mn' nm' pr' _ mp' ns fu' ki' lf' co'=>it'=it∧mn'=mn∧nm'=nm∧pr'=pr∧fu'=fu∧ki'=ki∧Lo lf k lf'∧Aq Vi mp'∧Cx co co'∧Nm ns∧co'.length+ns.length≤co.length+w
def S9 (it:List D) (mn:Int) (nm:ByteArray) (pr:Int) (fu ki lf co:List D) (w k:Nat):((List D×Int×ByteArray×Int×Int×List D×List D×List D×List D×List D×List D) ⊕ (List D×List D×Int×ByteArray×Int×Int×List D×List D×List D×List D×List D))→Prop
 | .inl (a1,a2,a3,a4,a5,a6,ns,a7,a8,a9,a10)=>Sn it mn nm pr fu ki lf co w k a1 a2 a3 a4 a5 a6 ns a7 a8 a9 a10
 | .inr (ns,a1,a2,a3,a4,a5,a6,a7,a8,a9,a10)=>Sn it mn nm pr fu ki lf co w k a1 a2 a3 a4 a5 a6 ns a7 a8 a9 a10
section
variable {γ:Type}{P:γ→Prop}{it fu ki:List D}{mn pr:Int}{nm:ByteArray}
theorem n11 {lf co c0:List D}{w k:Nat}{A:Nat→Option _}{K:Nat→List D→Int→ByteArray→Int→Int→List D→List D→List D→List D→List D→List D→Option γ}(h:zU A (Sn it mn nm pr fu ki lf co w k)) (hc:Cx c0 co) (hk:∀z mp ns lf' co',Aq Vi mp→Lo lf k lf'→Cx c0 co'→Nm ns→co.length≤co'.length∧co'.length+ns.length≤co.length+w→Wp (fun n=>K n it mn nm pr z mp ns fu ki lf' co') P):Wp (fun n=>BW (A n) (K n)) P:=
 yL h fun _ _ _ _ z mp ns _ _ lf' co' ⟨e1,e2,e3,e4,e5,e6,ho,h1,h2,h4,h3⟩=>by
  subst e1;subst e2;subst e3;subst e4;subst e5;subst e6;exact hk z mp ns lf' co' h1 ho (hc.trans h2) h4 ⟨h2.len,h3⟩
theorem XA {l m:List D}(h:Nm l) (h2:Nm m):Nm (l++m):=fun x hx=>(List.mem_append.1 hx).elim (h x) (h2 x)
theorem zB {l:List D}(h:Nm l):HY l=true:=List.all_eq_true.2 fun x hx=>by
 obtain⟨s,rfl⟩:=h x hx;rfl
theorem bk {l:List D}(h:∀z2 z {mp lf co:List D},Aq Vi mp→(∀x∈co,Cd x)→co.length+8*AU l≤1000000000→lf.length+Dp l≤1000000000→zU (fun n=>pW n l z2 it mn nm pr z fu ki lf co mp) (Sn it mn nm pr fu ki lf co (8*AU l) (Dp l))):Bk it mn nm pr fu ki l:=fun z2 z mp lf co hm hc hn hf=>wU (by
 simp only[KX];exact n11 (h z2 z hm hc hn hf) (Cx.refl hc) fun z mp ns lf' co' hm ho h1 h2 h3=>Ol (t68 mn pr nm h2 z hm h1.1 (by omega)) h1 fun z mp co2 hm h4 h5=>mZ ho hm h4 (by omega))
variable (hit:AB Ab 56 it) (hiw:AU it≤20000)
include hit hiw
theorem t157 {l4 l10 l11 l12 l13 l14:List D}(h4:AB Ab 9 l4) (h10:AB Ab 9 l10) (h11:AB Ab 54 l11) (h12:AB Ab 90 l12) (h14:AB Ab 96 l14) {z1:Int}{d:Nat}(hw:Wps d z1 l11 l12 l13 l14) (hB:Bk it mn nm pr fu ki l12) (hE:Bk it mn nm pr fu ki l13) (hb:∀{j:Nat}{s1 s2:ByteArray}{b:List D},l14[j]?=some (.agg [.str s1,.str s2,.list true 15 b])→Bk it mn nm pr fu ki b) (hsz:AU l4+AU l12≤20000) (h1n:l10.length≤1000000000) (s2 s3:ByteArray) (z5:Int) (s6:ByteArray) (l7:List D) (z8:Int) (s9:ByteArray) (z15 z16 z:Int) {mp lf co:List D}(hm:Aq Vi mp) (hc:∀x∈co,Cd x) (hn:co.length+AU l11+8*(AU l12+AU l13+AU l14)+6≤1000000000) (hf:lf.length+(if z1=10 then 1 else 0)+Dp l12+Dp l13+Dp l14≤1000000000):
  DQ (fun n=>Wv n z1 s2 s3 l4 z5 s6 l7 z8 s9 l10 l11 l12 l13 l14 z15 z16 it mn nm pr z fu ki lf co mp) (St it mn nm pr fu ki lf co (AU l11+8*(AU l12+AU l13+AU l14)+6) ((if z1=10 then 1 else 0)+Dp l12+Dp l13+Dp l14)):=wU (by
 obtain⟨w1,w2,w3,w4,w5,w6,w7,w8⟩:=hw;simp only[Wv];refine wI (fun e=>?_) fun n6=>wI (fun e=>?_) fun n7=>wI (fun e=>?_) fun n8=>wI (fun e=>?_) fun n9=>wI (fun e=>?_) fun n10=>wI (fun e=>?_) fun n11=>wI (fun e=>?_) fun n13=>?_
 ·obtain rfl:=w4 (by omega)
  subst e;exact mA (Cx.refl hc) (by omega) fun co1 c1 l1=>t10 (hB z16 z hm c1.1 (by omega) (by omega)) c1 fun z mp lf1 co2 hm o1 c2 l2=>mA c2 (by omega) fun co3 c3 l3=>qI hit mn pr nm co.length rfl c3 (by omega) fun co4 c4 l4=>t10 (hE z16 z hm c4.1 (by omega) (by have:=o1.len;simp at hf;omega)) c4 fun z mp lf2 co5 hm o2 c5 l5=>qI hit mn pr nm co2.length rfl c5 (by omega) fun co6 c6 l6=>mZ (o1.trans o2 (by simp[Dp])) hm c6 (by omega)
 ·obtain rfl:=w4 (by omega)
  obtain rfl:=w3 (by omega)
  have:=w1 e;subst e;exact wL (Ub (i:=0) h11 (by omega) fun k y2 t3 t4 t5 p q y8 hx hw hk hy2 _ _ _ hp hq _=>Ol (t67 hit mn pr nm hk hy2 t3 t4 t5 hp hq y8 z hm hc (by simp at hw;omega)) (Cx.refl hc) fun z mp co1 hm c1 l1=>mA c1 (by simp at hw;omega) fun co2 c2 l2=>t10 (hB z16 z hm c2.1 (by simp at hw;omega) (by omega)) c2 fun z mp lf1 co3 hm o1 c3 l3=>p1 c3 (by simp at hw;omega) fun co4 c4 l4=>qI hit mn pr nm co1.length rfl c4 (by omega) fun co5 c5 l5=>mZ (Lo.refl.trans o1 (by simp[Dp])) hm c5 (by simp at hw;omega))
 ·obtain rfl:=w2 (by omega) (by omega) (by omega) (by omega) (by omega) (by omega)
  obtain rfl:=w3 (by omega)
  subst e;exact t10 (t223 hit hiw h14 hb _ _ _ _ _ _ _ _ _ _ _ _ _ _ _ z hm hc (by omega) (by simp at hf;omega)) (Cx.refl hc) fun z mp lf1 co1 hm o1 c1 l1=>mZ (Lo.refl.trans o1 (by simp[Dp])) hm c1 (by omega)
 ·obtain rfl:=w4 (by omega)
  obtain rfl:=w3 (by omega)
  subst e;exact p1 (Cx.refl hc) (by omega) fun co1 c1 l1=>t10 (hB z16 z hm c1.1 (by omega) (by omega)) c1 fun z mp lf1 co2 hm o1 c2 l2=>p1 c2 (by omega) fun co3 c3 l3=>mZ (Lo.refl.trans o1 (by simp[Dp])) hm c3 (by omega)
 ·obtain rfl:=w4 (by omega)
  obtain rfl:=w3 (by omega)
  subst e;simp at hf;exact wL (wT (wL (p1 (Cx.refl hc) (by omega) fun co1 c1 l1=>wA (ap (by simp;omega) (by omega)) (mZ (Lo.refl.trans (Lo.one h4 h12 ⟨_,w6⟩ hsz) (by simp[Dp])) hm c1 (by omega)))))
 ·obtain rfl:=w4 (by omega)
  obtain rfl:=w3 (by omega)
  subst e;exact p65 hm fun i z mp hm=>p1 (Cx.refl hc) (by omega) fun co1 c1 l1=>ZS hm h10 h1n fun i ps hps=>zW c1 (by omega) nx hps fun co2 c2 l2=>t10 (hB z16 z hm c2.1 (by omega) (by omega)) c2 fun z mp lf1 co3 hm o1 c3 l3=>p1 c3 (by omega) fun co4 c4 l4=>wX (Ol (t68 mn pr nm (fun x hx=>⟨_,List.mem_singleton.1 hx⟩) z hm c4.1 (by simp;omega)) c4 fun z mp co5 hm c5 l5=>mZ (Lo.refl.trans o1 (by simp[Dp])) hm c5 (by simp at l5;omega))
 ·obtain rfl:=w4 (by omega)
  obtain rfl:=w3 (by omega)
  subst e;exact t10 (hB z16 z hm hc (by omega) (by omega)) (Cx.refl hc) fun z mp lf1 co2 hm o1 c2 l2=>mZ (Lo.refl.trans o1 (by simp[Dp])) hm c2 (by omega)
 ·obtain rfl:=w4 (by omega)
  obtain rfl:=w3 (by omega)
  obtain rfl:=w2 (by omega) (by omega) (by omega) (by omega) (by omega) (by omega)
  exact mZ (Lo.refl.trans Lo.refl (by simp[Dp,n10])) hm (Cx.refl hc) (by omega))
end
end Go.Proofs.YtjfmnfncmfepnaaGreatDoor
end
set_option linter.unusedVariables false
noncomputable section
namespace Go.Proofs.YtjfmnfncmfepnaaGreatDoor
open Go Go.AM
section
variable {it fu ki lf co:List D}{mn pr z:Int}{nm:ByteArray}{w k:Nat}
theorem Sn.tr {co1 lf1:List D}{w1 k1 k2:Nat}(ho:Lo lf k1 lf1) (h:Cx co co1) (hl:co1.length+w1≤co.length+w) (hk:k=k1+k2) {a1 a2 a3 a4 a5 a6 ns a7 a8 a9 a10}(hs:Sn it mn nm pr fu ki lf1 co1 w1 k2 a1 a2 a3 a4 a5 a6 ns a7 a8 a9 a10):Sn it mn nm pr fu ki lf co w k a1 a2 a3 a4 a5 a6 ns a7 a8 a9 a10:=by
 obtain⟨h1,h2,h3,h4,h5,h6,h7,h8,h9,h10,h11⟩:=hs;exact⟨h1,h2,h3,h4,h5,h6,ho.trans h7 hk,h8,h.trans h9,h10,by omega⟩
theorem S9.tr {co1:List D}{w1:Nat}(h:Cx co co1) (hl:co1.length+w1≤co.length+w) {r}(hs:S9 it mn nm pr fu ki lf co1 w1 k r):S9 it mn nm pr fu ki lf co w k r:=by
 rcases r with r | r
 ·exact Sn.tr (a5:=0) Lo.refl h hl (by omega) hs
 ·exact Sn.tr (a5:=0) Lo.refl h hl (by omega) hs
theorem zX {mp ns lf' co':List D}(ho:Lo lf k lf') (hm:Aq Vi mp) (hc:Cx co co') (h:Nm ns) (hl:co'.length+ns.length≤co.length+w):Wp (fun _=>some (.inl (it,mn,nm,pr,z,mp,ns,fu,ki,lf',co'))) (S9 it mn nm pr fu ki lf co w k):=wS ⟨rfl,rfl,rfl,rfl,rfl,rfl,ho,hm,hc,h,hl⟩
end
section
variable {it fu ki:List D}{mn pr:Int}{nm:ByteArray}(hit:AB Ab 56 it) (hiw:AU it≤20000)
include hit hiw
theorem t109 {l4 l10 l11 l12 l13 l14:List D}(h4:AB Ab 9 l4) (h10:AB Ab 9 l10) (h11:AB Ab 54 l11) (h12:AB Ab 90 l12) (h14:AB Ab 96 l14) {z1:Int}{d:Nat}(hw:Wps d z1 l11 l12 l13 l14) (hB:Bk it mn nm pr fu ki l12) (hE:Bk it mn nm pr fu ki l13) (hb:∀{j:Nat}{s1 s2:ByteArray}{b:List D},l14[j]?=some (.agg [.str s1,.str s2,.list true 15 b])→Bk it mn nm pr fu ki b) (hsz:AU l4+AU l12≤20000) (h1n:l10.length≤1000000000) (s2 s3:ByteArray) (z5:Int) (s6:ByteArray) (l7:List D) {z8:Int}(hz8: -9223372036854775808≤z8∧z8≤9223372036854775807) (s9:ByteArray) (z15 z16 z:Int) {mp lf co:List D}(hm:Aq Vi mp) (hc:∀x∈co,Cd x) (hn:co.length+2*AU l11+8*(AU l4+AU l12+AU l13+AU l14)+8≤1000000000) (hf:lf.length+(if z1=10 then 1 else 0)+Dp l12+Dp l13+Dp l14≤1000000000):
  Wp (fun n=>Ww n z1 s2 s3 l4 z5 s6 l7 z8 s9 l10 l11 l12 l13 l14 z15 z16 it mn nm pr z fu ki lf co mp) (S9 it mn nm pr fu ki lf co (2*AU l11+8*(AU l4+AU l12+AU l13+AU l14)+8) ((if z1=10 then 1 else 0)+Dp l12+Dp l13+Dp l14)):=wU (by
 simp only[Ww]
 have a:∀i,i≤l11.length→∀z {mp co:List D},Aq Vi mp→(∀x∈co,Cd x)→co.length+AU (l11.drop i)+AU l11+8*(AU l4+AU l12+AU l13+AU l14)+8≤1000000000→
   Wp (fun n=>G2 n z1 s2 s3 l4 z5 s6 l7 z8 s9 l10 l11 l12 l13 l14 z15 z16 l11.length i it mn nm pr z mp l11 fu ki lf co) (S9 it mn nm pr fu ki lf co (AU (l11.drop i)+AU l11+8*(AU l4+AU l12+AU l13+AU l14)+8) ((if z1=10 then 1 else 0)+Dp l12+Dp l13+Dp l14)):=Ai _ fun i hi ih z mp co hm hc hn=>wU (by
  have:=h11.le;simp only[G2];refine wI (fun h=>Ub h11 (by omega) fun y1 y2 t3 t4 t5 p q y8 hx hw hy1 hy2 _ _ _ hp hq _=>wI (fun _=>wi (by omega) (wM (ih (by omega) z hm hc (by omega)) fun r hr=>hr.tr (Cx.refl hc) (by omega))) fun _=>Ol (t67 hit mn pr nm hy1 hy2 t3 t4 t5 hp hq y8 z hm hc (by omega)) (Cx.refl hc) fun z mp co1 hm c1 l1=>wi (by omega) (wM (ih (by omega) z hm c1.1 (by omega)) fun r hr=>hr.tr c1 (by omega))) fun _=>?_
  have k0:∀{j:Int},z1=j→j≠6∧j≠7∧j≠8∧j≠9∧j≠10∧j≠11∧j≠13→(if z1=10 then 1 else 0)+Dp l12+Dp l13+Dp l14=0:=fun e h=>by
   rw[hw.2.1 (by omega) (by omega) (by omega) (by omega) (by omega) (by omega),hw.2.2.1 (by omega),hw.2.2.2.1 (by omega),if_neg (by omega)]
   rfl
  refine wI (fun e=>?_) fun n1=>wI (fun e=>?_) fun n2=>wI (fun e=>?_) fun n3=>wI (fun e=>?_) fun n4=>wI (fun e=>?_) fun n5=>wI (fun e=>?_) fun n12=>?_
  ·rw[k0 e (by decide)]
   exact Ol (t155 mn pr nm s2 z hm hc (by omega)) (Cx.refl hc) fun z mp co1 hm c1 l1=>wX (zX Lo.refl hm c1 (fun x hx=>⟨_,List.mem_singleton.1 hx⟩) (by simp;omega))
  ·rw[k0 e (by decide)]
   have e4:=Eo h4;refine wL (p1 (Cx.refl hc) (by omega) fun co1 c1 l1=>wL ?_)
   have b:∀j,j≤l4.length→∀z {mp co':List D},Aq Vi mp→Cx co co'→co'.length+2*(l4.length - j)≤co.length+1+2*l4.length→Wp (fun n=>IP n l4 l4.length j it mn nm pr z mp z1 l4 fu ki lf co') (S9 it mn nm pr fu ki lf co (AU (l11.drop i)+AU l11+8*(AU l4+AU l12+AU l13+AU l14)+8) 0):=Ai _ fun j hj ih2 z mp co' hm c2 h2=>wU (by
    have:=h4.le;simp only[IP]
    exact wI (fun h=>gs h4 (by omega) fun s _ _ _=>Ol (t155 mn pr nm s z hm c2.1 (by omega)) c2 fun z mp co3 hm c3 l3=>wi (by omega) (ih2 (by omega) z hm c3 (by omega))) fun _=>wS ⟨rfl,rfl,rfl,rfl,rfl,rfl,Lo.refl,hm,c2,fun x hx=>by
     obtain⟨s,rfl,_⟩:=yH (h4.2 x hx);exact⟨s,rfl⟩,by omega⟩)
   exact b 0 (Nat.zero_le _) z hm c1 (by omega)
  ·rw[k0 e (by decide)]
   exact ZS hm h10 h1n fun i ps hps=>zW (Cx.refl hc) (by omega) nx hps fun co1 c1 l1=>ZS hm h10 h1n fun i ps hps=>zW c1 (by omega) nx hps fun co2 c2 l2=>zX Lo.refl hm c2 nx (by simp;omega)
  ·rw[k0 e (by decide)]
   exact Ol (t155 mn pr nm _ z hm hc (by omega)) (Cx.refl hc) fun z mp co1 hm c1 l1=>wX (Ol (t68 mn pr nm (fun x hx=>⟨_,List.mem_singleton.1 hx⟩) z hm c1.1 (by simp;omega)) c1 fun z mp co2 hm c2 l2=>zX Lo.refl hm c2 nx (by simp at l2 ⊢;omega))
  ·rw[k0 e (by decide)]
   exact ZS hm .nil (by simp) fun i ps hps=>zW (Cx.refl hc) (by omega) nx hps fun co1 c1 l1=>zX Lo.refl hm c1 nx (by simp;omega)
  ·rw[k0 e (by decide)]
   exact p1 (Cx.refl hc) (by omega) fun co1 c1 l1=>Ol (t155 mn pr nm s3 z hm c1.1 (by omega)) c1 fun z mp co2 hm c2 l2=>Ol (t155 mn pr nm s2 z hm c2.1 (by omega)) c2 fun z mp co3 hm c3 l3=>wX (zX Lo.refl hm c3 (fun x hx=>by grind) (by simp;omega))
  ·exact t10 (t157 hit hiw h4 h10 h11 h12 h14 hw hB hE hb hsz h1n s2 s3 z5 s6 l7 z8 s9 z15 z16 z hm hc (by omega) hf) (Cx.refl hc) fun z mp lf1 co1 hm o1 c1 l1=>zX o1 hm c1 nx (by simp;omega))
 exact wL (wM (a 0 (Nat.zero_le _) z hm hc (by simp;omega)) fun r hr=>hr.tr (Cx.refl hc) (by simp;omega)))
theorem t66 (l:List D):AB Ab 90 l→∀{d:Nat},DX d l→AU l≤20000→∀z2 z {mp lf co:List D},Aq Vi mp→(∀x∈co,Cd x)→co.length+8*AU l≤1000000000→lf.length+Dp l≤1000000000→zU (fun n=>pW n l z2 it mn nm pr z fu ki lf co mp) (Sn it mn nm pr fu ki lf co (8*AU l) (Dp l)):=by
 induction l using IQ with | H l IH
 intro hl d hd hsz z2 z mp lf co hm hc hn hf
 have a:∀i,i≤l.length→∀z {mp ns lf co:List D},Aq Vi mp→Nm ns→(∀x∈co,Cd x)→co.length+ns.length+8*AU (l.drop i)≤1000000000→lf.length+Dp (l.drop i)≤1000000000→zU (fun n=>KY n l z2 l.length i it mn nm pr z mp ns fu ki lf co) (Sn it mn nm pr fu ki lf co (ns.length+8*AU (l.drop i)) (Dp (l.drop i))):=Ai _ fun i hi ih z mp ns lf co hm hns hc hn hf=>wU (by
  have:=hl.le;have hdi:=BI l i;simp only[KY];refine wI (fun h=>tA hl (by omega) fun op s1 s2 nl k s3 ty y s4 pa ex body els arms y2 hx hw _ _ _ hnl _ _ _ hy8 _ hpa hex hbo hel har _=>?_) fun h=>wS ⟨rfl,rfl,rfl,rfl,rfl,rfl,by rw[List.drop_eq_nil_of_le (by omega)];exact Lo.refl,hm,Cx.refl hc,hns,by dsimp only;omega⟩
  have hsp:=Kb hx;simp only[sp]at hsp;obtain⟨_,hps⟩:=Wz hd hx;have hbk:∀{b:List D} {d:Nat},AB Ab 90 b→DX d b→AU b<AU l→Bk it mn nm pr fu ki b:=fun hb hd hlt=>bk (IH _ hlt hb hd (by omega))
  have hpn:=Eo hpa;refine qC (t109 hit hiw hnl hpa hex hbo har hps (hbk hbo hps.2.2.2.2.2.1 (by omega)) (hbk hel hps.2.2.2.2.2.2.1 (by omega)) (fun {j t1 t2 b} hj=>?_) (by omega) (by omega) s1 s2 k s3 ty (i8 hy8) s4 y2 z2 z hm hc (by omega) (by omega)) (fun p hp=>?_) fun p hp=>?_
  ·have hwa:=CZ hj;have hda:=BI arms j;simp only[wt,AU]at hwa;obtain⟨_,_,b',e,_,_,hb⟩:=Wx (har.mem hj);cases e
   exact hbk hb (W0 hps.2.2.2.2.2.2.2 hj) (by omega)
  ·obtain⟨a1,a2,a3,a4,a5,a6,n2,a7,a8,a9,a10⟩:=p;refine n11 (A:=fun _=>some _) (wS hp) (Cx.refl hc) fun z mp n3 lf1 co1 hm o1 c1 h3 l1=>wA (ap (by omega) (by omega)) (wi (by omega) (wM (ih (by omega) z hm (XA hns h3) c1.1 (by simp;omega) (by have:=o1.len;omega)) fun r hr=>hr.tr o1 c1 (by simp;omega) hsp))
  ·obtain⟨n2,a1,a2,a3,a4,a5,a6,a7,a8,a9,a10⟩:=p;obtain⟨e1,e2,e3,e4,e5,e6,o1,hm,c1,h3,l1⟩:=hp;subst e1;subst e2;subst e3;subst e4;subst e5;subst e6;have:=c1.len;exact wN (zB h3) (wA (ap (by dsimp only;omega) (by omega)) (wi (by omega) (wM (ih (by omega) _ hm (XA hns h3) c1.1 (by grind) (by have:=o1.len;dsimp only;omega)) fun r hr=>hr.tr o1 c1 (by grind) hsp))))
 refine wU ?_;simp only[pW];exact wL (by simpa using a 0 (Nat.zero_le _) z hm nx hc (by simpa using hn) (by simpa using hf))
end
end Go.Proofs.YtjfmnfncmfepnaaGreatDoor
end
set_option linter.unusedVariables false
noncomputable section
namespace Go.Proofs.YtjfmnfncmfepnaaGreatDoor
open Go Go.AM
def Fn (s:ByteArray) (x:D):Prop:=∃(p z:Int) (co:List D),x= .agg [.str s,.int .i64 p,.int .i64 z,.list true 9 co]∧∀y∈co,Cd y
def S22 (s:ByteArray) (it:List D) (mn:Int) (fu ki lf:List D) (k:Nat):List D→Int→ByteArray→Int→Int→List D→List D→List D→List D→Prop:=fun it' mn' _ _ _ fu' ki' lf' _=>it'=it∧mn'=mn∧ki'=ki∧Lo lf k lf'∧∃x,fu'=fu++[x]∧Fn s x
theorem t22 {it fu ki lf l2 l3 l9 l10:List D}{mn:Int}(hit:AB Ab 56 it) (hiw:AU it≤20000) (h2:Nm l2) (h2n:l2.length≤20000) (h3:AB Ab 90 l3) {d:Nat}(hd:DX d l3) (h3n:AU l3≤20000) (h9:AB Ab 9 l9) (h10:AB Ab 54 l10) (h9n:AU l9+AU l10≤20000) {z4:Int}(hz4:(Lit.int .u8 z4).wf=true) (hfu:fu.length+1≤1000000000) (hlf:lf.length+Dp l3≤1000000000) (s1:ByteArray) {z5:Int}(hz5:(Lit.int .i64 z5).wf=true) (s6 s7 s8:ByteArray) (z11 z12:Int) (s15:ByteArray) (z16 z17:Int):
  W9 (fun n=>sP n s1 l2 l3 z4 z5 s6 s7 s8 l9 l10 z11 z12 it mn s15 z16 z17 fu ki lf) (S22 s1 it mn fu ki lf (Dp l3)):=by
 have a:∀i,i≤l2.length→∀z {mp:List D},Aq Vi mp→W9 (fun n=>MG n l2 l3 z4 z5 s6 s7 s8 l9 l10 z11 z12 l2.length l2 i it mn s1 l2.length z fu ki lf [] mp) (S22 s1 it mn fu ki lf (Dp l3)):=Ai _ fun i hi ih z mp hm=>wU (by
  simp only[MG];refine wI (fun h=>gi (by omega) fun x hx=>?_) fun _=>n11 (t66 hit hiw l3 h3 hd h3n z12 z hm nx (by simp;omega) hlf) (Cx.refl nx) fun z mp ns lf1 co1 hm o1 c1 hns l1=>Ol (t67 hit mn _ s1 hz4 hz5 s6 s7 s8 h9 h10 z11 z hm c1.1 (by simp at l1;omega)) c1 fun z mp co2 hm c2 e2=>Ol (t68 mn _ s1 hns z hm c2.1 (by simp at l1;omega)) c2 fun z mp co3 hm c3 e3=>Ol (t68 mn _ s1 h2 z hm c3.1 (by simp at l1;omega)) c3 fun z mp co4 hm c4 e4=>p1 c4 (by simp at l1;omega) fun co5 c5 e5=>wA (ap (by simp;omega) (by omega)) (wS ⟨rfl,rfl,rfl,o1,_,rfl,_,_,_,rfl,c5.1⟩)
  obtain⟨s,rfl⟩:=h2 x (List.mem_of_getElem? hx);exact dS (p65 hm fun _ z mp hm=>wi (by omega) (ih (by omega) z hm)))
 unfold sP;exact wL (wL (a 0 (Nat.zero_le _) 0 .nil))
theorem t64 (l:List D):AB Ab 48 l→AU l≤20000→∀z s,Tl fun n=>F64 n z s l:=by
 induction l using IQ with | H l IH
 intro hl hn z s
 have hlen:l.length≤AU l:=Ik fun x hx=>by
  obtain⟨_,_,_,rfl,_⟩:=yI (hl.2 x hx);exact⟨_,rfl⟩
 have a:∀i,i≤l.length→∀{q:List D},q.length=i→Tl fun n=>UT n z s l l.length i l q:=Ai _ fun i hi ih q hq=>wU (by
  have hd:=BI l i;simp only[UT];exact wI (fun h=>zV hl (by omega) fun k s m hx hw _ _ hm=>u3 (IH m (by omega) hm (by omega) _ _) fun _ _ _=>wA (ap (by simp;omega) (by omega)) (wi (by omega) (ih (by omega) (by simp[hq])))) fun _=>wS trivial)
 exact wU (by simp only[F64];exact wL (a 0 (Nat.zero_le _) rfl))
theorem t21 {l:List D}(hl:AB Ab 58 l) (hn:AU l≤20000) (z1:Int) (s2:ByteArray) (z4:Int) (s5:ByteArray) (l6 l7:List D) (z8 z9:Int) (s10 s11 s12:ByteArray) (l13 l14:List D) (z15 z16:Int):Tl fun n=>xM n z1 s2 l z4 s5 l6 l7 z8 z9 s10 s11 s12 l13 l14 z15 z16:=by
 have hlen:l.length≤AU l:=Ik fun x hx=>by
  obtain⟨_,_,_,_,rfl,_⟩:=lU (hl.2 x hx);exact⟨_,rfl⟩
 have a:∀i,i≤l.length→∀{q:List D},q.length=i→Tl fun n=>UU n z1 s2 l l.length i l q:=Ai _ fun i hi ih q hq=>wU (by
  have hd:=BI l i;simp only[UU];exact wI (fun h=>Xx hl (by omega) fun _ k s m hx hw _ _ _ hm=>u3 (t64 m hm (by omega) _ _) fun _ _ _=>wA (ap (by simp;omega) (by omega)) (wi (by omega) (ih (by omega) (by simp[hq])))) fun _=>wS trivial)
 unfold xM;exact wL (a 0 (Nat.zero_le _) rfl)
end Go.Proofs.YtjfmnfncmfepnaaGreatDoor
end
set_option linter.unusedVariables false
set_option linter.unusedSectionVars false
noncomputable section
namespace Go.Proofs.YtjfmnfncmfepnaaGreatDoor
open Go Go.AM
def Kd (x:D):Prop:=∃(a0 a3 a7 a8 a14 a15:Int) (a1 a4 a9 a10 a11:ByteArray) (a2 a5 a6 a12 a13:List D),x= .agg [.int .u8 a0,.str a1,.list true 4 a2,.int .u8 a3,.str a4,.list true 3 a5,.list true 15 a6,.int .u8 a7,.int .i64 a8,.str a9,.str a10,.str a11,.list false 1 a12,.list true 8 a13,.int .i64 a14,.int .i64 a15]
section
variable {γ:Type}{P:γ→Prop}
theorem gk {l:List D}{i:Nat}{k:Nat→Int→ByteArray→List D→Int→ByteArray→List D→List D→Int→Int→ByteArray→ByteArray→ByteArray→List D→List D→Int→Int→Option γ}(hl:∀x∈l,Kd x) (hi:i<l.length) (h:∀a0 a1 a2 a3 a4 a5 a6 a7 a8 a9 a10 a11 a12 a13 a14 a15,Wp (fun n=>k n a0 a1 a2 a3 a4 a5 a6 a7 a8 a9 a10 a11 a12 a13 a14 a15) P):Wp (fun n=>Ae l (i:Int) fun x=>BZ x (k n)) P:=gi hi fun x hx=>by
 obtain⟨a0,a3,a7,a8,a14,a15,a1,a4,a9,a10,a11,a2,a5,a6,a12,a13,rfl⟩:=hl x (List.mem_of_getElem? hx);exact h a0 a1 a2 a3 a4 a5 a6 a7 a8 a9 a10 a11 a12 a13 a14 a15
theorem gf {l:List D}{z:Int}{k:Nat→ByteArray→Int→Int→List D→Option γ}(hl:∀x∈l,∃s,Fn s x) (hi:0≤z∧z<l.length) (h:∀s p y co,(∀y∈co,Cd y)→Wp (fun n=>k n s p y co) P):Wp (fun n=>Ae l z fun x=>B2 x (k n)) P:=wG hi fun x hx=>by
 obtain⟨s,p,y,co,rfl,hc⟩:=hl x (List.mem_of_getElem? hx);exact h s p y co hc
theorem wC {l:List D}{i:Nat}{k:Nat→List D→Option γ}(hi:i≤l.length) (h:Wp (fun n=>k n (l.take i)) P):Wp (fun n=>HX l (0:Int) (i:Int) (k n)) P:=by
 simp only[HX,if_pos (show (0:Int)≤0∧(0:Int)≤(i:Int)∧(i:Int)≤l.length from⟨by omega,by omega,by omega⟩),Int.toNat_natCast,Int.toNat_zero,List.drop_zero]
 exact h
end
theorem t37 (s:ByteArray):Tl fun n=>mW n s:=by unfold mW;repeat' first | exact wS trivial | with_reducible refine wI (fun _=>?_) fun _=>?_ | with_reducible refine wL ?_ | with_reducible refine wB ?_ | with_reducible refine wT ?_ | with_reducible refine wZ ?_
section
variable {l:List D}
theorem t124 (hl:∀x∈l,Kd x) (hn:l.length≤1000000000) (z2:Int) (s3:ByteArray) (l4:List D) (z5:Int) (s6:ByteArray) (l7 l8:List D) (z9 z10:Int) (s11 s12 s13:ByteArray) (l14 l15:List D) (z16 z17:Int):Tl fun n=>F85 n l z2 s3 l4 z5 s6 l7 l8 z9 z10 s11 s12 s13 l14 l15 z16 z17:=by
 have a:∀i,i≤l.length→∀z2 s3 l4 z5 s6 l7 l8 z9 z10 s11 s12 s13 l14 l15 z16 z17,Tl fun n=>Oc n l l.length i z2 s3 l4 z5 s6 l7 l8 z9 z10 s11 s12 s13 l14 l15 z16 z17:=Ai _ fun i hi ih z2 s3 l4 z5 s6 l7 l8 z9 z10 s11 s12 s13 l14 l15 z16 z17=>wU (by
  simp only[Oc,F84];exact wI (fun h=>gk hl (by omega) fun _ _ _ _ _ _ _ _ _ _ _ _ _ _ _ _=>u17 (wI (fun _=>wS trivial) fun _=>wS trivial) fun _ _ _ _ _ _ _ _ _ _ _ _ _ _ _ _ _=>wI (fun _=>wS trivial) fun _=>wi (by omega) (ih (by omega) _ _ _ _ _ _ _ _ _ _ _ _ _ _ _ _)) fun _=>wS trivial)
 unfold F85 xN;exact u17 (wL (a 0 (Nat.zero_le _) _ _ _ _ _ _ _ _ _ _ _ _ _ _ _ _)) fun _ _ _ _ _ _ _ _ _ _ _ _ _ _ _ _ _=>wI (fun _=>wS trivial) fun _=>wS trivial
theorem t36 (hl:∀x∈l,Kd x):Tl fun n=>F36 n l:=by
 unfold F36;refine wL (wI (fun _=>wS trivial) fun hn=>wL ?_)
 have a:∀i,i≤l.length→Tl fun n=>QE n l l.length l i:=Ai _ fun i hi ih=>wU (by
  simp only[QE];have ht:∀x∈l.take i,Kd x:=fun x hx=>hl x (List.mem_of_mem_take hx)
  refine wI (fun h=>?_) fun _=>wS trivial
  refine gk hl (by omega) fun _ _ _ _ _ _ _ _ _ _ _ _ _ _ _ _=>?_
  have e:=t124 ht (by simp;omega)
  refine wI (fun _=>wL (wI (fun _=>wS trivial) fun _=>?_)) fun _=>wI (fun _=>wL (wI (fun _=>wS trivial) fun _=>?_)) fun _=>wS trivial
  all_goals
   refine wC hi ?_;refine u17 (e _ _ _ _ _ _ _ _ _ _ _ _ _ _ _ _) fun _ _ _ _ _ _ _ _ _ _ _ _ _ _ _ _ _=>?_
   exact wI (fun _=>wS trivial) fun _=>wi (by omega) (ih (by omega)))
 exact a 0 (Nat.zero_le _)
theorem wK9 {γ:Type}{P:γ→Prop}{p:D→Prop}{z:Nat}{k:Nat→D→Option γ}(h1:z<l.length) (hp:∀x∈l,p x) (h:∀x,p x→Wp (fun n=>k n x) P):Wp (fun n=>DV l z (k n)) P:=wK h1 fun x hx=>h x (hp x (List.mem_of_getElem? hx))
theorem t88 (s1:ByteArray) (z2 z3:Int) (b4 b5 b6 b7:Bool) (l8:List D) (z9 z10 z11 z12:Int) (l13 l14:List D) (z15:Int) (s16:ByteArray) (l17:List D):Tl fun n=>F88 n s1 z2 z3 b4 b5 b6 b7 l8 z9 z10 z11 z12 l13 l14 z15 s16 l17:=by unfold F88;repeat' first | exact wS trivial | with_reducible refine wI (fun _=>?_) fun _=>?_ | with_reducible refine wL ?_ | with_reducible refine wB ?_ | with_reducible refine wT ?_ | with_reducible refine wZ ?_
def Gi (z:Int):Prop:= -1000000≤z∧z≤1000000
def Gn (y:D):Prop:=∃s,y= .str s∧s.size≤16
def Gz (y:D):Prop:=∃z,y= .int .i64 z∧Gi z
theorem v37 (s:ByteArray):Wp (fun n=>mW n s) fun b=>b=true→s.size≤16:=by
 unfold mW;exact wZ (wI (fun _=>wZ (wI (fun h=>wS fun _=>by omega) fun _=>wS fun h=>by cases h)) fun _=>wS fun h=>by cases h)
theorem v86 (s:ByteArray):Wp (fun n=>F86 n s) fun b=>b=false→s.size≤16:=by
 unfold F86;exact wI (fun e=>wS fun _=>by rw[e];decide) fun _=>c1 (v37 s) fun b hb=>wB (wS fun h=>hb (by simpa using h))
theorem v89 (h:Nm l) (hn:l.length≤1000000000):Wp (fun n=>zQ n l) fun b=>b=false→∀y∈l,Gn y:=by
 have a:∀i,i≤l.length→(∀(j:Nat) y,j<i→l[j]?=some y→Gn y)→Wp (fun n=>Od n l l.length i) fun r=>r<0→∀y∈l,Gn y:=Ai _ fun i hi ih hs=>wU (by
  simp only[Od];refine wI (fun h2=>gi (by omega) fun x hx=>?_) fun h2=>wS fun _ y hy=>?_
  ·obtain⟨s,rfl⟩:=h x (List.mem_of_getElem? hx)
   exact dS (c1 (v86 s) fun b hb=>wI (fun _=>wS fun h=>by omega) fun hf=>wi (by omega) (ih (by omega) fun j y hj hy=>by
    rcases Nat.lt_succ_iff_lt_or_eq.1 hj with hj | rfl
    ·exact hs j y hj hy
    ·rw[hx]at hy;cases hy;exact⟨s,rfl,hb (by simpa using hf)⟩))
  ·obtain⟨j,hj⟩:=List.mem_iff_getElem?.1 hy;exact hs j y (by have:=(List.getElem?_eq_some_iff.1 hj).1;omega) hj)
 unfold zQ xO;exact c1 (wL (a 0 (Nat.zero_le _) fun j y hj _=>by omega)) fun r hr=>wI (fun _=>wS fun h=>by cases h) fun h=>wS fun _=>hr (by omega)
theorem v90 (h:∀y∈l,∃z,y=D.int .i64 z) (hn:l.length≤1000000000) (s2:ByteArray) (z3 z4:Int) {l5:List D}(h5:l5.length≤4000):W5 (fun n=>zR n l s2 z3 z4 l5) fun b s z z' l'=>z'=z4∧l'=l5∧(b=false→∀y∈l,Gz y):=by
 have a:∀i,i≤l.length→(∀(j:Nat) y,j<i→l[j]?=some y→Gz y)→W5 (fun n=>LV n l l.length i s2 z3 z4 l5) fun r s z z' l'=>z'=z4∧l'=l5∧(r<0→∀y∈l,Gz y):=Ai _ fun i hi ih hs=>wU (by
  simp only[LV,F87];refine wI (fun h2=>gi (by omega) fun x hx=>?_) fun h2=>wS ⟨rfl,rfl,fun _ y hy=>?_⟩
  ·obtain⟨z,rfl⟩:=h x (List.mem_of_getElem? hx)
   have go:∀b:Bool,(b=false→Gi z)→W5 (fun n=>if b=true then some ((i:Int),s2,z3,z4,l5)else AW (IntKind.wrap .i64 ((i:Int)+1)) fun z19=>LV n l l.length z19 s2 z3 z4 l5) fun r s z z' l'=>z'=z4∧l'=l5∧(r<0→∀y∈l,Gz y):=fun b hb=>wI (fun _=>wS ⟨rfl,rfl,fun h=>by omega⟩) fun hf=>wi (by omega) (ih (by omega) fun j y hj hy=>by
    rcases Nat.lt_succ_iff_lt_or_eq.1 hj with hj | rfl
    ·exact hs j y hj hy
    ·rw[hx]at hy;cases hy;exact⟨z,rfl,hb (by simpa using hf)⟩)
   exact dZ (c5 (Q:=fun b s z' z'' l'=>s=s2∧z'=z3∧z''=z4∧l'=l5∧(b=false→Gi z)) (wI (fun _=>wS ⟨rfl,rfl,rfl,rfl,fun h=>by cases h⟩) fun h0=>wL (wI (fun _=>wS ⟨rfl,rfl,rfl,rfl,fun h=>by cases h⟩) fun h1=>wS ⟨rfl,rfl,rfl,rfl,fun _=>⟨by omega,by omega⟩⟩)) fun b _ _ _ _ ⟨e1,e2,e3,e4,hb⟩=>by subst e1 e2 e3 e4;exact go b hb)
  ·obtain⟨j,hj⟩:=List.mem_iff_getElem?.1 hy;exact hs j y (by have:=(List.getElem?_eq_some_iff.1 hj).1;omega) hj)
 unfold zR xP;exact c5 (Q:=fun r s z z' l'=>z'=z4∧l'=l5∧(r<0→∀y∈l,Gz y)) (wL (a 0 (Nat.zero_le _) fun j y hj _=>by omega)) fun r _ _ _ _ ⟨e1,e2,hr⟩=>wI (fun _=>wS ⟨e1,e2,fun h=>by cases h⟩) fun h=>wS ⟨e1,e2,fun _=>hr (by omega)⟩
def Ks (l:List D):Prop:=(∀y∈l,Gz y)∧l.length≤100
theorem v127 (h:Ks l) (z:Int):Wp (fun n=>pX n l z) fun b=>b=true→Gi z:=by
 have a:∀i,i≤l.length→Wp (fun n=>Oe n l z l.length i) fun r=>0≤r→Gi z:=Ai _ fun i hi ih=>wU (by
  have:=h.2;simp only[Oe];refine wI (fun h2=>gi (by omega) fun x hx=>?_) fun _=>wS fun h=>by omega
  obtain⟨s,rfl,hs⟩:=h.1 x (List.mem_of_getElem? hx);exact dZ (wI (fun e=>wS fun _=>by rw[e];exact hs) fun _=>wi (by omega) (ih (by omega))))
 unfold pX xQ;exact c1 (wL (a 0 (Nat.zero_le _))) fun r hr=>wI (fun h=>wS fun _=>hr h) fun _=>wS fun h=>by cases h
theorem ks0:Ks []:=⟨nx,by simp⟩
def K9 (x:D):Prop:=∃(s:ByteArray) (z22 z23:Int) (b24 b25 b26 b27:Bool) (l:List D),x= .agg [.str s,.int .i64 z22,.int .i64 z23,.bool b24,.bool b25,.bool b26,.bool b27,.list false 1 l]∧Ks l∧s.size≤16
theorem v39 {z:Int}(hz:0≤z∧z≤255):W9 (fun n=>F39 n z) fun s _ _ _ _ _ _ l _=>Ks l∧s.size≤16:=by
 have h:Wp (fun n=>F92 n) fun r=>r=([.int .i64 1,.int .i64 2,.int .i64 3],rN,rO,rP,rQ,jN,[.int .i64 7,.int .i64 8],[.int .i64 9,.int .i64 10,.int .i64 11,.int .i64 12,.int .i64 13,.int .i64 14,.int .i64 15,.int .i64 16,.int .i64 17],[.int .i64 6,.int .i64 7,.int .i64 8,.int .i64 9,.int .i64 10,.int .i64 11],[.int .i64 6,.int .i64 10],Xd,Pn,Po,jS,Xe,Xf,jU,jV):=wS rfl
 have gk:∀{a:Int} {l:List D},(-1000000≤a∧a≤1000000)→(∀y∈l,Gz y)→∀y∈D.int .i64 a::l,Gz y:=fun ha h=>List.forall_mem_cons.2 ⟨⟨_,rfl,ha⟩,h⟩
 have gq:∀{s:ByteArray} {z22 z23:Int} {b24 b25 b26 b27:Bool} {l:List D},(∀y∈l,Gz y)→l.length≤100→s.size≤16→K9 (.agg [.str s,.int .i64 z22,.int .i64 z23,.bool b24,.bool b25,.bool b26,.bool b27,.list false 1 l]):=fun h h2 h3=>⟨_,_,_,_,_,_,_,_,rfl,⟨h,h2⟩,h3⟩
 unfold F39;refine c18 (Q:=fun a b c d e f g h i j k l m o p q r s=>(a,b,c,d,e,f,g,h,i,j,k,l,m,o,p,q,r,s)=_) h fun a b c d e f g h i j k l m o p q r s e=>?_
 cases e
 refine wI (fun _=>wS ⟨ks0,by decide⟩) fun _=>wW (x:=z) rfl (by omega) (wI (fun _=>wS ⟨ks0,by decide⟩) fun _=>wN (by omega) (wK9 (p:=K9) (by simp only[List.length_cons,List.length_nil];omega) ?_ fun x hx=>?_))
 ·repeat' first | exact nx | refine List.forall_mem_cons.2 ⟨gq (by repeat' first | exact nx | refine gk (by omega) ?_) (by simp) (by decide),?_⟩
 ·obtain⟨s,z22,z23,b24,b25,b26,b27,l,rfl,h,h2⟩:=hx;exact wS ⟨h,h2⟩
end
section
variable {l1:List D}(h1:∀x∈l1,∃s,Fn s x) (hl1:l1.length≤200)
include h1 hl1
def Gb (l1:List D) (z:Int):Prop:=Gi z∨∃s y co,D.agg [.str s,.int .i64 z,.int .i64 y,.list true 9 co]∈l1
omit hl1 in
theorem gf' {γ:Type}{P:γ→Prop}{z:Int}{k:Nat→ByteArray→Int→Int→List D→Option γ}(hi:0≤z∧z<l1.length) (h:∀s p y co,l1[z.toNat]?=some (.agg [.str s,.int .i64 p,.int .i64 y,.list true 9 co])→(∀y∈co,Cd y)→Wp (fun n=>k n s p y co) P):Wp (fun n=>Ae l1 z fun x=>B2 x (k n)) P:=wG hi fun x hx=>by
 obtain⟨s,p,y,co,rfl,hc⟩:=h1 x (List.mem_of_getElem? hx);exact h s p y co hx hc
theorem v91 {l15:List D}(hi:Ks l15) (z2:Int) (l3:List D) (s4:ByteArray) (z5:Int) {z6:Int}(h6:z6≤60) {l7:List D}(h7:l7.length≤4000) (s8:ByteArray) (z9 z10:Int) (b11 b12 b13 b14:Bool) (z16 z17 z18 z19:Int) (l20 l21:List D) (z22:Int) (s23:ByteArray) (l24:List D) (z25 z26:Int):Wp (fun n=>F91 n l1 z2 l3 s4 z5 z6 l7 s8 z9 z10 b11 b12 b13 b14 l15 z16 z17 z18 z19 l20 l21 z22 s23 l24 z25 z26) fun b=>b=true→Gb l1 z26:=by
 unfold F91
 repeat' first | exact wS fun h=>absurd h Bool.false_ne_true | (refine wS fun _=>.inl ⟨?_,?_⟩<;>omega) | with_reducible refine wI (fun _=>?_) fun _=>?_ | with_reducible refine wL ?_ | with_reducible refine c1 (v127 hi _) fun b hb=>?_ | exact wS fun h=>.inl (hb h) | with_reducible refine gf' h1 (by omega) fun _ _ _ _ hx _=>?_ | (subst_vars;exact wS fun _=>.inr ⟨_,_,_,List.mem_of_getElem? hx⟩)
theorem v38 {z5:Int}(hz:0≤z5∧z5≤255) {l9 l10:List D}(h9:∀y∈l9,∃z,y=D.int .i64 z) (h10:Nm l10) (z2:Int) (l3:List D) {z4:Int}(h4:∀s p y co,l1[z4.toNat]?=some (.agg [.str s,.int .i64 p,.int .i64 y,.list true 9 co])→y≤60∧co.length≤4000) (z6 z7 z8 z11:Int) (s12:ByteArray) (l13:List D):Wp (fun n=>F38 n l1 z2 l3 z4 z5 z6 z7 z8 l9 l10 z11 s12 l13) fun r=>r=0→Gb l1 z6∧Gb l1 z7∧s12.size≤16∧(l10.length≤40∧∀y∈l10,Gn y)∧l9.length≤6∧∀y∈l9,Gz y:=by
 have no:∀{p:Prop},Wp (fun _=>some (170:Int)) fun r=>r=0→p:=wS fun h=>by cases h
 unfold F38;refine c9 (v39 hz) fun s14 z15 z16 b17 b18 b19 b20 l21 b22 hi=>wB (wI (fun _=>no) fun _=>wI (fun _=>no) fun _=>wL (wI (fun _=>no) fun _=>gf' h1 (by omega) fun s26 z27 z28 l29 hx _=>?_))
 obtain⟨h28,h29⟩:=h4 _ _ _ _ hx
 have e3:∀b s62 z63,s12.size≤16→(l10.length≤40∧∀y∈l10,Gn y)→(b=false→l9.length≤6∧∀y∈l9,Gz y)→Wp (fun n=>I1 n l1 z2 l3 z5 z6 z7 z8 l9 l10 z11 s12 l13 s14 z15 z16 b17 b18 b19 b20 l21 b s62 z63 z28 l29) fun r=>r=0→Gb l1 z6∧Gb l1 z7∧s12.size≤16∧(l10.length≤40∧∀y∈l10,Gn y)∧l9.length≤6∧∀y∈l9,Gz y:=fun b s62 z63 q1 q2 q3=>wU (by
  simp only[I1];exact wI (fun _=>no) fun hb=>c1 (v91 h1 hl1 hi.1 _ _ _ _ h28 h29 _ _ _ _ _ _ _ _ _ _ _ _ _ _ _ _ _ _) fun a ha=>wB (wI (fun _=>no) fun ha'=>c1 (v91 h1 hl1 hi.1 _ _ _ _ h28 h29 _ _ _ _ _ _ _ _ _ _ _ _ _ _ _ _ _ _) fun c hc=>wB (wI (fun _=>no) fun hc'=>wS fun _=>⟨ha (by simpa using ha'),hc (by simpa using hc'),q1,q2,q3 (by simpa using hb)⟩)))
 have e2:∀b,s12.size≤16→(b=false→l10.length≤40∧∀y∈l10,Gn y)→Wp (fun n=>I2 n l1 z2 l3 z5 z6 z7 z8 l9 l10 z11 s12 l13 s14 z15 z16 b17 b18 b19 b20 l21 s26 z27 z28 l29 b) fun r=>r=0→Gb l1 z6∧Gb l1 z7∧s12.size≤16∧(l10.length≤40∧∀y∈l10,Gn y)∧l9.length≤6∧∀y∈l9,Gz y:=fun b q1 q2=>wU (by
  simp only[I2];refine wI (fun _=>no) fun hb=>?_
  have q2:=q2 (by simpa using hb)
  have e:Wp (fun n=>if (6:Int)<l9.length then I1 n l1 z2 l3 z5 z6 z7 z8 l9 l10 z11 s12 l13 s14 z15 z16 b17 b18 b19 b20 l21 true s26 z27 z28 l29 else ZY (zR n l9 s26 z27 z28 l29) fun b50 s51 z52 z53 l54=>I1 n l1 z2 l3 z5 z6 z7 z8 l9 l10 z11 s12 l13 s14 z15 z16 b17 b18 b19 b20 l21 b50 s51 z52 z53 l54) fun r=>r=0→Gb l1 z6∧Gb l1 z7∧s12.size≤16∧(l10.length≤40∧∀y∈l10,Gn y)∧l9.length≤6∧∀y∈l9,Gz y:=wI (fun _=>e3 _ _ _ q1 q2 fun h=>by cases h) fun hl=>c5 (v90 h9 (by omega) s26 z27 z28 h29) fun b s z z' l' ⟨e1,e2,e4⟩=>by subst e1 e2;exact e3 _ _ _ q1 q2 fun h=>⟨by omega,e4 h⟩
  exact wL (wI (fun _=>wB (wI (fun _=>e3 _ _ _ q1 q2 fun h=>by cases h) fun _=>wL e)) fun _=>wL e))
 have e1:∀b,(b=false→s12.size≤16)→Wp (fun n=>FY n l1 z2 l3 z5 z6 z7 z8 l9 l10 z11 s12 l13 s14 z15 z16 b17 b18 b19 b20 l21 s26 z27 z28 l29 b) fun r=>r=0→Gb l1 z6∧Gb l1 z7∧s12.size≤16∧(l10.length≤40∧∀y∈l10,Gn y)∧l9.length≤6∧∀y∈l9,Gz y:=fun b q1=>wU (by
  simp only[FY];refine wI (fun _=>no) fun hb=>?_
  have q1:=q1 (by simpa using hb)
  have e:Wp (fun n=>if (40:Int)<l10.length then I2 n l1 z2 l3 z5 z6 z7 z8 l9 l10 z11 s12 l13 s14 z15 z16 b17 b18 b19 b20 l21 s26 z27 z28 l29 true else Au (zQ n l10) fun b45=>I2 n l1 z2 l3 z5 z6 z7 z8 l9 l10 z11 s12 l13 s14 z15 z16 b17 b18 b19 b20 l21 s26 z27 z28 l29 b45) fun r=>r=0→Gb l1 z6∧Gb l1 z7∧s12.size≤16∧(l10.length≤40∧∀y∈l10,Gn y)∧l9.length≤6∧∀y∈l9,Gz y:=wI (fun _=>e2 _ q1 fun h=>by cases h) fun hl=>c1 (v89 h10 (by omega)) fun b hb=>e2 _ q1 fun h=>⟨by omega,hb h⟩
  exact wL (wI (fun _=>wB (wI (fun _=>e2 _ q1 fun h=>by cases h) fun _=>wL e)) fun _=>wL e))
 have t:Wp (fun n=>FY n l1 z2 l3 z5 z6 z7 z8 l9 l10 z11 s12 l13 s14 z15 z16 b17 b18 b19 b20 l21 s26 z27 z28 l29 true) _:=e1 true fun h=>by cases h
 have w:Wp (fun n=>Au (mW n s12) fun b=>Ax (!b) fun b35=>FY n l1 z2 l3 z5 z6 z7 z8 l9 l10 z11 s12 l13 s14 z15 z16 b17 b18 b19 b20 l21 s26 z27 z28 l29 b35) _:=c1 (v37 s12) fun b hb=>wB (e1 _ fun h=>hb (by simpa using h))
 refine wI (fun _=>wL (wI (fun _=>t) fun _=>u1 (t88 _ _ _ _ _ _ _ _ _ _ _ _ _ _ _ _ _) fun _=>wB (wI (fun _=>t) fun _=>wI (fun e=>wB (wI (fun _=>t) fun _=>wI (fun _=>w) fun _=>e1 _ fun _=>by rw[e];decide)) fun _=>wB (wI (fun _=>t) fun hq=>wI (fun _=>w) fun hb=>absurd hq (by simp[hb]))))) fun _=>t
def Gc (l1:List D) (x:D):Prop:=∃(op a b c z:Int) (s:ByteArray) (ks ps vs:List D),x= .agg [.int .u8 op,.int .i64 a,.int .i64 b,.int .i64 c,.list false 1 ks,.list false 1 ps,.int .i64 z,.str s,.list false 1 vs]∧(0≤op∧op≤255)∧Gb l1 a∧Gb l1 b∧s.size≤16∧(ps.length≤40∧∀y∈ps,Gn y)∧(ks.length≤6∧∀y∈ks,Gz y)∧ -9223372036854775808≤z∧z≤9223372036854775807
def Hf (l1:List D) (j:Nat):Prop:=∀s p y co,l1[j]?=some (.agg [.str s,.int .i64 p,.int .i64 y,.list true 9 co])→0≤p∧p≤60∧co.length≤4000∧∀x∈co,Gc l1 x
omit hl1 in
theorem v16 {l3:List D}(h3:∀x∈l3,Kd x) (z2:Int):Wp (fun n=>F16 n l1 z2 l3) fun r=>r=0→∀j,Hf l1 j:=by
 have no:∀{p:Prop},Wp (fun _=>some (170:Int)) fun r=>r=0→p:=wS fun h=>by cases h
 unfold F16;refine wL (wI (fun _=>no) fun hn=>wI (fun _=>no) fun _=>wL (wI (fun _=>no) fun _=>gf h1 (by omega) fun _ _ _ _ _=>wI (fun _=>u1 (t36 h3) fun _=>wB (wI (fun _=>no) fun _=>wL ?_)) fun _=>no))
 have a:∀i,i≤l1.length→(∀j,j<i→Hf l1 j)→Wp (fun n=>UW n l1 z2 l3 l1.length i l1) fun r=>r=0→∀j,Hf l1 j:=Ai _ fun i hi ih hs=>wU (by
  simp only[UW]
  refine wI (fun h=>gf' h1 (by omega) fun s p z co hx hc=>u1 (t37 s) fun _=>wB (wI (fun _=>no) fun _=>wI (fun _=>no) fun hp=>wI (fun _=>no) fun hpz=>wI (fun _=>no) fun hz=>wL (wI (fun _=>no) fun hl=>wL ?_))) fun h=>wS fun _ j=>by
   by_cases c:j<i
   ·exact hs j c
   ·exact fun s p y co e=>absurd (List.getElem?_eq_some_iff.1 e).1 (by omega)
  simp only[Int.toNat_natCast]at hx
  have b:∀j,j≤co.length→(∀(k:Nat) x,k<j→co[k]?=some x→Gc l1 x)→Wp (fun n=>UX n l1 z2 l3 l1.length i l1 co co.length i j) fun r=>r=0→∀j,Hf l1 j:=Ai _ fun j hj ih2 hs2=>wU (by
   simp only[UX];refine wI (fun h=>gi (by omega) fun x hx2=>?_) fun h=>wi (by omega) (ih (by omega) fun j' hj'=>?_)
   ·obtain⟨op,a,b,c,v,s',ks,ps,vs,rfl,q1,q2,q3,q4,q5⟩:=hc x (List.mem_of_getElem? hx2);refine dc (c1 (v38 h1 (by omega) ⟨q1,q2⟩ q3 q4 _ _ (fun s2 p2 y2 co2 e=>?_) _ _ _ _ _ _) fun r hr=>wI (fun e=>wi (by omega) (ih2 (by omega) fun k x hk hx3=>?_)) fun e=>wS fun h=>absurd h e)
    ·simp only[Int.toNat_natCast]at e;rw[hx]at e;cases e
     exact⟨by omega,by omega⟩
    ·rcases Nat.lt_succ_iff_lt_or_eq.1 hk with hk | rfl
     ·exact hs2 k x hk hx3
     ·rw[hx2]at hx3;cases hx3
      obtain⟨g1,g2,g3,g4,g5⟩:=hr e;exact⟨_,_,_,_,_,_,_,_,_,rfl,⟨q1,q2⟩,g1,g2,g3,g4,g5,q5⟩
   ·rcases Nat.lt_succ_iff_lt_or_eq.1 hj' with hj' | rfl
    ·exact hs j' hj'
    ·intro s2 p2 y2 co2 e;rw[hx]at e;cases e
     refine⟨by omega,by omega,by omega,fun x hx3=>?_⟩
     obtain⟨k,hk⟩:=List.mem_iff_getElem?.1 hx3;exact hs2 k x (by have:=(List.getElem?_eq_some_iff.1 hk).1;omega) hk)
  exact b 0 (Nat.zero_le _) fun k x hk _=>by omega)
 exact a 0 (Nat.zero_le _) fun j hj=>by omega
omit hl1 h1 in
theorem Gb.i {z:Int}(h:∀j,Hf l1 j) (hb:Gb l1 z):Gi z:=by
 rcases hb with hb | ⟨s,y,co,hm⟩
 ·exact hb
 ·obtain⟨j,hj⟩:=List.mem_iff_getElem?.1 hm;obtain⟨p1,p2,_⟩:=h j _ _ _ _ hj;exact⟨by omega,by omega⟩
end
end Go.Proofs.YtjfmnfncmfepnaaGreatDoor
end
