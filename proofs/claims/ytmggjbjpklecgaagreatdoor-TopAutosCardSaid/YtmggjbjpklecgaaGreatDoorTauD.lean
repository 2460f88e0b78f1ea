/- Part of a proof. No condition. (Part 4.) -/
import Derived.KernelRfl
import Derived.Shelf.Strings.Fields
import Derived.Shelf.Small.Strs
import Derived.Shelf.Strings.Search1
import Derived.Shelf.Strings.Prefix
import Derived.Shelf.LaysM
import Derived.Shelf.Strings.SplitShaped
import Derived.Shelf.Unicode.Latin
import Derived.Shelf.Bits.Mul64
import Derived.Shelf.Unicode.Is16White
import Derived.Shelf.Unicode.IsSpaceAny
import Derived.Shelf.Unicode.Is16WhiteD
import Derived.Shelf.Unicode.IsSpaceAnyD
import Derived.Shelf.Strings.FieldsAny
import Derived.Shelf.Strings.FieldsFuncAny
import Derived.Shelf.Unicode.Is16Any
import Derived.Shelf.Unicode.Is32Any
import Derived.Shelf.Unicode.ExclAny
import Derived.Shelf.Strings.FieldsFuncGrows
import Derived.Ground.Names2Prog
import Derived.Shelf.Slices.Clone
import Derived.Test.YtmggjbjpklecgaaGreatDoorProg
import Derived.Test.YtmggjbjpklecgaaGreatDoorTauC
set_option linter.unusedVariables false
set_option linter.unusedSimpArgs false
set_option linter.unusedVariables false
noncomputable section
namespace Go.Proofs.YtmggjbjpklecgaaGreatDoor
open Go Go.AM
theorem X8 {l:List D}(h:l.length=1):∃x0,l=[x0]:=by
 match l,h with
 | [x0],_=>exact⟨x0,rfl⟩
theorem WM {l:List D}(h:l.length=3):∃x0 x1 x2,l=[x0,x1,x2]:=by
 match l,h with
 | [x0,x1,x2],_=>exact⟨x0,x1,x2,rfl⟩
theorem X9 {l:List D}(h:l.length=4):∃x0 x1 x2 x3,l=[x0,x1,x2,x3]:=by
 match l,h with
 | [x0,x1,x2,x3],_=>exact⟨x0,x1,x2,x3,rfl⟩
theorem YA {l:List D}(h:l.length=8):∃x0 x1 x2 x3 x4 x5 x6 x7,l=[x0,x1,x2,x3,x4,x5,x6,x7]:=by
 match l,h with
 | [x0,x1,x2,x3,x4,x5,x6,x7],_=>exact⟨x0,x1,x2,x3,x4,x5,x6,x7,rfl⟩
theorem W3 {l:List D}(h:l.length=15):∃x0 x1 x2 x3 x4 x5 x6 x7 x8 x9 x10 x11 x12 x13 x14,l=[x0,x1,x2,x3,x4,x5,x6,x7,x8,x9,x10,x11,x12,x13,x14]:=by
 match l,h with
 | [x0,x1,x2,x3,x4,x5,x6,x7,x8,x9,x10,x11,x12,x13,x14],_=>exact⟨x0,x1,x2,x3,x4,x5,x6,x7,x8,x9,x10,x11,x12,x13,x14,rfl⟩
theorem W4 {l:List D}(h:l.length=16):∃x0 x1 x2 x3 x4 x5 x6 x7 x8 x9 x10 x11 x12 x13 x14 x15,l=[x0,x1,x2,x3,x4,x5,x6,x7,x8,x9,x10,x11,x12,x13,x14,x15]:=by
 match l,h with
 | [x0,x1,x2,x3,x4,x5,x6,x7,x8,x9,x10,x11,x12,x13,x14,x15],_=>exact⟨x0,x1,x2,x3,x4,x5,x6,x7,x8,x9,x10,x11,x12,x13,x14,x15,rfl⟩
theorem Y8 {x:D}(h:ER tab 9 x):∃a0,x= .str a0∧a0.size≤maxLen:=by
 have hs:=h.Up (y:=Bt tab 9) (by kernel_rfl) rfl
 have hl:=hs.flat 9 9 [9] [x] (by kernel_rfl)
 obtain⟨a0,rfl,w0⟩:=(hl.2 0 x 9 rfl rfl).GA (x:=Bt tab 9) (by kernel_rfl) rfl
 exact⟨_,rfl,w0⟩
theorem bA {x:D}(h:ER tab 4 x):∃a0,x= .bool a0:=by
 have hs:=h.Up (y:=Bt tab 4) (by kernel_rfl) rfl
 have hl:=hs.flat 9 4 [4] [x] (by kernel_rfl)
 obtain⟨a0,rfl⟩:=(hl.2 0 x 4 rfl rfl).Y3 (x:=Bt tab 4) (by kernel_rfl) rfl
 exact⟨_,rfl⟩
theorem ZP {x:D}(h:ER tab 24 x):∃a0,x= .agg [.list true 16 a0]∧Ao tab 45 a0:=by
 obtain⟨cs,rfl,hs⟩:=h.agg (y:=Bt tab 24) (by kernel_rfl) rfl
 have hl:=hs.flat 9 24 [22] cs (by kernel_rfl)
 obtain⟨b0,rfl⟩:=X8 hl.1
 obtain⟨a0,e0,w0⟩:=(hl.2 0 b0 22 rfl rfl).DW (x:=Bt tab 22) (y:=Bt tab 45) (by kernel_rfl) rfl (by kernel_rfl)
 obtain rfl:b0= .list true 16 a0:=e0
 exact⟨_,rfl,w0⟩
theorem YB {x:D}(h:ER tab 25 x):∃a0,x= .list false 1 a0∧Ao tab 4 a0:=by
 have hs:=h.Up (y:=Bt tab 25) (by kernel_rfl) rfl
 have hl:=hs.flat 9 25 [25] [x] (by kernel_rfl)
 obtain⟨a0,e0,w0⟩:=(hl.2 0 x 25 rfl rfl).DW (x:=Bt tab 25) (y:=Bt tab 4) (by kernel_rfl) rfl (by kernel_rfl)
 obtain rfl:x= .list false 1 a0:=e0
 exact⟨_,rfl,w0⟩
theorem VN {x:D}(h:ER tab 28 x):∃a0 a1 a2,x= .agg [.int .u8 a0,.str a1,.list true 3 a2]∧(Lit.int .u8 a0).wf=true∧a1.size≤maxLen∧Ao tab 28 a2:=by
 obtain⟨cs,rfl,hs⟩:=h.agg (y:=Bt tab 28) (by kernel_rfl) rfl
 have hl:=hs.flat 9 28 [5,9,26] cs (by kernel_rfl)
 obtain⟨b0,b1,b2,rfl⟩:=WM hl.1
 obtain⟨a0,rfl,w0⟩:=(hl.2 0 b0 5 rfl rfl).IJ (x:=Bt tab 5) (by kernel_rfl) rfl
 obtain⟨a1,rfl,w1⟩:=(hl.2 1 b1 9 rfl rfl).GA (x:=Bt tab 9) (by kernel_rfl) rfl
 obtain⟨a2,e2,w2⟩:=(hl.2 2 b2 26 rfl rfl).DW (x:=Bt tab 26) (y:=Bt tab 28) (by kernel_rfl) rfl (by kernel_rfl)
 obtain rfl:b2= .list true 3 a2:=e2
 exact⟨_,_,_,rfl,w0,w1,w2⟩
theorem VO {x:D}(h:ER tab 43 x):∃a0 a1 a2 a3 a4 a5 a6 a7,x= .agg [.int .u8 a0,.int .i64 a1,.str a2,.str a3,.str a4,.list false 1 a5,.list true 8 a6,.int .i64 a7]∧(Lit.int .u8 a0).wf=true∧(Lit.int .i64 a1).wf=true∧a2.size≤maxLen∧a3.size≤maxLen∧a4.size≤maxLen∧Ao tab 9 a5∧Ao tab 43 a6∧(Lit.int .i64 a7).wf=true:=by
 obtain⟨cs,rfl,hs⟩:=h.agg (y:=Bt tab 43) (by kernel_rfl) rfl
 have hl:=hs.flat 9 43 [5,2,9,9,9,38,41,3] cs (by kernel_rfl)
 obtain⟨b0,b1,b2,b3,b4,b5,b6,b7,rfl⟩:=YA hl.1
 obtain⟨a0,rfl,w0⟩:=(hl.2 0 b0 5 rfl rfl).IJ (x:=Bt tab 5) (by kernel_rfl) rfl
 obtain⟨a1,rfl,w1⟩:=(hl.2 1 b1 2 rfl rfl).IJ (x:=Bt tab 2) (by kernel_rfl) rfl
 obtain⟨a2,rfl,w2⟩:=(hl.2 2 b2 9 rfl rfl).GA (x:=Bt tab 9) (by kernel_rfl) rfl
 obtain⟨a3,rfl,w3⟩:=(hl.2 3 b3 9 rfl rfl).GA (x:=Bt tab 9) (by kernel_rfl) rfl
 obtain⟨a4,rfl,w4⟩:=(hl.2 4 b4 9 rfl rfl).GA (x:=Bt tab 9) (by kernel_rfl) rfl
 obtain⟨a5,e5,w5⟩:=(hl.2 5 b5 38 rfl rfl).DW (x:=Bt tab 38) (y:=Bt tab 9) (by kernel_rfl) rfl (by kernel_rfl)
 obtain rfl:b5= .list false 1 a5:=e5
 obtain⟨a6,e6,w6⟩:=(hl.2 6 b6 41 rfl rfl).DW (x:=Bt tab 41) (y:=Bt tab 43) (by kernel_rfl) rfl (by kernel_rfl)
 obtain rfl:b6= .list true 8 a6:=e6
 obtain⟨a7,rfl,w7⟩:=(hl.2 7 b7 3 rfl rfl).IJ (x:=Bt tab 3) (by kernel_rfl) rfl
 exact⟨_,_,_,_,_,_,_,_,rfl,w0,w1,w2,w3,w4,w5,w6,w7⟩
theorem W5 {x:D}(h:ER tab 45 x):∃a0 a1 a2 a3 a4 a5 a6 a7 a8 a9 a10 a11 a12 a13 a14 a15,x= .agg [.int .u8 a0,.str a1,.list true 4 a2,.int .u8 a3,.str a4,.list true 3 a5,.list true 15 a6,.int .u8 a7,.int .i64 a8,.str a9,.str a10,.str a11,.list false 1 a12,.list true 8 a13,.int .i64 a14,.int .i64 a15]∧(Lit.int .u8 a0).wf=true∧a1.size≤maxLen∧Ao tab 67 a2∧(Lit.int .u8 a3).wf=true∧a4.size≤maxLen∧Ao tab 28 a5∧Ao tab 82 a6∧(Lit.int .u8 a7).wf=true∧(Lit.int .i64 a8).wf=true∧a9.size≤maxLen∧a10.size≤maxLen∧a11.size≤maxLen∧Ao tab 9 a12∧Ao tab 43 a13∧(Lit.int .i64 a14).wf=true∧(Lit.int .i64 a15).wf=true:=by
 obtain⟨cs,rfl,hs⟩:=h.agg (y:=Bt tab 45) (by kernel_rfl) rfl
 have hl:=hs.flat 9 45 [5,9,36,5,9,26,37,5,2,9,9,9,38,41,3,3] cs (by kernel_rfl)
 obtain⟨b0,b1,b2,b3,b4,b5,b6,b7,b8,b9,b10,b11,b12,b13,b14,b15,rfl⟩:=W4 hl.1
 obtain⟨a0,rfl,w0⟩:=(hl.2 0 b0 5 rfl rfl).IJ (x:=Bt tab 5) (by kernel_rfl) rfl
 obtain⟨a1,rfl,w1⟩:=(hl.2 1 b1 9 rfl rfl).GA (x:=Bt tab 9) (by kernel_rfl) rfl
 obtain⟨a2,e2,w2⟩:=(hl.2 2 b2 36 rfl rfl).DW (x:=Bt tab 36) (y:=Bt tab 67) (by kernel_rfl) rfl (by kernel_rfl)
 obtain rfl:b2= .list true 4 a2:=e2
 obtain⟨a3,rfl,w3⟩:=(hl.2 3 b3 5 rfl rfl).IJ (x:=Bt tab 5) (by kernel_rfl) rfl
 obtain⟨a4,rfl,w4⟩:=(hl.2 4 b4 9 rfl rfl).GA (x:=Bt tab 9) (by kernel_rfl) rfl
 obtain⟨a5,e5,w5⟩:=(hl.2 5 b5 26 rfl rfl).DW (x:=Bt tab 26) (y:=Bt tab 28) (by kernel_rfl) rfl (by kernel_rfl)
 obtain rfl:b5= .list true 3 a5:=e5
 obtain⟨a6,e6,w6⟩:=(hl.2 6 b6 37 rfl rfl).DW (x:=Bt tab 37) (y:=Bt tab 82) (by kernel_rfl) rfl (by kernel_rfl)
 obtain rfl:b6= .list true 15 a6:=e6
 obtain⟨a7,rfl,w7⟩:=(hl.2 7 b7 5 rfl rfl).IJ (x:=Bt tab 5) (by kernel_rfl) rfl
 obtain⟨a8,rfl,w8⟩:=(hl.2 8 b8 2 rfl rfl).IJ (x:=Bt tab 2) (by kernel_rfl) rfl
 obtain⟨a9,rfl,w9⟩:=(hl.2 9 b9 9 rfl rfl).GA (x:=Bt tab 9) (by kernel_rfl) rfl
 obtain⟨a10,rfl,w10⟩:=(hl.2 10 b10 9 rfl rfl).GA (x:=Bt tab 9) (by kernel_rfl) rfl
 obtain⟨a11,rfl,w11⟩:=(hl.2 11 b11 9 rfl rfl).GA (x:=Bt tab 9) (by kernel_rfl) rfl
 obtain⟨a12,e12,w12⟩:=(hl.2 12 b12 38 rfl rfl).DW (x:=Bt tab 38) (y:=Bt tab 9) (by kernel_rfl) rfl (by kernel_rfl)
 obtain rfl:b12= .list false 1 a12:=e12
 obtain⟨a13,e13,w13⟩:=(hl.2 13 b13 41 rfl rfl).DW (x:=Bt tab 41) (y:=Bt tab 43) (by kernel_rfl) rfl (by kernel_rfl)
 obtain rfl:b13= .list true 8 a13:=e13
 obtain⟨a14,rfl,w14⟩:=(hl.2 14 b14 3 rfl rfl).IJ (x:=Bt tab 3) (by kernel_rfl) rfl
 obtain⟨a15,rfl,w15⟩:=(hl.2 15 b15 3 rfl rfl).IJ (x:=Bt tab 3) (by kernel_rfl) rfl
 exact⟨_,_,_,_,_,_,_,_,_,_,_,_,_,_,_,_,rfl,w0,w1,w2,w3,w4,w5,w6,w7,w8,w9,w10,w11,w12,w13,w14,w15⟩
theorem W6 {x:D}(h:ER tab 67 x):∃a0 a1 a2 a3,x= .agg [.str a0,.int .u8 a1,.str a2,.list true 3 a3]∧a0.size≤maxLen∧(Lit.int .u8 a1).wf=true∧a2.size≤maxLen∧Ao tab 28 a3:=by
 obtain⟨cs,rfl,hs⟩:=h.agg (y:=Bt tab 67) (by kernel_rfl) rfl
 have hl:=hs.flat 9 67 [9,5,9,26] cs (by kernel_rfl)
 obtain⟨b0,b1,b2,b3,rfl⟩:=X9 hl.1
 obtain⟨a0,rfl,w0⟩:=(hl.2 0 b0 9 rfl rfl).GA (x:=Bt tab 9) (by kernel_rfl) rfl
 obtain⟨a1,rfl,w1⟩:=(hl.2 1 b1 5 rfl rfl).IJ (x:=Bt tab 5) (by kernel_rfl) rfl
 obtain⟨a2,rfl,w2⟩:=(hl.2 2 b2 9 rfl rfl).GA (x:=Bt tab 9) (by kernel_rfl) rfl
 obtain⟨a3,e3,w3⟩:=(hl.2 3 b3 26 rfl rfl).DW (x:=Bt tab 26) (y:=Bt tab 28) (by kernel_rfl) rfl (by kernel_rfl)
 obtain rfl:b3= .list true 3 a3:=e3
 exact⟨_,_,_,_,rfl,w0,w1,w2,w3⟩
theorem YC {x:D}(h:ER tab 82 x):∃a0 a1 a2 a3 a4 a5 a6 a7 a8 a9 a10 a11 a12 a13 a14,x= .agg [.int .u8 a0,.str a1,.str a2,.list false 1 a3,.int .u8 a4,.str a5,.list true 3 a6,.int .i64 a7,.str a8,.list false 1 a9,.list true 8 a10,.list true 15 a11,.list true 15 a12,.list true 3 a13,.int .i64 a14]∧(Lit.int .u8 a0).wf=true∧a1.size≤maxLen∧a2.size≤maxLen∧Ao tab 9 a3∧(Lit.int .u8 a4).wf=true∧a5.size≤maxLen∧Ao tab 28 a6∧(Lit.int .i64 a7).wf=true∧a8.size≤maxLen∧Ao tab 9 a9∧Ao tab 43 a10∧Ao tab 82 a11∧Ao tab 82 a12∧Ao tab 86 a13∧(Lit.int .i64 a14).wf=true:=by
 obtain⟨cs,rfl,hs⟩:=h.agg (y:=Bt tab 82) (by kernel_rfl) rfl
 have hl:=hs.flat 9 82 [5,9,9,38,5,9,26,2,9,38,41,37,37,80,3] cs (by kernel_rfl)
 obtain⟨b0,b1,b2,b3,b4,b5,b6,b7,b8,b9,b10,b11,b12,b13,b14,rfl⟩:=W3 hl.1
 obtain⟨a0,rfl,w0⟩:=(hl.2 0 b0 5 rfl rfl).IJ (x:=Bt tab 5) (by kernel_rfl) rfl
 obtain⟨a1,rfl,w1⟩:=(hl.2 1 b1 9 rfl rfl).GA (x:=Bt tab 9) (by kernel_rfl) rfl
 obtain⟨a2,rfl,w2⟩:=(hl.2 2 b2 9 rfl rfl).GA (x:=Bt tab 9) (by kernel_rfl) rfl
 obtain⟨a3,e3,w3⟩:=(hl.2 3 b3 38 rfl rfl).DW (x:=Bt tab 38) (y:=Bt tab 9) (by kernel_rfl) rfl (by kernel_rfl)
 obtain rfl:b3= .list false 1 a3:=e3
 obtain⟨a4,rfl,w4⟩:=(hl.2 4 b4 5 rfl rfl).IJ (x:=Bt tab 5) (by kernel_rfl) rfl
 obtain⟨a5,rfl,w5⟩:=(hl.2 5 b5 9 rfl rfl).GA (x:=Bt tab 9) (by kernel_rfl) rfl
 obtain⟨a6,e6,w6⟩:=(hl.2 6 b6 26 rfl rfl).DW (x:=Bt tab 26) (y:=Bt tab 28) (by kernel_rfl) rfl (by kernel_rfl)
 obtain rfl:b6= .list true 3 a6:=e6
 obtain⟨a7,rfl,w7⟩:=(hl.2 7 b7 2 rfl rfl).IJ (x:=Bt tab 2) (by kernel_rfl) rfl
 obtain⟨a8,rfl,w8⟩:=(hl.2 8 b8 9 rfl rfl).GA (x:=Bt tab 9) (by kernel_rfl) rfl
 obtain⟨a9,e9,w9⟩:=(hl.2 9 b9 38 rfl rfl).DW (x:=Bt tab 38) (y:=Bt tab 9) (by kernel_rfl) rfl (by kernel_rfl)
 obtain rfl:b9= .list false 1 a9:=e9
 obtain⟨a10,e10,w10⟩:=(hl.2 10 b10 41 rfl rfl).DW (x:=Bt tab 41) (y:=Bt tab 43) (by kernel_rfl) rfl (by kernel_rfl)
 obtain rfl:b10= .list true 8 a10:=e10
 obtain⟨a11,e11,w11⟩:=(hl.2 11 b11 37 rfl rfl).DW (x:=Bt tab 37) (y:=Bt tab 82) (by kernel_rfl) rfl (by kernel_rfl)
 obtain rfl:b11= .list true 15 a11:=e11
 obtain⟨a12,e12,w12⟩:=(hl.2 12 b12 37 rfl rfl).DW (x:=Bt tab 37) (y:=Bt tab 82) (by kernel_rfl) rfl (by kernel_rfl)
 obtain rfl:b12= .list true 15 a12:=e12
 obtain⟨a13,e13,w13⟩:=(hl.2 13 b13 80 rfl rfl).DW (x:=Bt tab 80) (y:=Bt tab 86) (by kernel_rfl) rfl (by kernel_rfl)
 obtain rfl:b13= .list true 3 a13:=e13
 obtain⟨a14,rfl,w14⟩:=(hl.2 14 b14 3 rfl rfl).IJ (x:=Bt tab 3) (by kernel_rfl) rfl
 exact⟨_,_,_,_,_,_,_,_,_,_,_,_,_,_,_,rfl,w0,w1,w2,w3,w4,w5,w6,w7,w8,w9,w10,w11,w12,w13,w14⟩
theorem VP {x:D}(h:ER tab 86 x):∃a0 a1 a2,x= .agg [.str a0,.str a1,.list true 15 a2]∧a0.size≤maxLen∧a1.size≤maxLen∧Ao tab 82 a2:=by
 obtain⟨cs,rfl,hs⟩:=h.agg (y:=Bt tab 86) (by kernel_rfl) rfl
 have hl:=hs.flat 9 86 [9,9,37] cs (by kernel_rfl)
 obtain⟨b0,b1,b2,rfl⟩:=WM hl.1
 obtain⟨a0,rfl,w0⟩:=(hl.2 0 b0 9 rfl rfl).GA (x:=Bt tab 9) (by kernel_rfl) rfl
 obtain⟨a1,rfl,w1⟩:=(hl.2 1 b1 9 rfl rfl).GA (x:=Bt tab 9) (by kernel_rfl) rfl
 obtain⟨a2,e2,w2⟩:=(hl.2 2 b2 37 rfl rfl).DW (x:=Bt tab 37) (y:=Bt tab 82) (by kernel_rfl) rfl (by kernel_rfl)
 obtain rfl:b2= .list true 15 a2:=e2
 exact⟨_,_,_,rfl,w0,w1,w2⟩
end Go.Proofs.YtmggjbjpklecgaaGreatDoor
end
namespace Go.AM
open Go Go.RowKit
def VQ (p:Id→Bool):CV→Bool
 | .ptr i _=>p i
 | .fn _ cap=>Ci p cap
 | .lst i _ _ _=>p i
 | .sl i _=>p i
 | .map i=>p i
 | .ap i _ _ _ _=>p i
 | .ow i=>p i
 | .op i _ _ _=>p i
 | .yl i=>p i
 | .bm _ i=>p i
 | _=>true
def Y9 (p:Id→Bool):V1→Bool
 | .d _=>true
 | .c x=>VQ p x
 | .agg cs=>Ci (VQ p) cs
def YD (p:Id→Bool):AV→Bool
 | .u=>true
 | .v x=>Y9 p x
 | .t xs=>Ci (Y9 p) xs
def Ta (p:Id→Bool):AQ→Bool
 | .cells cs=>Ci (VQ p) cs
 | .tok ..=>true
 | .map ..=>true
 | .arr cs1 _ _ _ cs2=>match Ci (VQ p) cs1 with
  | true=>Ci (VQ p) cs2
  | false=>false
 | .tree _ _ _ _ foc=>match foc with
  | some x=>Ci (VQ p) x.2
  | none=>true
 | .pmap _ _ _ _ foc=>match foc with
  | some x=>p x.2
  | none=>true
 | .part ..=>true
 | .gone=>true
 | .rnd _ sl=>Ci (fun x=>YD p x.2) sl
 | .rndX _=>true
section
variable {p:Id→Bool}{f e:Id→Id}(hp:∀i,p i=true→f (e i)=i)
include hp
theorem Tb {c:CV}(h:VQ p c=true):(c.BW e).BW f=c:=by
 cases c<;>simp only[CV.BW,VQ]at h ⊢
 ·rw[hp _ h]
 ·rw[List.map_map]
  congr 1
  rw[Ba]at h
  exact CU fun i hi=>hp _ (h i hi)
 ·rw[hp _ h]
 ·rw[hp _ h]
 ·rw[hp _ h]
 ·rw[hp _ h]
 ·rw[hp _ h]
 ·rw[hp _ h]
 ·rw[hp _ h]
 ·rw[hp _ h]
theorem Im {cs:List CV}(h:Ci (VQ p) cs=true):(cs.map (CV.BW e)).map (CV.BW f)=cs:=by
 rw[List.map_map]
 rw[Ba]at h
 exact CU fun i hi=>Tb hp (h i hi)
theorem Tc {c:V1}(h:Y9 p c=true):(c.BW e).BW f=c:=by
 cases c<;>simp only[V1.BW,Y9]at h ⊢
 ·rw[Tb hp h]
 ·rw[Im hp h]
theorem Td {c:AV}(h:YD p c=true):(c.BW e).BW f=c:=by
 cases c<;>simp only[AV.BW,YD]at h ⊢
 ·rw[Tc hp h]
 ·rw[List.map_map]
  congr 1
  rw[Ba]at h
  exact CU fun i hi=>Tc hp (h i hi)
theorem VR {c:AQ}(h:Ta p c=true):(c.BW e).BW f=c:=by
 cases c<;>simp only[AQ.BW,Ta]at h ⊢
 ·rw[Im hp h]
 ·split at h
  ·rename_i h1
   rw[Im hp h,Im hp h1]
  ·cases h
 ·congr 1
  split at h
  ·show some (_,List.map (CV.BW f) (List.map (CV.BW e) _))=_
   rw[Im hp h]
  ·rfl
 ·congr 1
  split at h
  ·show some (_,f (e _))=_
   rw[hp _ h]
  ·rfl
 ·rw[List.map_map]
  congr 1
  rw[Ba]at h
  refine CU fun i hi=>?_
  show (i.1,(i.2.BW e).BW f)=i
  rw[Td hp (h i hi)]
end
theorem Te {σ σ':St}(r:Id→Id) (hext:∀j,r (.ext j)= .ext j) (hbig:∀n,σ'.next≤n→∃N,σ.next≤N∧r (.loc n)= .loc N)
  (hs:∀t,Ay σ'.slots t= .u∨Ay σ.slots t=(Ay σ'.slots t).BW r) (hh:∀i o,Ag σ'.heap i=some o→Ag σ.heap (r i)=some (o.BW r))
  (hinj:∀i j o o',Ag σ'.heap i=some o→Ag σ'.heap j=some o'→r i=r j→i=j) (hlow:∀n,σ'.next≤n→Ag σ'.heap (.loc n)=none):CG σ σ':=by
 rintro C a w ⟨g,R⟩
 let g':Ac:=fun i=>g (r i)
 have hz:∀b o,zone g' (Ag σ'.heap) b o→zone g (Ag σ.heap) b o:=by
  rintro b o ⟨i,ob,hi,h1⟩
  exact⟨r i,_,hh i ob hi,CX.2 h1⟩
 have hzz:∀b o,BN (zone g' (Ag σ'.heap)) C.X b o→BN (zone g (Ag σ.heap)) C.X b o:=fun b o hx=>hx.imp (hz b o) id
 have ht:∀i n sz e,Ag σ'.heap i=some (.tok n sz e)→Ag σ.heap (r i)=some (.tok n sz e):=fun i n sz e hi=>hh i _ hi
 have hw:∀i,isLive (Ag σ'.heap i)=true→isLive (Ag σ.heap (r i))=true:=by
  intro i hi
  cases hc:Ag σ'.heap i with
  | none=>rw[hc]at hi;cases hi
  | some o=>
   rw[hh i o hc]
   rw[hc]at hi
   exact C9.trans hi
 refine⟨g',R.size,R.defers,fun t=>?_,⟨fun i o hi=>Bd.pull (r:=r) (g':=g') hzz (fun _=>rfl) ht hw (R.heap.objs _ _ (hh i o hi)),fun i j oi oj b hi hj bi bj=>?_,fun i oi b o hi bi=>R.heap.apart _ _ b o (hh i oi hi) (Cp.2 bi)⟩,R.frame,fun j=>?_,
  fun j ob b o hj hz'=>R.within _ _ b o (hh j ob hj) (CX.2 hz'),R.xs,fun n hn=>⟨?_,hlow n hn⟩⟩
 ·rcases hs t with e | e
  ·rw[e];trivial
  ·have:=R.slots t
   rw[e]at this
   exact BG.pull (r:=r) hzz (fun _=>rfl) ht hw this
 ·exact hinj i j oi oj hi hj (R.heap.sep _ _ _ _ b (hh i oi hi) (hh j oj hj) (Cp.2 bi) (Cp.2 bj))
 ·show Ce (C.g0 (.ext j)) (g (r (.ext j)))
  rw[hext]
  exact R.ext j
 ·obtain⟨N,hN,e⟩:=hbig n hn
  show g (r (.loc n))=undef
  rw[e]
  exact (R.free N hN).1
def WN:List (Nat×Nat)→Nat→Option Nat
 | [],_=>none
 | (a,b)::l,k=>match Nat.beq a k with
  | true=>some b
  | false=>WN l k
def WO:List (Nat×Nat)→Nat→Option Nat
 | [],_=>none
 | (a,b)::l,k=>match Nat.beq b k with
  | true=>some a
  | false=>WO l k
def GV (l:List (Nat×Nat)):Id→Id
 | .ext j=>.ext j
 | .loc k=>match WN l k with
  | some m=>.loc m
  | none=>.loc k
def Tf (l:List (Nat×Nat)):Id→Id
 | .ext j=>.ext j
 | .loc k=>match WO l k with
  | some m=>.loc m
  | none=>.loc k
def Lm (l:List (Nat×Nat)) (n:Nat) (i:Id):Bool:=
 match Id.beq (Tf l (GV l i)) i with
 | true=>KE n (GV l i)
 | false=>false
def VS (l:List (Nat×Nat)):List (Nat×AV)→List (Nat×AV)
 | []=>[]
 | (t,x)::r=>(t,x.BW (GV l))::VS l r
def Pf (l:List (Nat×Nat)):List (Id×AQ)→List (Id×AQ)
 | []=>[]
 | (i,x)::r=>(GV l i,x.BW (GV l))::Pf l r
def RX (ks:List Nat) (is:List Id) (n:Nat) (l:List (Nat×Nat)) (σ:St) (K:St→Prop):Prop:=
 match NK σ.heap is with
 | none=>False
 | some hp=>Bq (Ci (fun x:Nat×AV=>YD (Lm l n) x.2) (Ig σ.slots ks))<| Bq (Ci (fun x:Id×AQ=>match Lm l n x.1 with | true=>Ta (Lm l n) x.2 | false=>false) hp)<|
   K ⟨VS l (Ig σ.slots ks),Pf l hp,n⟩
theorem Tg {l:List (Nat×Nat)}{s:List (Nat×AV)}(t:Nat):Ay (VS l s) t=(Ay s t).BW (GV l):=by
 induction s with
 | nil=>rfl
 | cons x s ih=>
  obtain⟨k,v⟩:=x
  show Ay ((k,v.BW (GV l))::VS l s) t=_
  rw[Ca,Ca]
  simp only[]
  split
  ·rfl
  ·exact ih
theorem Pg {l:List (Nat×Nat)}{p:Id→Bool}{f:Id→Id}(hp:∀i,p i=true→f (GV l i)=i):∀{s:List (Id×AQ)},(∀x∈s,p x.1=true)→∀{i:Id}{o:AQ},Ag (Pf l s) i=some o→p (f i)=true∧GV l (f i)=i∧∃o',Ag s (f i)=some o'∧o=o'.BW (GV l)
 | [],_,i,o,h=>by simp[Pf,Ag]at h
 | (k,v)::s,hs,i,o,h=>by
  have hk:=hs (k,v) (by simp)
  rw[show Pf l ((k,v)::s)=(GV l k,v.BW (GV l))::Pf l s from rfl,Cb]at h
  simp only[AX]at h
  by_cases e:i=GV l k
  ·rw[if_pos e]at h
   simp at h
   have hf:f i=k:=by rw[e];exact hp k hk
   rw[hf]
   exact⟨hk,e.symm,v,by rw[Cb];simp[AX],h.symm⟩
  ·rw[if_neg e]at h
   obtain⟨h1,h2,o',h3,h4⟩:=Pg hp (fun x hx=>hs x (List.mem_cons_of_mem _ hx)) h
   refine⟨h1,h2,o',?_,h4⟩
   rw[Cb]
   simp only[AX]
   rw[if_neg]
   ·exact h3
   ·rintro rfl
    exact e h2.symm
theorem Th {q:Id×AQ→Bool}{l:List (Id×AQ)}(h:Ci q l=true) {i:Id}{o:AQ}(hi:Ag l i=some o):q (i,o)=true:=by
 induction l with
 | nil=>simp[Ag]at hi
 | cons x l ih=>
  obtain⟨k,v⟩:=x
  rw[Ba]at h
  rw[Cb]at hi
  simp only[AX]at hi
  split at hi
  ·rename_i e
   cases hi
   rw[e]
   exact h _ (List.mem_cons_self ..)
  ·exact ih (Ba.2 fun x hx=>h x (by simp[hx])) hi
theorem Ln {ks:List Nat}{is:List Id}{n:Nat}{l:List (Nat×Nat)}{σ:St}{K:St→Prop}(h:RX ks is n l σ K):∃σ',CG σ σ'∧K σ':=by
 unfold RX at h
 split at h
 ·exact h.elim
 ·rename_i hp hhp
  obtain⟨h1,h⟩:=AR.1 h
  obtain⟨h2,h⟩:=AR.1 h
  let N:=max σ.next n
  let f:Id→Id:=fun i=>if KE n i=true then Tf l i else .loc N
  have hpf:∀i,Lm l n i=true→f (GV l i)=i:=by
   intro i hi
   unfold Lm at hi
   split at hi
   ·rename_i hb
    show (if KE n (GV l i)=true then _ else _)=i
    rw[if_pos hi]
    exact Id.beq_iff.1 hb
   ·cases hi
  have hk2:∀x∈hp,Lm l n x.1=true∧Ta (Lm l n) x.2=true:=by
   intro x hx
   have:=Ba.1 h2 x hx
   split at this
   ·rename_i hb;exact⟨hb,this⟩
   ·cases this
  have hnew:∀i o,Ag (Pf l hp) i=some o→Lm l n (f i)=true∧GV l (f i)=i∧∃o',Ag hp (f i)=some o'∧o=o'.BW (GV l):=fun i o hi=>Pg hpf (fun x hx=>(hk2 x hx).1) hi
  refine⟨_,Te f (fun j=>by show (if KE n (.ext j)=true then _ else _)=_;simp[KE,Tf]) (fun m hm=>⟨N,Nat.le_max_left _ _,?_⟩) (fun t=>?_) (fun i o hi=>?_) (fun i j o o' hi hj e=>?_) (fun m hm=>?_),h⟩
  ·have hm:n≤m:=hm
   have:KE n (.loc m)=false:=by
    cases hb:KE n (.loc m)with
    | false=>rfl
    | true=>simp[KE]at hb;omega
   show (if KE n (.loc m)=true then _ else _)=_
   rw[this];rfl
  ·rw[Tg]
   rcases NL (l:=σ.slots) (ks:=ks) t with e | e
   ·rw[e];exact .inl rfl
   ·right
    rw[←e]
    exact (Td hpf (PK (p:=YD (Lm l n)) rfl h1 t)).symm
  ·obtain⟨p1,p2,o',p3,rfl⟩:=hnew i o hi
   have hq:=Th (q:=fun x=>Ta (Lm l n) x.2) (Ba.2 fun x hx=>(hk2 x hx).2) p3
   rw[VR hpf hq]
   exact (HG hhp _ _ p3).1
  ·obtain⟨_,p2,_⟩:=hnew i o hi
   obtain⟨_,q2,_⟩:=hnew j o' hj
   rw[←p2,←q2,e]
  ·cases hc:Ag (Pf l hp) (.loc m)with
   | none=>rfl
   | some o=>
    obtain⟨p1,p2,_⟩:=hnew _ o hc
    have hm:n≤m:=hm
    unfold Lm at p1
    split at p1
    ·rw[p2]at p1
     simp[KE]at p1
     omega
    ·cases p1
end Go.AM
namespace Go.AM
open Go Go.RowKit
theorem FE {M:BS}{ex:St→(B1→St→Prop)→Prop}{σ:St}{K:B1→St→Prop}(gs:List Gh) (l:List (Nat×Nat)) (ks:List Nat) (is:List Id) (nx:Nat) {T:Type}(S:T→St) (I:T→Prop) (m:T→Nat) (t0:T)
  (hI:I t0) (h0:gh gs σ fun σ=>RX ks is nx l σ (·=S t0))
  (hr:∀t,I t→ex (S t) fun e σ2=>match e with
   | .normal=>∃n' σ3,n'<m t∧CG σ2 σ3∧∃t',I t'∧n'=m t'∧σ3=S t'
   | .exit id=>K (.exit id) σ2
   | .ret=>K .ret σ2):M.lock fun _=>KC ex σ K∨∃n,EZ M ex K n σ:=by
 refine (M.lock_iff _).2<| .inl ⟨fun n σ=>∃t,I t∧n=m t∧σ=S t,m t0,?_,?_⟩
 ·obtain⟨σ1,hw1,h1⟩:=Eb h0
  obtain⟨σ',hw,e⟩:=Ln h1
  exact⟨σ',CG.trans hw1 hw,t0,hI,rfl,e⟩
 ·rintro n σ1 ⟨t,h1,rfl,rfl⟩
  exact hr t h1
theorem EI {T:Type}{m:T→Nat}{I:T→Prop}{S:T→St}{σ2:St}{k:Nat}(t':T) (gs:List Gh) (l:List (Nat×Nat)) (ks:List Nat) (is:List Id) (nx:Nat) (hI:I t') (hm:m t'<k)
  (hk:gh gs σ2 fun σ=>RX ks is nx l σ (·=S t')):∃n' σ3,n'<k∧CG σ2 σ3∧∃t',I t'∧n'=m t'∧σ3=S t':=by
 obtain⟨σ1,hw1,h1⟩:=Eb hk
 obtain⟨σ',hw,e⟩:=Ln h1
 exact⟨m t',σ',hm,CG.trans hw1 hw,t',hI,rfl,e⟩
section
variable {w:World}{Z Z' X:Av}{g g':Ac}{h h':Heap}
end
end Go.AM
namespace Go.AM
open Go Go.RowKit
theorem AW.Rt {P:Program}{I:Inv}{f:FuncId}{xs:List D}{res:V1}(hf:∃fn c,P.funcs[f]?=some fn∧fn.body=some c∧(fn.name== "runtime.NumGoroutine")=false)
  (h:∀(w:World) (Z:Av) (vals:Array Value),I.rel w→vals.size=xs.length→(∀(j:Nat) x v,xs[j]?=some x→vals[j]?=some v→Aj w Z x v)→
   Calls P f vals w fun e w'=>∃v,e= .returned v∧De (fun _=>False) w w'∧∀Z' g' h',BE w' Z' g' h' res v):AW P I f (xs.map V1.d) [] (.v res) [] []:=by
 refine AW.mk' hf fun w X g vals hX hI RH hg hsz hargs=>?_
 have none:∀{i o},BD [] i=some o→False:=by
  intro i o h
  cases i<;>simp[BD]at h
 have none2:∀{i o},Bf [] [] i=some o→False:=by
  intro i o h
  cases i<;>simp[Bf]at h
 refine (h w (BN (zone g (BD [])) X) vals hI.1 (by simpa using hsz) (fun j x v hx hv=>hargs j (.d x) v (by simp[hx]) hv)).mono ?_
 rintro e w' ⟨v,rfl,A,hr⟩
 refine⟨v,g,rfl,⟨⟨fun i o hi=>(none2 hi).elim,fun i j oi oj b hi=>(none2 hi).elim,fun i oi b o hi=>(none2 hi).elim⟩,hr _ _ _,?_,fun j=>.refl _,fun i ob b o hi=>(none2 hi).elim,fun k _=>hg k⟩⟩
 exact⟨A.os,A.tape,A.output,A.size,fun b hb _=>A.block b hb id,fun b o u hu _=>A.cell hu id⟩
theorem AW.Uq {P:Program}{I:Inv}{f:FuncId}{xs:List D}{res:AV}(hf:∃fn c,P.funcs[f]?=some fn∧fn.body=some c∧(fn.name== "runtime.NumGoroutine")=false)
  (h:∀(w:World) (Z:Av) (vals:Array Value),I.rel w→vals.size=xs.length→(∀(j:Nat) x v,xs[j]?=some x→vals[j]?=some v→Aj w Z x v)→
   Calls P f vals w fun e w'=>∃v,e= .returned v∧De (fun _=>False) w w'∧∀Z' g' h',(∀b o,Z' b o→b<w.heap.size)→BG w' Z' g' h' res v):AW P I f (xs.map V1.d) [] res [] []:=by
 refine AW.mk' hf fun w X g vals hX hI RH hg hsz hargs=>?_
 have none:∀{i o},BD [] i=some o→False:=by
  intro i o h
  cases i<;>simp[BD]at h
 have none2:∀{i o},Bf [] [] i=some o→False:=by
  intro i o h
  cases i<;>simp[Bf]at h
 refine (h w (BN (zone g (BD [])) X) vals hI.1 (by simpa using hsz) (fun j x v hx hv=>hargs j (.d x) v (by simp[hx]) hv)).mono ?_
 rintro e w' ⟨v,rfl,A,hr⟩
 refine⟨v,g,rfl,⟨⟨fun i o hi=>(none2 hi).elim,fun i j oi oj b hi=>(none2 hi).elim,fun i oi b o hi=>(none2 hi).elim⟩,hr _ _ _ ?_,?_,fun j=>.refl _,fun i ob b o hi=>(none2 hi).elim,fun k _=>hg k⟩⟩
 ·rintro b o (⟨i,ob,hi,_⟩ | hx)
  ·exact (none2 hi).elim
  ·exact hX b o hx
 ·exact⟨A.os,A.tape,A.output,A.size,fun b hb _=>A.block b hb id,fun b o u hu _=>A.cell hu id⟩
theorem Qd {w w':World}(h:w'.os=w.os) (h1:w'.tape=w.tape) (h2:w'.output=w.output) (h3:w.heap.size≤w'.heap.size) (h4:∀b,b<w.heap.size→w'.heap[b]?=w.heap[b]?):De (fun _=>False) w w':=
 ⟨h,h1,h2,h3,fun b hb _=>h4 b hb⟩
end Go.AM
namespace Go.AM
open Go Go.RowKit
section
variable {α β γ:Type}
def bS (x:Option (α ⊕ β)) (k1:α→Option γ) (k2:β→Option γ):Option γ:=
 match x with
 | some (.inl a)=>k1 a
 | some (.inr b)=>k2 b
 | none=>none
theorem OA {x:Option (α ⊕ β)}{k1:α→Option γ}{k2:β→Option γ}{r:γ}(h:bS x k1 k2=some r):(∃a,x=some (.inl a)∧k1 a=some r)∨∃b,x=some (.inr b)∧k2 b=some r:=by
 unfold bS at h
 split at h
 ·exact .inl ⟨_,rfl,h⟩
 ·exact .inr ⟨_,rfl,h⟩
 ·cases h
end
section
variable {γ:Type}
def Ak (b:Bool) (k:Bool→Option γ):Option γ:=k b
theorem AL {b:Bool}{k:Bool→Option γ}{r:γ}(h:Ak b k=some r):∃y,b=y∧k y=some r:=⟨b,rfl,h⟩
def findF (e:Bool) (key:D) (rows:List D) (k1:D→Option γ) (k0:Option γ):Option γ:=
 match Fj e key rows with
 | some (some y)=>k1 y
 | some none=>k0
 | none=>none
theorem Jy {e:Bool}{key:D}{rows:List D}{k1:D→Option γ}{k0:Option γ}{r:γ}(h:findF e key rows k1 k0=some r):(∃y,Fj e key rows=some (some y)∧k1 y=some r)∨(Fj e key rows=some none∧k0=some r):=by
 unfold findF at h
 split at h
 ·rename_i y hy
  exact .inl ⟨y,hy,h⟩
 ·rename_i hy
  exact .inr ⟨hy,h⟩
 ·cases h
def IE (key:D) (ws rows:List D) (k:List D→Option γ):Option γ:=
 match Nu key ws rows with
 | some r=>k r
 | none=>none
theorem CW {key:D}{ws rows:List D}{k:List D→Option γ}{r:γ}(h:IE key ws rows k=some r):∃out,Nu key ws rows=some out∧k out=some r:=by
 unfold IE at h
 split at h
 ·rename_i out ho
  exact⟨out,ho,h⟩
 ·cases h
end
def cL:Code→Code
 | .seq a _=>a
 | .cond _ a _=>a
 | .block _ b=>b
 | .loop b=>b
 | .rangeFunc _ _ a _=>a
 | c=>c
def cR:Code→Code
 | .seq _ b=>b
 | .cond _ _ b=>b
 | .rangeFunc _ _ _ b=>b
 | c=>c
def cP:Code→Array Tmp
 | .rangeFunc _ p _ _=>p
 | _=>#[]
def Qe (fn:Func):Code:=
 match fn.body with
 | some c=>c
 | none=>.skip
def W7 (s:Af):List (Nat×AV)→Prop
 | []=>True
 | (t,v)::r=>s t=v∧W7 s r
theorem Ph {s:Af}:∀{sl:List (Nat×AV)},W7 s sl→∀t,Ay sl t= .u∨Ay sl t=s t
 | [],_,_=>.inl rfl
 | (k,v)::r,h,t=>by
  show (match Nat.beq k t with | true=>v | false=>Ay r t)= .u∨(match Nat.beq k t with | true=>v | false=>Ay r t)=s t
  cases e:Nat.beq k t with
  | true=>exact .inr (by rw[←Nat.eq_of_beq_eq_true e];exact h.1.symm)
  | false=>exact Ph h.2 t
theorem Qf {a b q:Bool}(h:(!(a==b))=q):HK (Sl a b)=q:=by rw[IT,Dn];exact h
theorem AU {a q:Bool}(h:(!a)=q):HK a=q:=by rw[Dn];exact h
theorem AB {M:BS}{ea eb:St→(B1→St→Prop)→Prop}{σ:St}{K:B1→St→Prop}(h:ea σ fun e σ'=>match e with
  | .normal=>eb σ' K
  | .exit id=>K (.exit id) σ'
  | .ret=>K .ret σ'):M.lock fun _=>VC ea eb σ K:=(M.lock_iff _).2 (.inl h)
theorem Aw {M:BS}{ea eb:St→(B1→St→Prop)→Prop}{σ:St}{K:B1→St→Prop}{T:Type}(S:T→St) (I:T→Prop)
  (ha:ea σ fun e σ'=>match e with
   | .normal=>∃σ'',CG σ' σ''∧∃t,I t∧σ''=S t
   | .exit id=>K (.exit id) σ'
   | .ret=>K .ret σ') (hb:∀t,I t→eb (S t) K):M.lock fun _=>VC ea eb σ K:=by
 refine (M.lock_iff _).2 (.inr ⟨fun σ=>∃t,I t∧σ=S t,ha,?_⟩)
 rintro σ2 ⟨t,hi,rfl⟩
 exact hb t hi
theorem AA {T:Type}{I:T→Prop}{S:T→St}{σ2:St}(t':T) (ks:List Nat) (is:List Id) (nx:Nat) (hI:I t') (hk:keep ks is nx σ2 (·=S t')):
  ∃σ'',CG σ2 σ''∧∃t,I t∧σ''=S t:=by
 obtain⟨σ',hw,e⟩:=E6 hk
 exact⟨σ',hw,t',hI,e⟩
section
variable {M:BS}{P:Program}{I:Inv}
theorem Dg.dV {ti:Types}(hti:BV P ti) (h1:Bo ti) (hm:P.follows .mixedOrders=true) {r:RF}{sl:List (Nat×AV)}{args:List V1}{pre:List AQ}{Q:Jump→List AQ→List AQ→Prop}{nt:Nat}{ps:List Tmp}{ca cb:Code}
  (hnt:r.nt=nt) (hpl:r.params.toList=ps) (ha:r.assign=ca) (hb:r.body=cb) (hlen:args.length=ps.length) (hps:Ci (fun p=>Nat.blt p nt) ps=true)
  (hx:∀M:BS,M.P=P→M.I=I→exec M ti nt (CH ti M nt) ca ⟨NV ps args sl,CA pre 0,0⟩ fun e σ=>match e with
   | .normal=>exec M ti nt (CH ti M nt) cb σ fun e σ=>∃post new,Q (Di e) post new∧VI σ post new
   | _=>False):Dg P I r sl args pre Q:=by
 subst hnt
 subst hpl
 subst ha
 subst hb
 exact Dg.intro (fun M nt=>CH ti M nt) hti h1 (Qb hti h1 hm) (by simpa using hlen) hps hx
theorem Ip {Q:AV→List AQ→List AQ→Prop}{ti:Types}{rs:List ResultVar}{σ:St}{res:AV}{post new:List AQ}(hQ:Q res post new)
  (h:HI ti σ rs fun xs=>∃nm:List Id,nodupB nm=true∧TK xs=res.BW (Cs nm σ.next)∧EG (Ag σ.heap) (Cs nm σ.next) post 0∧KG (Ag σ.heap) (Cs nm σ.next) new nm∧El post nm):
  ∃r p n,Q r p n∧Lf ti rs σ r p n:=⟨_,_,_,hQ,[],h⟩
theorem HJ {A:Prop}{ti:Types}{o:Oper}{c:Call}{f:Operand}{fresh:Nat}{σ:St}{K:St→Prop}{i:Id}{r:Unit→RF}{sl sl0:List (Nat×AV)}{xs targs:List V1}{pre post new:List AQ}{j:Jump}
  (hP:M.P=P) (hI:M.I=I) (m:List Id) (ho:o.op= .call c) (hc:c.callee= .value f) (hf:BQ ti (Ay σ.slots) 0 f= .v (.c (.yl i))) (hr:Ag σ.heap i=some (.rnd r sl))
  (hR:Dg P I (r ()) sl0 targs pre fun j' p n=>j'=j∧p=post∧n=new) (hxs:J6 (C8 ti (Ay σ.slots) c.args.toList c.argTypes.toList)=some xs)
  (he:xs=targs.map (V1.BW (Bh (m++[i]) fresh))) (hsl:sl=V2 (Bh (m++[i]) fresh) sl0) (hm:(m++[i]).Nodup) (hpre:PZ (Ag σ.heap) (Bh (m++[i]) fresh) m pre) (hkd:CF pre post) (hn:new.length≤31)
  (hk:K ⟨F1 σ.slots o.dst (.v (.d (.bool j.isNone))),F0 σ.heap (Ni (m++[i]) (Bh (m++[i]) fresh) (post++[Dh j r sl0])++DM fresh (Bh (m++[i]) fresh) 0 new),fresh⟩):
  M.lock fun _=>A∨RN M ti o fresh σ K:=by
 refine VJ ?_
 unfold RN
 rw[ho]
 simp only[]
 rw[hc]
 simp only[]
 refine⟨⟨σ.slots,σ.heap,fresh⟩,CG.refl _,rfl,?_⟩
 simp only[hf]
 unfold withArgs
 rw[hxs]
 simp only[hr]
 refine⟨m,targs,pre,sl0,_,hP▸hI▸hR,he,hsl,(Dj hpre).1,hm,(Dj hpre).2,?_⟩
 rintro j' post' new' ⟨rfl,rfl,rfl⟩
 exact⟨⟨hkd,hn⟩,hk⟩
theorem Pj {ti:Types}{o:Oper}{fresh:Nat}{σ:St}{K:St→Prop}(hk:Ws M ti o fresh σ K):M.lock fun _=>Ws M ti o fresh σ K∨VB M ti o fresh σ K:=(M.lock_iff _).2 (.inl hk)
theorem Lo {ti:Types}{nt:Nat}{g:Operand}{ps:Array Tmp}{assign body:Code}{σ:St}{K:B1→St→Prop}{n:FuncId}{cap:List Id}{targs:List V1}{pre post new:List AQ}{res:AV}
  (hP:M.P=P) (hI:M.I=I) (m:List Id) (sl:List (Nat×AV)) (hg:BQ ti (Ay σ.slots) 0 g= .v (.c (.fn n cap))) (hsl:W7 (Ay σ.slots) sl)
  (ht:AW P I n targs pre res post new) (he:(V1.c (.yl (.loc σ.next))::cap.map fun i=>V1.c (.ptr i 0))=targs.map (V1.BW (Bh m (σ.next+32)))) (hm:m.Nodup)
  (hpre:PZ (Ag (DQ σ.heap (.loc σ.next) (.rnd (fun _=>⟨ps,assign,body,nt⟩) sl))) (Bh m (σ.next+32)) m pre) (hkd:CF pre post) (hn:new.length≤31)
  (hk:match Ag (F0 (DQ σ.heap (.loc σ.next) (.rnd (fun _=>⟨ps,assign,body,nt⟩) sl)) (Ni m (Bh m (σ.next+32)) post++DM (σ.next+32) (Bh m (σ.next+32)) 0 new)) (.loc σ.next)with
   | some (.rnd _ _)=>K .normal ⟨σ.slots,DQ (F0 (DQ σ.heap (.loc σ.next) (.rnd (fun _=>⟨ps,assign,body,nt⟩) sl)) (Ni m (Bh m (σ.next+32)) post++DM (σ.next+32) (Bh m (σ.next+32)) 0 new)) (.loc σ.next) .gone,σ.next+64⟩
   | some (.rndX j)=>(match j with
    | none=>K .ret ⟨σ.slots,DQ (F0 (DQ σ.heap (.loc σ.next) (.rnd (fun _=>⟨ps,assign,body,nt⟩) sl)) (Ni m (Bh m (σ.next+32)) post++DM (σ.next+32) (Bh m (σ.next+32)) 0 new)) (.loc σ.next) .gone,σ.next+64⟩
    | some id=>K (.exit id) ⟨σ.slots,DQ (F0 (DQ σ.heap (.loc σ.next) (.rnd (fun _=>⟨ps,assign,body,nt⟩) sl)) (Ni m (Bh m (σ.next+32)) post++DM (σ.next+32) (Bh m (σ.next+32)) 0 new)) (.loc σ.next) .gone,σ.next+64⟩)
   | _=>False):
  M.lock fun _=>QV M ti nt g ps assign body σ K:=by
 refine (M.lock_iff _).2 ⟨σ,CG.refl _,?_⟩
 rw[hg]
 refine⟨sl,Ph hsl,m,targs,pre,_,hP▸hI▸ht,he,(Dj hpre).1,hm,(Dj hpre).2,?_⟩
 rintro res' post' new' ⟨rfl,rfl,rfl⟩
 exact⟨⟨hkd,hn⟩,hk⟩
end
end Go.AM
namespace Go.AM
open Go
def bB (d:Nat) (b:Bool) (l:List (Nat×AV)):List Nat→List (Nat×AV)
 | []=>[]
 | k::r=>(match Nat.beq k d with
  | true=>(k,.v (.d (.bool b)))
  | false=>(k,Ay l k))::bB d b l r
def ZQ (h:List (Id×AQ)):List Id→List (Id×AQ)
 | []=>[]
 | i::r=>(match Ag h i with
  | some o=>(i,o)::ZQ h r
  | none=>ZQ h r)
def ZR (d:Nat) (ks:List Nat) (is:List Id) (nx:Nat) (σ:St) (b:Bool):St:=⟨bB d b σ.slots ks,ZQ σ.heap is,nx⟩
theorem AH {M:BS}{ea eb:St→(B1→St→Prop)→Prop}{σ:St}{K:B1→St→Prop}(d:Nat) (ks:List Nat) (is:List Id) (nx:Nat) (I:Nat→Bool→Prop)
  (ha:ea σ fun e σ'=>match e with
   | .normal=>∃σ'',CG σ' σ''∧∃t:Nat×Bool,I t.1 t.2∧σ''=ZR d ks is nx σ t.2
   | .exit id=>K (.exit id) σ'
   | .ret=>K .ret σ') (hb:∀t:Nat×Bool,I t.1 t.2→eb (ZR d ks is nx σ t.2) K):M.lock fun _=>VC ea eb σ K:=
 Aw (fun t:Nat×Bool=>ZR d ks is nx σ t.2) (fun t=>I t.1 t.2) ha hb
end Go.AM
namespace Go.AM
open Go Go.RowKit
def Kj (o:Oper):Bool:=match o.guard with
 | none=>true
 | some _=>false
def Lp (ops:Array Oper) (l:List Bool):List Nat:=Region.ready .any ops l.toArray
theorem SS {o:Oper}(h:Kj o=true) (y:Nat→Option Bool):Region.wanted o y=true:=by
 unfold Kj at h
 unfold Region.wanted
 split at h<;>simp_all
theorem VT {F:Fence}{n:Nat}{P:Program}{ops:Array Oper}{Q:Exit→Act→World→Prop}{i:Nat}{o:Oper}{K:Act→World→Prop}{a:Act}{w:World}(ho:ops[i]?=some o) (hg:Kj o=true):
  wpOpIn F n P ops Q i K a w↔o.wpIn F n P a w K Q:=by
 unfold wpOpIn
 rw[ho]
 simp only[SS hg,if_true]
section
variable {F:Fence}{n:Nat}{P:Program}{Q:Exit→Act→World→Prop}{o0 o1 o2 o3:Oper}
end
end Go.AM
namespace Go.AM
open Go Go.RowKit
def Eo:List (List Bool):=
  [[false,false,false,false,false,false,false],[true,false,false,false,false,false,false],[false,true,false,false,false,false,false],[true,true,false,false,false,false,false],
   [true,true,true,false,false,false,false],[true,true,true,true,false,false,false],[true,true,false,false,true,false,false],[true,true,true,false,true,false,false],
   [true,true,true,true,true,false,false],[true,true,false,false,true,true,false],[true,true,true,false,true,true,false],[true,true,true,true,true,true,false],[true,true,true,true,true,true,true]]
def Iq (l:List Bool) (i:Nat):Bool:=
 let g:=fun j=>l.getD j false
 !g i&&(match i with
 | 0=>!g 4&&!g 6
 | 1=>!g 4&&!g 6
 | 2=>g 0&&g 1&&!g 6
 | 3=>g 2
 | 4=>g 0&&g 1&&!g 6
 | 5=>g 4
 | 6=>g 0&&g 3&&g 4&&g 5
 | _=>false)
def Qg (ops:Array Oper) (l:List Bool):Bool:=
 (match l.all id with
 | true=>(Lp ops l).isEmpty
 | false=>!(Lp ops l).isEmpty)&&(Lp ops l).all fun i=>Iq l i&&Eo.contains (l.set i true)
def VU (ops:Array Oper):Bool:=Eo.all (Qg ops)&&ops.toList.all Kj&&Nat.beq ops.size 7
structure Ti (ops:Array Oper) (tm tk te te' p0 p1 d0 d1 d2 d3 d4 d5:Nat):Prop where
 tab:VU ops=true
 o0:∃o,ops[0]?=some o∧o.op= .load tm (.tmp p0)∧o.dst=some d0
 o1:∃o,ops[1]?=some o∧o.op= .load tk (.tmp p1)∧o.dst=some d1
 o2:∃o,ops[2]?=some o∧o.op= .lookup tm (.tmp d0) (.tmp d1) false∧o.dst=some d2
 o3:∃o,ops[3]?=some o∧o.op= .binOp .add te (.tmp d2) (.const (.int .i64 1)) te'∧o.dst=some d3
 o4:∃o,ops[4]?=some o∧o.op= .mapEntry tm (.tmp d0) (.tmp d1)∧o.dst=some d4
 o5:∃o,ops[5]?=some o∧o.op= .extract (.tmp d4) 1∧o.dst=some d5
 o6:∃o,ops[6]?=some o∧o.op= .entryStore tm (.tmp d0) (.tmp d5) (.tmp d3)∧o.dst=none
 nd:[d0,d1,d2,d3,d4,d5].Nodup
 np:p0∉[d0,d1,d2,d3,d4,d5]∧p1∉[d0,d1,d2,d3,d4,d5]
section
variable {F:Fence}{n:Nat}{P:Program}{Q:Exit→Act→World→Prop}{ops:Array Oper}
structure VV (ds:List Nat) (vs:List Value) (a0:Act) (w0 w1 w2:World) (l:List Bool) (a:Act) (w:World):Prop where
 size:a.tmps.size=a0.tmps.size
 defers:a.defers=a0.defers
 keep:∀t,t∉ds→a.tmps.getD t undef=a0.tmps.getD t undef
 vals:∀(j d:Nat) v,l[j]?=some true→ds[j]?=some d→vs[j]?=some v→a.tmps.getD d undef=v
 world:w=if l.getD 6 false=true then w2 else if l.getD 4 false=true then w1 else w0
theorem VV.put {ds:List Nat}{vs:List Value}{a0:Act}{w0 w1 w2:World}{l:List Bool}{a:Act}{w w':World}(I:VV ds vs a0 w0 w1 w2 l a w) {i d:Nat}{v:Value}(hnd:ds.Nodup) (hd:ds[i]?=some d) (hv:vs[i]?=some v)
  (hs:d<a0.tmps.size) (hw:w'=if (l.set i true).getD 6 false=true then w2 else if (l.set i true).getD 4 false=true then w1 else w0):VV ds vs a0 w0 w1 w2 (l.set i true) (a.put (some d) v) w':=by
 refine⟨?_,I.defers,fun t ht=>?_,fun j d' v' h1 h2 h3=>?_,hw⟩
 ·simp[Act.put,I.size]
 ·have hne:t≠d:=by rintro rfl;exact ht (List.mem_of_getElem? hd)
  rw[←I.keep t ht]
  simp[Act.put,Ne.symm hne]
 ·by_cases hij:i=j
  ·subst hij
   rw[hd]at h2
   rw[hv]at h3
   cases h2
   cases h3
   have:d<a.tmps.size:=by rw[I.size];exact hs
   simp[Act.put,this]
  ·have h1':l[j]?=some true:=by
    rw[List.getElem?_set_ne hij]at h1
    exact h1
   have hne:d'≠d:=by
    rintro rfl
    exact hij ((List.getElem?_inj (List.getElem?_eq_some_iff.1 hd).1 hnd).1 (hd.trans h2.symm))
   rw[←I.vals j d' v' h1' h2 h3]
   simp[Act.put,Ne.symm hne]
theorem VW (hB:VU ops=true) {J:List Bool→Act→World→Prop}(hJ:∀l i a w,l∈Eo→Iq l i=true→J l a w→∃o,ops[i]?=some o∧o.wpIn F n P a w (J (l.set i true)) Q)
  (hQ:∀a w,J [true,true,true,true,true,true,true] a w→Q .normal a w):∀(k:Nat) (l:List Bool) a w,l∈Eo→(l.filter (! ·)).length=k→J l a w→wpAnyIn F n P .any ops Q k l.toArray a w:=by
 simp only[VU,Bool.and_eq_true]at hB
 obtain⟨⟨hT,hg⟩,_⟩:=hB
 rw[List.all_eq_true]at hT hg
 intro k
 induction k with
 | zero=>
  intro l a w hl hk h
  have hr:=hT l hl
  simp only[Qg,Bool.and_eq_true]at hr
  have hall:l.all id=true:=by
   rw[List.all_eq_true]
   intro x hx
   cases x with
   | true=>rfl
   | false=>
    have:false∈l.filter (! ·):=by simp[hx]
    rw[List.eq_nil_of_length_eq_zero hk]at this
    cases this
  rw[hall]at hr
  refine⟨by simpa [Lp] using hr.1,hQ a w ?_⟩
  have:l=[true,true,true,true,true,true,true]:=by
   simp only[Eo,List.mem_cons,List.not_mem_nil,or_false]at hl
   rcases hl with rfl | rfl | rfl | rfl | rfl | rfl | rfl | rfl | rfl | rfl | rfl | rfl | rfl<;>first | rfl | simp at hall
  exact this▸h
 | succ k ih=>
  intro l a w hl hk h
  have hr:=hT l hl
  simp only[Qg,Bool.and_eq_true]at hr
  have hall:l.all id=false:=by
   rw[Bool.eq_false_iff]
   intro e
   rw[List.all_eq_true]at e
   have:l.filter (! ·)=[]:=by
    rw[List.filter_eq_nil_iff]
    intro x hx
    have:=e x hx
    simp at this
    simp[this]
   rw[this]at hk
   simp at hk
  rw[hall]at hr
  refine⟨fun e=>?_,fun i hi=>?_⟩
  ·have:=hr.1
   simp[Lp,e]at this
  ·have h2:=List.all_eq_true.1 hr.2 i hi
   simp only[Bool.and_eq_true]at h2
   obtain⟨h3,h4⟩:=h2
   have h4:l.set i true∈Eo:=by simpa using h4
   obtain⟨o,ho,hw⟩:=hJ l i a w hl h3 h
   rw[VT ho (hg o (Array.mem_toList_iff.2 (Array.mem_of_getElem? ho)))]
   refine Oper.wpIn_mono (fun a' w' h'=>?_) hw
   rw[List.setIfInBounds_toArray]
   refine ih _ a' w' h4 ?_ h'
   have hli:l[i]?=some false:=by
    have:i<l.length:=by
     have hl7:l.length=7:=by
      simp only[Eo,List.mem_cons,List.not_mem_nil,or_false]at hl
      rcases hl with rfl | rfl | rfl | rfl | rfl | rfl | rfl | rfl | rfl | rfl | rfl | rfl | rfl<;>rfl
     rcases Nat.lt_or_ge i 7 with h | h
     ·omega
     ·exfalso
      simp only[Iq,Bool.and_eq_true]at h3
      have h5:=h3.2
      split at h5<;>first | omega | cases h5
    simp only[Iq,Bool.and_eq_true,Bool.not_eq_true']at h3
    have h5:=h3.1
    rw[List.getD_eq_getElem?_getD,List.getElem?_eq_getElem this]at h5
    rw[List.getElem?_eq_getElem this]
    simpa using h5
   clear ih h4 hw h' h3 hi hr
   have gen:∀(l:List Bool) (i k:Nat),l[i]?=some false→(l.filter (! ·)).length=k+1→((l.set i true).filter (! ·)).length=k:=by
    intro l
    induction l with
    | nil=>intro i k h;simp at h
    | cons x l ih=>
     intro i k h hk
     cases i with
     | zero=>
      simp at h
      subst h
      simpa using hk
     | succ i=>
      simp only[List.getElem?_cons_succ]at h
      cases x with
      | true=>simp at hk ⊢;exact ih i k h hk
      | false=>
       simp at hk ⊢
       cases k with
       | zero=>
        exfalso
        have:false∈l.filter (! ·):=by simp[List.mem_of_getElem? h]
        rw[List.eq_nil_of_length_eq_zero hk]at this
        cases this
       | succ k=>have:=ih i k h hk;omega
   exact gen l i k hli hk
end
theorem Cv.set {es:List MapEntry}{m:List Az}(h:Cv es m) {j:Nat}{e:MapEntry}{k:ByteArray×Bool}{z:Int}(h1:e.key=CS k) (h2:e.val= .int .i64 z):Cv (es.set j e) (m.set j (k,z)):=by
 unfold Cv at h ⊢
 rw[List.map_set,List.map_set,h,h1,h2]
 rfl
theorem Cv.get {es:List MapEntry}{m:List Az}(h:Cv es m) {j:Nat}{x:Az}(hj:m[j]?=some x):∃e,es[j]?=some e∧e.key=CS x.1∧e.val= .int .i64 x.2:=by
 have:=congrArg (fun l=>l[j]?) h
 simp only[List.getElem?_map,hj,Option.map_some]at this
 cases he:es[j]? with
 | none=>rw[he]at this;cases this
 | some e=>
  rw[he]at this
  simp only[Option.map_some,Option.some.injEq,Ux,Prod.mk.injEq]at this
  exact⟨e,rfl,this.1,this.2⟩
theorem EJ {α:Type}{f:α→α}:∀{l:List α}{j:Nat}{e:α},l[j]?=some e→l.modify j f=l.set j (f e)
 | [],j,e,h=>by simp at h
 | x::l,0,e,h=>by simp at h;subst h;simp
 | x::l,j+1,e,h=>by simp at h;simp[EJ h]
theorem Tj {l:List MapEntry}{j:Nat}{e e':MapEntry}(h:l[j]?=some e) (hb:e'.born=e.born):(l.set j e').map (·.born)=l.map (·.born):=by
 rw[List.map_set,hb]
 apply List.ext_getElem?
 intro i
 rw[List.getElem?_set]
 split
 ·rename_i hi
  subst hi
  simp only[List.getElem?_map,h,Option.map_some,List.length_map]
  have:=(List.getElem?_eq_some_iff.1 h).1
  simp[this]
 ·rfl
theorem ES.modify {ma:Array MapEntry}{clk:Nat}(h:ES ma clk) {f:MapEntry→MapEntry}(hf:∀e,(f e).born=e.born) {j:Nat}{e:MapEntry}(hj:ma.toList[j]?=some e):ES (ma.modify j f) clk:=by
 obtain⟨h1,h2⟩:=h
 have e1:(ma.modify j f).toList.map (·.born)=ma.toList.map (·.born):=by
  rw[Array.toList_modify,EJ hj]
  exact Tj hj (hf e)
 refine⟨fun x hx=>?_,by rw[e1];exact h2⟩
 have:x.born∈(ma.modify j f).toList.map (·.born):=List.mem_map_of_mem (Array.mem_toList_iff.2 hx)
 rw[e1]at this
 obtain⟨y,hy,e2⟩:=List.mem_map.1 this
 rw[←e2]
 exact h1 y (Array.mem_toList_iff.1 hy)
theorem ES.find {ma:Array MapEntry}{clk:Nat}(h:ES ma clk) {j:Nat}{e:MapEntry}(hj:ma.toList[j]?=some e):ma.findIdx? (fun x=>(x.born:Int)==(e.born:Int))=some j:=by
 have hlt:=(List.getElem?_eq_some_iff.1 hj).1
 have hlt':j<ma.size:=by simpa using hlt
 have hj':ma[j]=e:=by
  have:=(List.getElem?_eq_some_iff.1 hj).2
  simpa using this
 refine Array.findIdx?_eq_some_iff_getElem.2 ⟨hlt',by simp[hj'],fun i hi hb=>?_⟩
 have hb:ma[i].born=e.born:=by
  have:=eq_of_beq hb
  exact Int.ofNat.inj this
 have hi':i<ma.toList.length:=by simp;omega
 have e1:(ma.toList.map (·.born))[i]?=some e.born:=by simp[hb,show i<ma.size by omega]
 have e2:(ma.toList.map (·.born))[j]?=some e.born:=by simp[hj',hlt']
 have:=(List.getElem?_inj (by simpa using hi') h.2).1 (e1.trans e2.symm)
 omega
structure Entry (P:Program) (tm:TypeId) (r:Nat) (k:ByteArray×Bool) (m:List Az) (ma:Array MapEntry) (clk:Nat) (ma1:Array MapEntry) (clk1:Nat) (st:Int) (ma2:Int→Array MapEntry):Prop where
 run:∀w:World,w.heap[r]?=some (.map ma clk)→(Instr.mapEntry tm (.map (some r)) (CS k)).run P w= .ok (.tuple #[.int .i64 (Bx m k.1 k.2),.int .i64 st]) {w with heap:=w.heap.setIfInBounds r (.map ma1 clk1)}
 is1:Cv ma1.toList (E4 m k.1 k.2 (Bx m k.1 k.2))
 store:∀(w:World) (z:Int),w.heap[r]?=some (.map ma1 clk1)→(Instr.entryStore tm (.map (some r)) (.int .i64 st) (.int .i64 z)).run P w= .ok () {w with heap:=w.heap.setIfInBounds r (.map (ma2 z) clk1)}
 is2:∀z,Cv (ma2 z).toList (E4 m k.1 k.2 z)
 borns:∀z,ES (ma2 z) clk1
theorem GW {P:Program}{tm:TypeId}{r:Nat}{ma1:Array MapEntry}{clk1:Nat}(hb:ES ma1 clk1) {j:Nat}{e:MapEntry}(hj:ma1.toList[j]?=some e) (w:World) (z:Int) (hw:w.heap[r]?=some (.map ma1 clk1)):
  (Instr.entryStore tm (.map (some r)) (.int .i64 (e.born:Int)) (.int .i64 z)).run P w= .ok () {w with heap:=w.heap.setIfInBounds r (.map (ma1.modify j fun e=>{e with val:=.int .i64 z}) clk1)}:=by
 have e1:=Cj (P:=P) hw
 have e2:=hb.find hj
 have e3:=DD (P:=P) (.map (ma1.modify j fun e=>{e with val:=.int .i64 z}) clk1) hw
 simp[Instr.entryStore,e1,asInt,asIntOf,e2,e3]
theorem Tk {C:Cx}{ti:Types}(hti:BV C.P ti) {tm kt et:TypeId}(hu:C.P.underlying tm=some (.map kt et)) (hK:O8 C.P kt) {j:TI}(hj:ti et=some j) (hn:U6 j) {r:Nat}{k:ByteArray×Bool}{m:List Az}{ma:Array MapEntry}{clk:Nat}
  (hb:ES ma clk) (hm:Cv ma.toList m):∃ma1 clk1 st ma2,Entry C.P tm r k m ma clk ma1 clk1 st ma2:=by
 obtain⟨ii,i1,i2,i3,i4,i5⟩:=CZ hti hj
 have e3:∀w:World,(zeroValue et).run C.P w= .ok (.int .i64 0) w:=fun w=>by simp[zeroValue,typeInfo,i1,i4,hn.2]
 cases hp:IX m k 0 with
 | none=>
  obtain⟨h0,hset⟩:=HD hp
  have b1:ES (ma.push {key:=CS k,val:=.int .i64 0,born:=clk}) (clk+1):=by
   refine⟨fun e he=>?_,?_⟩
   ·rcases Array.mem_push.1 he with he | rfl
    ·have:=hb.1 e he;omega
    ·exact Nat.lt_succ_self _
   ·simp only[Array.toList_push,List.map_append,List.map_cons,List.map_nil]
    refine List.nodup_append.2 ⟨hb.2,by simp,fun x hx y hy=>?_⟩
    obtain⟨e,he,rfl⟩:=List.mem_map.1 hx
    simp at hy
    have:=hb.1 e (Array.mem_toList_iff.1 he)
    omega
  have hlast:(ma.push {key:=CS k,val:=.int .i64 0,born:=clk}).toList[ma.size]?=some {key:=CS k,val:=.int .i64 0,born:=clk}:=by simp
  have hmod:∀z:Int,((ma.push {key:=CS k,val:=.int .i64 0,born:=clk}).modify ma.size fun e=>{e with val:=.int .i64 z}).toList=ma.toList++[{key:=CS k,val:=.int .i64 z,born:=clk}]:=fun z=>by
   rw[Array.toList_modify,EJ hlast]
   simp only[Array.toList_push]
   rw[List.set_append_right _ _ (by simp)]
   simp
  refine⟨_,clk+1,(clk:Int),fun z=>(ma.push {key:=CS k,val:=.int .i64 0,born:=clk}).modify ma.size fun e=>{e with val:=.int .i64 z},?_,?_,fun w z hw=>GW b1 hlast w z hw,fun z=>?_,fun z=>b1.modify (f:=fun e=>{e with val:=.int .i64 z}) (fun _=>rfl) hlast⟩
  ·intro w hw
   have e1:=run_underlying hu w
   have e4:=hK.ck k false w
   have e5:=Cj (P:=C.P) hw
   have e6:=IY hK k w hm
   rw[hp]at e6
   have e7:=DD (P:=C.P) (.map (ma.push {key:=CS k,val:=.int .i64 0,born:=clk}) (clk+1)) hw
   simp[Instr.mapEntry,e1,e4,e5,e6,e3,e7,h0,goInt]
  ·rw[hset,h0]
   unfold Cv at hm ⊢
   simp[hm,Ux]
  ·rw[hset,hmod]
   unfold Cv at hm ⊢
   simp[hm,Ux]
 | some i=>
  obtain⟨_,h2,hset⟩:=NG hp
  rw[Nat.sub_zero]at h2 hset
  obtain⟨e,he,k1,v1⟩:=hm.get h2
  have he':ma[i]?=some e:=by simpa using he
  have sb:Instr.sameBits 10000 e.key (CS k)=true:=by
   rw[k1]
   have:(k.1==k.1)=true:=by rw[beq_toListBytes];exact beq_self_eq_true _
   simp[CS,Instr.sameBits,this]
  have hj1:(ma.modify i fun e=>{e with key:=CS k}).toList=ma.toList.set i {e with key:=CS k}:=by rw[Array.toList_modify,EJ he]
  have hlt:i<ma.toList.length:=(List.getElem?_eq_some_iff.1 he).1
  have hj2:(ma.modify i fun e=>{e with key:=CS k}).toList[i]?=some {e with key:=CS k}:=by rw[hj1];simp only[List.getElem?_set_self hlt]
  have b1:ES (ma.modify i fun e=>{e with key:=CS k}) clk:=hb.modify (f:=fun e=>{e with key:=CS k}) (fun _=>rfl) he
  refine⟨_,clk,(e.born:Int),fun z=>(ma.modify i fun e=>{e with key:=CS k}).modify i fun e=>{e with val:=.int .i64 z},?_,?_,fun w z hw=>GW b1 hj2 w z hw,fun z=>?_,fun z=>b1.modify (f:=fun e=>{e with val:=.int .i64 z}) (fun _=>rfl) hj2⟩
  ·intro w hw
   have e1:=run_underlying hu w
   have e4:=hK.ck k false w
   have e5:=Cj (P:=C.P) hw
   have e6:=IY hK k w hm
   rw[hp]at e6
   have e7:=DD (P:=C.P) (.map (ma.modify i fun e=>{e with key:=CS k}) clk) hw
   simp[Instr.mapEntry,e1,e4,e5,e6,e7,goInt,he',Instr.keyThatStays,sb]
  ·rw[hset,hj1]
   exact hm.set rfl v1
  ·rw[hset,Array.toList_modify,EJ hj2,hj1,List.set_set]
   exact hm.set rfl rfl
theorem Jz {s:ByteArray}{b:Bool}{z:Int}:∀{m:List Az},Bx (E4 m s b z) s b=z
 | []=>by simp[E4,Bx]
 | x::r=>by
  unfold E4
  by_cases h:x.1=(s,b)
  ·rw[if_pos h]
   show (if x.1=(s,b)then z else Bx r s b)=z
   rw[if_pos h]
  ·rw[if_neg h]
   show (if x.1=(s,b)then x.2 else Bx (E4 r s b z) s b)=z
   rw[if_neg h]
   exact Jz
theorem KL {C:Cx}{ti:Types}(hti:BV C.P ti) {tm kt et:TypeId}(hu:C.P.underlying tm=some (.map kt et)) (hK:O8 C.P kt) {j:TI}(hj:ti et=some j) (hn:U6 j) {r:Nat}{k:ByteArray×Bool}{m:List Az}{ma:Array MapEntry}{clk:Nat}
  (hm:Cv ma.toList m) (w:World) (g2:w.heap[r]?=some (.map ma clk)):(Instr.lookup tm (.map (some r)) (CS k) false).run C.P w= .ok (.int .i64 (Bx m k.1 k.2)) w:=by
 have e1:=run_underlying hu w
 obtain⟨ii,i1,i2,i3,i4,i5⟩:=CZ hti hj
 have e3:(zeroValue et).run C.P w= .ok j.zero w:=by simp[zeroValue,typeInfo,i1,i4]
 have e4:∀b,(Instr.checkKey b 10000 kt (CS k)).run C.P w= .ok () w:=fun b=>hK.ck _ b w
 have e5:=Cj (P:=C.P) g2
 have e6:=IY hK k w hm
 cases hp:IX m k 0 with
 | none=>
  obtain⟨h0,_⟩:=HD hp
  rw[hp]at e6
  simp[Instr.lookup,e1,e5,e4,e6,e3,hn.2,h0]
 | some j'=>
  rw[hp]at e6
  simp[Instr.lookup,e1,e5,e4,e6]
def CO (m:List Az) (s:ByteArray) (b:Bool):List Az:=E4 m s b (IntKind.i64.wrap (Bx m s b+1))
section
variable {γ:Type}{r:γ}
def W8 (x:List Az) (k:List Az→Option γ):Option γ:=k x
theorem Tl {x:List Az}{k:List Az→Option γ}(h:W8 x k=some r):∃y,x=y∧k y=some r:=⟨x,rfl,h⟩
end
def Qh (M:BS) (ti:Types) (tm tk p0 p1 d0 d1 d2 d3 d4 d5:Nat) (σ:St) (K:St→Prop):Prop:=
 BK ti tm fun q=>match q.desc with
 | .map kt et=>RI M ti kt∧BK ti et fun j=>(M.lock fun _=>U6 j)∧(EV ti tm (Ay σ.slots p0) (Ag σ.heap) fun o0=>EV ti tk (Ay σ.slots p1) (Ag σ.heap) fun o1=>match o1.val with
  | .v (.d (.agg [.str s,.bool b]))=>RL o0.val (Ag σ.heap) fun i kt' et' m=>∃m',CO m s b=m'∧
    K ⟨(d0,.u)::(d1,.u)::(d2,.u)::(d3,.u)::(d4,.u)::(d5,.u)::σ.slots,DQ σ.heap i (.map kt' et' m'),σ.next+224⟩
  | _=>False)
 | _=>False
theorem SU {C:Cx}{ti:Types}(hti:BV C.P ti) (h1:Bo ti) {ops:Array Oper}{tm tk te te' p0 p1 d0 d1 d2 d3 d4 d5:Nat}(hO:Ti ops tm tk te te' p0 p1 d0 d1 d2 d3 d4 d5) (hd:Ci (fun d=>Nat.blt d C.nt) [d0,d1,d2,d3,d4,d5]=true)
  {σ:St} {K:St→Prop} {Q:Exit→Act→World→Prop} {a:Act} {w:World} (hQ:∀σ a w,K σ→B0 C σ a w→Q .normal a w) (hk:Qh C.M ti tm tk p0 p1 d0 d1 d2 d3 d4 d5 σ K) (R:B0 C σ a w):
  wpAnyIn (BZ C.ro) 0 C.P .any ops Q ops.size (Array.replicate ops.size false) a {w with drawn:=w.drawn+1}:=by
 obtain⟨g,R⟩:=R
 have R:=R.drew
 generalize ({w with drawn:=w.drawn+1}:World)=w0 at R ⊢
 unfold Qh at hk
 obtain⟨q,hq,hk⟩:=AZ.1 hk
 split at hk
 rotate_left
 ·exact hk.elim
 rename_i kt et hdesc
 obtain⟨hK,hk⟩:=hk
 have hK:=O9 hti hK
 obtain⟨j,hj,hn,hk⟩:=AZ.1 hk
 have hn:=(C.M.lock_iff _).1 hn
 have hu:=(hti tm q hq).1
 rw[hdesc]at hu
 obtain⟨out0,hk,_,H0⟩:=HB hti h1 tm _ hk
 obtain⟨out1,hk,_,H1⟩:=HB hti h1 tk _ hk
 split at hk
 rotate_left
 ·exact hk.elim
 rename_i sk bk hop1
 obtain⟨i,kt',et',m,hx0,hi,m',rfl,hk⟩:=NH hk
 obtain⟨v0,r0,q0⟩:=H0 _ _ _ g a w0 _ R (R.slots p0) (fun _ _=>rfl)
 obtain⟨v1,r1,q1⟩:=H1 _ _ _ g a w0 _ R (R.slots p1) (fun _ _=>rfl)
 rw[hx0]at q0
 obtain⟨q0,_⟩:=q0
 rw[hop1]at q1
 obtain rfl:=S6 (show Aj w0 _ (.agg [.str sk,.bool bk]) v1 from q1)
 obtain⟨r,ma,clk,g1,g2,g3,g4⟩:=S5 (R.heap.objs i _ hi)
 rw[g1]at q0
 subst q0
 obtain⟨ma1,clk1,st,ma2,E⟩:=Tk hti (tm:=tm) hu hK hj hn (r:=r) (k:=(sk,bk)) g3 g4
 have hrlt:r<w0.heap.size:=(Array.getElem?_eq_some_iff.1 g2).1
 let z:=Bx m sk bk
 let z':=IntKind.i64.wrap (z+1)
 let W1:World:={w0 with heap:=w0.heap.setIfInBounds r (.map ma1 clk1)}
 let W2:World:={W1 with heap:=W1.heap.setIfInBounds r (.map (ma2 z') clk1)}
 have gW1:W1.heap[r]?=some (.map ma1 clk1):=by
  show (w0.heap.setIfInBounds r (.map ma1 clk1))[r]?=_
  rw[Array.getElem?_setIfInBounds]
  simp[hrlt]
 have hs:a.tmps.size=C.nt:=R.size
 have hd:∀d∈[d0,d1,d2,d3,d4,d5],d<a.tmps.size:=fun d hm=>by
  rw[Ba]at hd
  have:=hd d hm
  rw[hs]
  simpa using this
 let J:=VV [d0,d1,d2,d3,d4,d5] [.map (some r),CS (sk,bk),.int .i64 z,.int .i64 z',.tuple #[.int .i64 z,.int .i64 st],.int .i64 st] a w0 W1 W2
 have hsz:ops.size=7:=by
  have:=hO.tab
  simp only[VU,Bool.and_eq_true]at this
  exact Nat.eq_of_beq_eq_true this.2
 rw[hsz]
 refine VW (n:=0) (F:=BZ C.ro) (P:=C.P) (Q:=Q) hO.tab (J:=J) ?_ ?_ 7 [false,false,false,false,false,false,false] a w0 (by simp[Eo]) rfl ?_
 ·intro l k a' w' hl hst I
  simp only[Iq,Bool.and_eq_true,Bool.not_eq_true']at hst
  obtain⟨hfree,hst⟩:=hst
  have getl:∀{q:Nat},l.getD q false=true→l[q]?=some true:=fun {q} h=>by
   rw[List.getD_eq_getElem?_getD]at h
   cases hq:l[q]? with
   | none=>rw[hq]at h;cases h
   | some x=>rw[hq]at h;simp at h;rw[h]
  have val:∀{q d:Nat} {v:Value},l.getD q false=true→[d0,d1,d2,d3,d4,d5][q]?=some d→[.map (some r),CS (sk,bk),.int .i64 z,.int .i64 z',.tuple #[.int .i64 z,.int .i64 st],.int .i64 st][q]?=some v→a'.eval (.tmp d)=v:=
   fun h e1 e2=>I.vals _ _ _ (getl h) e1 e2
  have go:∀{o:Oper} {d:Nat} {v:Value} {w'':World},(∀c,o.op≠ .defer c)→o.dst=some d→[d0,d1,d2,d3,d4,d5][k]?=some d→[.map (some r),CS (sk,bk),.int .i64 z,.int .i64 z',.tuple #[.int .i64 z,.int .i64 st],.int .i64 st][k]?=some v→
    (execOp a'.eval o).run C.P w'= .ok (.value v) w''→(w''=if (l.set k true).getD 6 false=true then W2 else if (l.set k true).getD 4 false=true then W1 else w0)→o.wpIn (BZ C.ro) 0 C.P a' w' (J (l.set k true)) Q:=by
   intro o d v w'' hnd hdst e1 e2 hrun hw
   refine E5 hnd ?_
   unfold Oper.wp
   rw[hrun]
   show J (l.set k true) (a'.put o.dst v) w''
   rw[hdst]
   exact I.put hO.nd e1 e2 (hd d (List.mem_of_getElem? e1)) hw
  have hg:∀q:Nat,q≠k→(l.set k true).getD q false=l.getD q false:=fun q hq=>by
   rw[List.getD_eq_getElem?_getD,List.getD_eq_getElem?_getD,List.getElem?_set_ne (Ne.symm hq)]
  split at hst
  ·simp only[Bool.and_eq_true,Bool.not_eq_true']at hst
   obtain⟨o,ho,ho1,ho2⟩:=hO.o0
   have hw:=I.world
   simp only[hst.1,hst.2,Bool.false_eq_true,if_false]at hw
   subst hw
   refine⟨o,ho,go (by rw[ho1];intro c e;cases e) ho2 rfl rfl ?_ (by rw[hg 6 (by omega),hg 4 (by omega),hst.1,hst.2];first | done | rfl)⟩
   have:a'.eval (.tmp p0)=a.tmps.getD p0 undef:=I.keep p0 hO.np.1
   simp only[execOp,ho1,this]
   exact Bn r0
  ·simp only[Bool.and_eq_true,Bool.not_eq_true']at hst
   obtain⟨o,ho,ho1,ho2⟩:=hO.o1
   have hw:=I.world
   simp only[hst.1,hst.2,Bool.false_eq_true,if_false]at hw
   subst hw
   refine⟨o,ho,go (by rw[ho1];intro c e;cases e) ho2 rfl rfl ?_ (by rw[hg 6 (by omega),hg 4 (by omega),hst.1,hst.2];first | done | rfl)⟩
   have:a'.eval (.tmp p1)=a.tmps.getD p1 undef:=I.keep p1 hO.np.2
   simp only[execOp,ho1,this]
   exact Bn r1
  ·simp only[Bool.and_eq_true,Bool.not_eq_true']at hst
   obtain⟨⟨s0,s1⟩,s6⟩:=hst
   obtain⟨o,ho,ho1,ho2⟩:=hO.o2
   have a0:=val s0 (d:=d0) rfl rfl
   have a1:=val s1 (d:=d1) rfl rfl
   have hw:=I.world
   simp only[s6,Bool.false_eq_true,if_false]at hw
   refine⟨o,ho,go (by rw[ho1];intro c e;cases e) ho2 rfl rfl (w'':=w') ?_ (by rw[hg 6 (by omega),hg 4 (by omega),s6];simpa using hw)⟩
   simp only[execOp,ho1,a0,a1]
   refine Bn ?_
   by_cases h4:l.getD 4 false=true
   ·rw[if_pos h4]at hw
    have:=KL hti (tm:=tm) hu hK hj hn (r:=r) (k:=(sk,bk)) E.is1 W1 gW1
    rw[Jz]at this
    rw[hw]
    exact this
   ·rw[if_neg h4]at hw
    rw[hw]
    exact KL hti (tm:=tm) hu hK hj hn (r:=r) (k:=(sk,bk)) g4 w0 g2
  ·obtain⟨o,ho,ho1,ho2⟩:=hO.o3
   have a2:=val hst (d:=d2) rfl rfl
   refine⟨o,ho,go (by rw[ho1];intro c e;cases e) ho2 rfl rfl (w'':=w') ?_ (by rw[hg 6 (by omega),hg 4 (by omega)];exact I.world)⟩
   have a3:a'.eval (.const (.int .i64 1))= .int .i64 1:=rfl
   simp[execOp,ho1,a2,a3,eqGuard,binOp,Op.intArith]
   rfl
  ·simp only[Bool.and_eq_true,Bool.not_eq_true']at hst
   obtain⟨⟨s0,s1⟩,s6⟩:=hst
   obtain⟨o,ho,ho1,ho2⟩:=hO.o4
   have a0:=val s0 (d:=d0) rfl rfl
   have a1:=val s1 (d:=d1) rfl rfl
   have h4:l.getD 4 false=false:=hfree
   have hw:=I.world
   simp only[s6,h4,Bool.false_eq_true,if_false]at hw
   subst hw
   have hlen:4<l.length:=by
    simp only[Eo,List.mem_cons,List.not_mem_nil,or_false]at hl
    rcases hl with rfl | rfl | rfl | rfl | rfl | rfl | rfl | rfl | rfl | rfl | rfl | rfl | rfl<;>simp
   refine⟨o,ho,go (by rw[ho1];intro c e;cases e) ho2 rfl rfl (w'':=W1) ?_ (by rw[hg 6 (by omega),s6];simp[hlen])⟩
   simp only[execOp,ho1,a0,a1]
   exact Bn (E.run w' g2)
  ·obtain⟨o,ho,ho1,ho2⟩:=hO.o5
   have a4:=val hst (d:=d4) rfl rfl
   refine⟨o,ho,go (by rw[ho1];intro c e;cases e) ho2 rfl rfl (w'':=w') ?_ (by rw[hg 6 (by omega),hg 4 (by omega)];exact I.world)⟩
   simp[execOp,ho1,a4,Instr.extract]
  ·simp only[Bool.and_eq_true,Bool.not_eq_true']at hst
   obtain⟨⟨⟨s0,s3⟩,s4⟩,s5⟩:=hst
   obtain⟨o,ho,ho1,ho2⟩:=hO.o6
   have a0:=val s0 (d:=d0) rfl rfl
   have a3:=val s3 (d:=d3) rfl rfl
   have a5:=val s5 (d:=d5) rfl rfl
   have h6:l.getD 6 false=false:=hfree
   have hw:=I.world
   simp only[h6,s4,Bool.false_eq_true,if_false,if_true]at hw
   subst hw
   have hlen:6<l.length:=by
    simp only[Eo,List.mem_cons,List.not_mem_nil,or_false]at hl
    rcases hl with rfl | rfl | rfl | rfl | rfl | rfl | rfl | rfl | rfl | rfl | rfl | rfl | rfl<;>simp
   refine⟨o,ho,E5 (by rw[ho1];intro c e;cases e) ?_⟩
   have hrun:(execOp a'.eval o).run C.P W1= .ok .skip W2:=by
    simp only[execOp,ho1,a0,a3,a5]
    have:=E.store W1 z' gW1
    simp[this]
    rfl
   unfold Oper.wp
   rw[hrun]
   show J (l.set 6 true) (a'.put o.dst undef) W2
   rw[ho2]
   refine⟨I.size,I.defers,I.keep,fun q d v e1 e2 e3=>?_,by simp[hlen]⟩
   have hq:q≠6:=by
    rintro rfl
    simp at e2
   rw[List.getElem?_set_ne (Ne.symm hq)]at e1
   exact I.vals q d v e1 e2 e3
  ·cases hst
 ·intro a' w' I
  have hw:w'=W2:=by simpa using I.world
  subst hw
  refine hQ _ a' W2 hk ⟨g,?_⟩
  have e2:W2={w0 with heap:=w0.heap.setIfInBounds r (.map (ma2 z') clk1)}:=by
   show ({w0 with heap:=(w0.heap.setIfInBounds r _).setIfInBounds r _}:World)=_
   rw[Array.setIfInBounds_setIfInBounds]
  have R2:=R.Vs (m':=CO m sk bk) hi g1 g2 (E.borns z') (E.is2 z')
  rw[←e2]at R2
  have eH:Ag (DQ σ.heap i (.map kt' et' (CO m sk bk)))=AX (Ag σ.heap) i (.map kt' et' (CO m sk bk)):=Cr _ _ _
  refine {R2 with size:=by rw[I.size];exact R2.size,defers:=by rw[I.defers];exact R2.defers,slots:=fun t=>?_,heap:=by rw[eH];exact R2.heap,within:=by rw[eH];exact R2.within,free:=by rw[eH];exact fun n hn=>R2.free n (by have hn:σ.next+224≤n:=hn;show σ.next≤n;omega)}
  rw[eH]
  by_cases ht:t∈[d0,d1,d2,d3,d4,d5]
  ·have:Ay ((d0,.u)::(d1,.u)::(d2,.u)::(d3,.u)::(d4,.u)::(d5,.u)::σ.slots) t= .u:=by
    simp only[Ca]
    simp only[List.mem_cons,List.not_mem_nil,or_false]at ht
    rcases ht with rfl | rfl | rfl | rfl | rfl | rfl<;>simp
   rw[this]
   trivial
  ·have:Ay ((d0,.u)::(d1,.u)::(d2,.u)::(d3,.u)::(d4,.u)::(d5,.u)::σ.slots) t=Ay σ.slots t:=by
    simp only[Ca]
    simp only[List.mem_cons,List.not_mem_nil,or_false,not_or]at ht
    simp[ht]
   rw[this,I.keep t ht]
   exact R2.slots t
 ·refine⟨rfl,rfl,fun _ _=>rfl,fun q d v e1 _ _=>?_,by simp⟩
  exfalso
  match q with
  | 0 | 1 | 2 | 3 | 4 | 5 | 6=>simp at e1
  | q+7=>simp at e1
def OB (ti:Types) (M:BS) (nt:Nat) (ops:Array Oper) (σ:St) (K:St→Prop):Prop:=
 M.lock fun _=>CH ti M nt ops σ K∨∃tm tk te te' p0 p1 d0 d1 d2 d3 d4 d5,(M.lock fun _=>Ti ops tm tk te te' p0 p1 d0 d1 d2 d3 d4 d5)∧Bq (Ci (fun d=>Nat.blt d nt) [d0,d1,d2,d3,d4,d5]) (Qh M ti tm tk p0 p1 d0 d1 d2 d3 d4 d5 σ K)
theorem YE {P:Program}{ti:Types}(hti:BV P ti) (h1:Bo ti) (hm:P.follows .mixedOrders=true):∀C:Cx,C.P=P→H7 C (OB ti C.M C.nt):=fun C hC=>by
 have hti':BV C.P ti:=by rw[hC];exact hti
 have hm':C.P.follows .mixedOrders=true:=by rw[hC];exact hm
 intro id ops σ K Q a w hQ hk R
 rcases (C.M.lock_iff _).1 hk with hk | ⟨tm,tk,te,te',p0,p1,d0,d1,d2,d3,d4,d5,hO,hk⟩
 ·exact RT hti' h1 hm' id ops σ K Q a w hQ hk R
 ·obtain⟨hd,hk⟩:=AR.1 hk
  exact wpIn_region_any hm' (SU hti' h1 ((C.M.lock_iff _).1 hO) hd hQ hk R)
theorem AW.Y4 {P:Program}{I:Inv}{ti:Types}(hti:BV P ti) (h1:Bo ti) (hm:P.follows .mixedOrders=true) {f:FuncId}{fn:Func}{c:Code}(hf:P.funcs[f]?=some fn) (hb:fn.body=some c)
  (hname:(fn.name== "runtime.NumGoroutine")=false) {args:List V1} {pre post new:List AQ} {res:AV} {nt:Nat} (hnt:fn.ntmps=nt) (hargs:Nat.ble args.length nt=true) {rs:List ResultVar} (hrs:fn.results.toList=rs)
  (hx:∀M:BS,M.P=P→M.I=I→exec M ti nt (OB ti M nt) c ⟨slotsOf args 0,CA pre 0,0⟩ fun e σ=>match e with
   | .exit _=>False
   | .normal=>∃r p n,(r=res∧p=post∧n=new)∧Lf ti rs σ r p n
   | .ret=>∃r p n,(r=res∧p=post∧n=new)∧Lf ti rs σ r p n):AW P I f args pre res post new:=by
 subst hnt
 subst hrs
 exact EU.intro (fun M nt=>OB ti M nt) hti h1 (YE hti h1 hm) hf hb hname (Nat.le_of_ble_eq_true hargs) hx
end Go.AM
namespace Go.Proofs.YtmggjbjpklecgaaGreatDoor
open Go Go.AM
theorem Bp:Tryz.prog.follows .mixedOrders=true:=by kernel_rfl
theorem Tm {P:Program}{name:String}{g:Nat}(hg:P.globalNamed name=some g) {w w':World}(h:w'.heap[g]?=w.heap[g]?):w'.var? P name=w.var? P name:=by
 unfold World.var?
 rw[hg]
 simp only[Option.bind_some,h]
theorem Tn:∃g,Tryz.prog.globalNamed "strings.asciiSpace" =some g:=⟨1,by kernel_rfl⟩
def inv:Inv:=⟨fun b=>Tryz.prog.globalNamed "strings.asciiSpace" =some b,fun w=>Lib.TabIs Tryz.prog w "strings.asciiSpace" .u8 Lib.asciiSpaceTab,fun h hr=>by
 obtain⟨g,hg⟩:=Tn
 unfold Lib.TabIs at hr ⊢
 rw[Tm hg (h g hg)]
 exact hr⟩
end Go.Proofs.YtmggjbjpklecgaaGreatDoor
namespace Go.Proofs
open Go.Shelf
def Tryz.Py:Go.Shelf.Ren:=⟨fun | 137=>64 | 217=>94 | 266=>110 | n=>n,fun | 9=>9 | 5=>5 | 3=>3 | n=>n,fun | n=>n⟩
theorem Tryz.Vv:Go.Proofs.Lays.n137 Tryz.prog Tryz.Py:={
 mixed:=by kernel_rfl
 f137:=Tryz.func64.trans (congrArg some (by kernel_rfl))
 f217:=Tryz.func94.trans (congrArg some (by kernel_rfl))
 f266:=Tryz.func110.trans (congrArg some (by kernel_rfl))
 t3:=Tryz.underlying3
 a3:=Tryz.isAgg3
 z3:=Tryz.sizeOf3
 v3:=Tryz.zeroValue3
 t5:=Tryz.underlying5
 a5:=Tryz.isAgg5
 z5:=Tryz.sizeOf5
 v5:=Tryz.zeroValue5
 t9:=Tryz.underlying9
 a9:=Tryz.isAgg9
 z9:=Tryz.sizeOf9
 v9:=Tryz.zeroValue9}
open Go.RowKit in
theorem Tryz.strings_IndexByte (s:ByteArray) (c:Int) (w:World):
  Calls Tryz.prog 64 #[.string s,.int .u8 c] w fun e w'=>e= .returned (.int .i64 (Lib.indexByte s.data.toList c.toNat.toUInt8))∧w'=w:=Any.strings_IndexByte Tryz.Vv s c w
def Tryz.Qy:Go.Shelf.Ren:=⟨fun | 99=>65 | 206=>95 | n=>n,fun | 9=>9 | 4=>4 | 3=>3 | n=>n,fun | n=>n⟩
theorem Tryz.Xe:Go.Proofs.Lays.n99 Tryz.prog Tryz.Qy:={
 mixed:=by kernel_rfl
 f99:=Tryz.func65.trans (congrArg some (by kernel_rfl))
 f206:=Tryz.func95.trans (congrArg some (by kernel_rfl))
 t3:=Tryz.underlying3
 a3:=Tryz.isAgg3
 z3:=Tryz.sizeOf3
 v3:=Tryz.zeroValue3
 t4:=Tryz.underlying4
 a4:=Tryz.isAgg4
 z4:=Tryz.sizeOf4
 v4:=Tryz.zeroValue4
 t9:=Tryz.underlying9
 a9:=Tryz.isAgg9
 z9:=Tryz.sizeOf9
 v9:=Tryz.zeroValue9}
open Go.RowKit Go.Lib in
theorem Tryz.strings_HasPrefix (s p:ByteArray) (w:World):
  Calls Tryz.prog 65 #[.string s,.string p] w fun e w'=>e= .returned (.bool (Lib.hasPrefix s.data.toList p.data.toList))∧w'=w:=Any.strings_HasPrefix Tryz.Xe s p w
def Tryz.Pz:Go.Shelf.Ren:=⟨fun | 157=>111 | 229=>141 | 199=>142 | 261=>153 | 311=>155 | 312=>156 | n=>n,fun | 9=>9 | 31=>38 | 3=>3 | 5=>5 | 4=>4 | 119=>183 | 0=>0 | 40=>185 | 152=>197 | 21=>21 | 154=>199 | 51=>200 | 141=>202 | 196=>206 | 193=>203 | 198=>209 | 49=>207 | 194=>204 | 201=>212 | 226=>214 | 46=>186 | 227=>215 | n=>n,fun | 0=>1 | 6=>2 | n=>n⟩
theorem Tryz.Vw:Go.Proofs.Lays.n157 Tryz.prog Tryz.Pz:={
 mixed:=by kernel_rfl
 f157:=Tryz.func111.trans (congrArg some (by kernel_rfl))
 f199:=Tryz.func142.trans (congrArg some (by kernel_rfl))
 f229:=Tryz.func141.trans (congrArg some (by kernel_rfl))
 f261:=Tryz.func153.trans (congrArg some (by kernel_rfl))
 f311:=Tryz.func155.trans (congrArg some (by kernel_rfl))
 f312:=Tryz.func156.trans (congrArg some (by kernel_rfl))
 t0:=Tryz.underlying0
 a0:=Tryz.isAgg0
 z0:=Tryz.sizeOf0
 v0:=Tryz.zeroValue0
 t3:=Tryz.underlying3
 a3:=Tryz.isAgg3
 z3:=Tryz.sizeOf3
 v3:=Tryz.zeroValue3
 t4:=Tryz.underlying4
 a4:=Tryz.isAgg4
 z4:=Tryz.sizeOf4
 v4:=Tryz.zeroValue4
 t5:=Tryz.underlying5
 a5:=Tryz.isAgg5
 z5:=Tryz.sizeOf5
 v5:=Tryz.zeroValue5
 t9:=Tryz.underlying9
 a9:=Tryz.isAgg9
 z9:=Tryz.sizeOf9
 v9:=Tryz.zeroValue9
 t21:=Tryz.underlying21
 a21:=Tryz.isAgg21
 z21:=Tryz.sizeOf21
 v21:=Tryz.zeroValue21
 t31:=Tryz.underlying38
 a31:=Tryz.isAgg38
 z31:=Tryz.sizeOf38
 v31:=Tryz.zeroValue38
 t40:=Tryz.underlying185
 a40:=Tryz.isAgg185
 z40:=Tryz.sizeOf185
 v40:=Tryz.zeroValue185
 t46:=Tryz.underlying186
 a46:=Tryz.isAgg186
 z46:=Tryz.sizeOf186
 v46:=Tryz.zeroValue186
 t49:=Tryz.underlying207
 a49:=Tryz.isAgg207
 z49:=Tryz.sizeOf207
 v49:=Tryz.zeroValue207
 t51:=Tryz.underlying200
 a51:=Tryz.isAgg200
 z51:=Tryz.sizeOf200
 v51:=Tryz.zeroValue200
 t119:=Tryz.underlying183
 a119:=Tryz.isAgg183
 z119:=Tryz.sizeOf183
 t141:=Tryz.underlying202
 a141:=Tryz.isAgg202
 z141:=Tryz.sizeOf202
 v141:=Tryz.zeroValue202
 t152:=Tryz.underlying197
 a152:=Tryz.isAgg197
 z152:=Tryz.sizeOf197
 v152:=Tryz.zeroValue197
 t154:=Tryz.underlying199
 a154:=Tryz.isAgg199
 z154:=Tryz.sizeOf199
 v154:=Tryz.zeroValue199
 t193:=Tryz.underlying203
 a193:=Tryz.isAgg203
 z193:=Tryz.sizeOf203
 v193:=Tryz.zeroValue203
 t194:=Tryz.underlying204
 a194:=Tryz.isAgg204
 z194:=Tryz.sizeOf204
 v194:=Tryz.zeroValue204
 t196:=Tryz.underlying206
 a196:=Tryz.isAgg206
 z196:=Tryz.sizeOf206
 v196:=Tryz.zeroValue206
 t198:=Tryz.underlying209
 a198:=Tryz.isAgg209
 z198:=Tryz.sizeOf209
 v198:=Tryz.zeroValue209
 t201:=Tryz.underlying212
 a201:=Tryz.isAgg212
 z201:=Tryz.sizeOf212
 v201:=Tryz.zeroValue212
 t226:=Tryz.underlying214
 a226:=Tryz.isAgg214
 z226:=Tryz.sizeOf214
 v226:=Tryz.zeroValue214
 t227:=Tryz.underlying215
 a227:=Tryz.isAgg215
 z227:=Tryz.sizeOf215
 v227:=Tryz.zeroValue215
 g0:=by kernel_rfl
 g6:=by kernel_rfl}
open Go.RowKit Go.Lib in
theorem Tryz.strings_Fields (s:ByteArray) (w:World) (hs:s.size<4294967281) (hascii:∀(j:Nat) b,s.data.toList[j]?=some b→b.toNat<128) (htab:Lib.TabIs Tryz.prog w "strings.asciiSpace" .u8 Lib.asciiSpaceTab):
  Calls Tryz.prog 111 #[.string s] w fun e w'=>
   e= .returned (.slice (some ⟨w.heap.size,0,none⟩) (Lib.fields s.data.toList).length (Lib.fields s.data.toList).length)∧w'=w.alloc (.cells ((Lib.fields s.data.toList).map fun l=>Value.string ⟨l.toArray⟩).toArray 9):=Any.strings_Fields Tryz.Vw (by kernel_rfl) (by kernel_rfl) s w hs hascii htab
end Go.Proofs
set_option linter.unusedVariables false
namespace Go.Proofs.YtmggjbjpklecgaaGreatDoor
open Go Go.AM
theorem two {vals:Array Value}(h:vals.size=2):∃v u,vals=#[v,u]:=
 ⟨vals[0],vals[1],by
  apply Array.ext
  ·simpa using h
  ·intro i h1 h2
   match i,h2 with
   | 0,_=>rfl
   | 1,_=>rfl⟩
def fieldsD (s:ByteArray):List D:=(Lib.fields s.data.toList).map fun l=>D.str ⟨l.toArray⟩
def To (n:Nat) (s:ByteArray):Option (List D):=if s.size<4294967281∧(s.data.toList.all fun b=>b.toNat<128)=true∧(Lib.fields s.data.toList).length≤maxLen then some (fieldsD s)else none
def ZS (n:Nat) (s:ByteArray) (c:Int):Option Int:=some (Lib.indexByte s.data.toList c.toNat.toUInt8)
def ZT (n:Nat) (s p:ByteArray):Option Bool:=some (Lib.hasPrefix s.data.toList p.data.toList)
theorem bC (n:Nat):∀⦃s:ByteArray⦄ ⦃c r1:Int⦄,ZS n s c=some r1→AW Tryz.prog inv 64 [.d (.str s),.d (.int .u8 c)] [] (.v (.d (.int .i64 r1))) [] []:=by
 intro s c r1 h
 cases h
 refine AW.Rt (xs:=[.str s,.int .u8 c]) ⟨_,_,Tryz.func64,rfl,by kernel_rfl⟩ fun w Z vals hr hsz hv=>?_
 obtain⟨v,u,rfl⟩:=two hsz
 cases hv 0 _ _ rfl rfl
 cases hv 1 _ _ rfl rfl
 refine (Tryz.strings_IndexByte s c w).mono ?_
 rintro e w' ⟨rfl,rfl⟩
 exact⟨_,rfl,⟨rfl,rfl,rfl,Nat.le_refl _,fun _ _ _=>rfl⟩,fun _ _ _=>.int _ _⟩
theorem bD (n:Nat):∀⦃s p:ByteArray⦄ ⦃r1:Bool⦄,ZT n s p=some r1→AW Tryz.prog inv 65 [.d (.str s),.d (.str p)] [] (.v (.d (.bool r1))) [] []:=by
 intro s p r1 h
 cases h
 refine AW.Rt (xs:=[.str s,.str p]) ⟨_,_,Tryz.func65,rfl,by kernel_rfl⟩ fun w Z vals hr hsz hv=>?_
 obtain⟨v,u,rfl⟩:=two hsz
 cases hv 0 _ _ rfl rfl
 cases hv 1 _ _ rfl rfl
 refine (Tryz.strings_HasPrefix s p w).mono ?_
 rintro e w' ⟨rfl,rfl⟩
 exact⟨_,rfl,⟨rfl,rfl,rfl,Nat.le_refl _,fun _ _ _=>rfl⟩,fun _ _ _=>.bool _⟩
theorem ZU (n:Nat):∀⦃s:ByteArray⦄ ⦃r1:List D⦄,To n s=some r1→AW Tryz.prog inv 111 [.d (.str s)] [] (.v (.d (.list false 1 r1))) [] []:=by
 intro s r1 h
 unfold To at h
 split at h
 ·rename_i hb
  cases h
  obtain⟨h1,h2,h3⟩:=hb
  refine AW.Uq (xs:=[.str s]) ⟨_,_,Tryz.func111,rfl,by kernel_rfl⟩ fun w Z vals hr hsz hv=>?_
  obtain⟨v,rfl⟩:∃v,vals=#[v]:=Array.size_eq_one_iff.1 hsz
  cases hv 0 _ _ rfl rfl
  refine (Tryz.strings_Fields s w h1 (fun j b hj=>by
   have:=List.all_eq_true.1 h2 b (List.mem_of_getElem? hj)
   simpa using this) hr).mono ?_
  rintro e w' ⟨rfl,rfl⟩
  refine⟨_,rfl,Qd rfl rfl rfl (by simp) (fun b hb=>Go.RowKit.Below.heap_alloc w _ b hb),fun Z' _ _ hZ=>?_⟩
  have hl:(fieldsD s).length=(Lib.fields s.data.toList).length:=by simp[fieldsD]
  show Aj _ Z' (.list false 1 (fieldsD s)) _
  rw[←hl]
  refine .list false 1 (fieldsD s) _ _ w.heap.size 0 (fun i _=>.string ⟨((Lib.fields s.data.toList).getD i []).toArray⟩) (Nat.le_refl _) (by rw[hl];exact h3) ?_ (fun _=>rfl) ?_ ?_
  ·intro r hr
   obtain⟨l,_,rfl⟩:=List.mem_map.1 hr
   exact⟨rfl,rfl,fun c hc=>by simp[D.cells]at hc;subst hc;rfl⟩
  ·intro i r j c hi hj
   have hi':((Lib.fields s.data.toList).map fun l=>D.str ⟨l.toArray⟩)[i]?=some r:=hi
   rw[List.getElem?_map,Option.map_eq_some_iff]at hi'
   obtain⟨l,hl',rfl⟩:=hi'
   match j with
   | 0=>
    refine⟨?_,fun hz=>absurd (hZ _ _ hz) (Nat.lt_irrefl _)⟩
    have:=heap_alloc_new w (.cells ((Lib.fields s.data.toList).map fun l=>Value.string ⟨l.toArray⟩).toArray 9)
    unfold World.cell?
    simp only[Nat.zero_add,Nat.mul_one,Nat.add_zero]
    rw[this]
    simp[hl']
   | j+1=>simp[D.cells]at hj
  ·intro i r j c hi hj
   have hi':((Lib.fields s.data.toList).map fun l=>D.str ⟨l.toArray⟩)[i]?=some r:=hi
   rw[List.getElem?_map,Option.map_eq_some_iff]at hi'
   obtain⟨l,hl',rfl⟩:=hi'
   match j with
   | 0=>
    simp[D.cells]at hj
    subst hj
    simp only[List.getD_eq_getElem?_getD,hl',Option.getD_some]
    exact .str _
   | j+1=>simp[D.cells]at hj
 ·cases h
end Go.Proofs.YtmggjbjpklecgaaGreatDoor
set_option maxRecDepth 100000
set_option maxHeartbeats 40000000
set_option linter.unusedVariables false
noncomputable section
namespace Go.Proofs.YtmggjbjpklecgaaGreatDoor
open Go Go.AM
def Ck:BA:=⟨#[115,116,114,117,99,116,32,76,32,123,32,97,58,32,65,114,99,60,77,117,116,101,120,60,76,62,62,44,32,98,58,32,67,101,108,108,60,105,110,116,62,32,125]⟩
def W9:BA:=⟨#[32,9,10,13]⟩
def ZV:BA:=⟨#[47,47]⟩
def Bc:BA:=⟨#[108,101,116,32,105,102,32,101,108,115,101,32,119,104,105,108,101,32,109,97,116,99,104,32,115,99,111,112,101,32,115,112,97,119,110,32,108,111,99,107,32,97,115,32,99,104,97,110,32,100,114,111,112,32,102,110,32,115,116,114,117,99,116,32,101,110,117,109,32,116,114,117,101,32,102,97,108,115,101,32,97,110,100,32,111,114,32,110,111,116,32,105,110,116,32,98,111,111,108,32,117,110,105,116,32,109,117,116,32,98,111,120,32,117,110,98,111,120,32,99,101,108,108,32,103,101,116,32,115,101,116,32,114,99,32,97,114,99,32,99,108,111,110,101,32,109,117,116,101,120,32,111,112,101,110,32,97,116,111,109,105,99,32,108,111,97,100,32,115,116,111,114,101,32,102,101,116,99,104,32,115,101,110,100,32,114,101,99,118,32,66,111,120,32,67,101,108,108,32,82,99,32,65,114,99,32,77,117,116,101,120,32,65,116,111,109,105,99,32,83,101,110,100,101,114,32,82,101,99,101,105,118,101,114]⟩
def B7 {γ:Type}(x:D) (k:BA->Option γ):Option γ:=match x with | .str a0=>k a0 | _=>none
theorem B3 {γ:Type}{x:D}{k:BA->Option γ}{r:γ}(h:B7 x k=some r):∃a0,x= .str a0/\k a0=some r:=by
 unfold B7 at h
 split at h
 ·exact⟨_,rfl,h⟩
 ·cases h
def OC {γ:Type}(x:D) (k:Int->Option γ):Option γ:=match x with | .int .i64 a0=>k a0 | _=>none
theorem Qi {γ:Type}{x:D}{k:Int->Option γ}{r:γ}(h:OC x k=some r):∃a0,x= .int .i64 a0/\k a0=some r:=by
 unfold OC at h
 split at h
 ·exact⟨_,rfl,h⟩
 ·cases h
def Tp:BA:=⟨#[61,61]⟩
def Tq:BA:=⟨#[61,62]⟩
def Qj:BA:=⟨#[45,62]⟩
def HL:BA:=⟨#[40,41,123,125,60,62,44,59,58,61,38,42,46,43,45,47,37]⟩
def GX {γ:Type}(x:D) (k:Int->BA->Int->Option γ):Option γ:=match x with | .agg [.int .u8 a0,.str a1,.int .i64 a2]=>k a0 a1 a2 | _=>none
theorem Dk {γ:Type}{x:D}{k:Int->BA->Int->Option γ}{r:γ}(h:GX x k=some r):∃a0 a1 a2,x= .agg [.int .u8 a0,.str a1,.int .i64 a2]/\k a0 a1 a2=some r:=by
 unfold GX at h
 split at h
 ·exact⟨_,_,_,rfl,h⟩
 ·cases h
def GY:BA:=⟨#[115,116,114,117,99,116]⟩
def ZW:BA:=⟨#[123]⟩
def WQ:BA:=⟨#[125]⟩
def YF:BA:=⟨#[58]⟩
def YG:BA:=⟨#[38]⟩
def Pk:BA:=⟨#[109,117,116]⟩
def Pl:BA:=⟨#[105,110,116]⟩
def Lq:BA:=⟨#[98,111,111,108]⟩
def Lr:BA:=⟨#[117,110,105,116]⟩
def GZ:BA:=⟨#[65,116,111,109,105,99]⟩
def RY {γ:Type}(x:D) (k:Int->Option γ):Option γ:=match x with | .int .u8 a0=>k a0 | _=>none
theorem NZ {γ:Type}{x:D}{k:Int->Option γ}{r:γ}(h:RY x k=some r):∃a0,x= .int .u8 a0/\k a0=some r:=by
 unfold RY at h
 split at h
 ·exact⟨_,rfl,h⟩
 ·cases h
def Pm:BA:=⟨#[66,111,120]⟩
def Ls:BA:=⟨#[67,101,108,108]⟩
def Tr:BA:=⟨#[82,99]⟩
def Pn:BA:=⟨#[65,114,99]⟩
def Ir:BA:=⟨#[77,117,116,101,120]⟩
def Ga:BA:=⟨#[83,101,110,100,101,114]⟩
def EK:BA:=⟨#[82,101,99,101,105,118,101,114]⟩
def YH:BA:=⟨#[60]⟩
def YI:BA:=⟨#[62]⟩
def WR:BA:=⟨#[44]⟩
def Lu:BA:=⟨#[101,110,117,109]⟩
def Ts:BA:=⟨#[102,110]⟩
def YJ:BA:=⟨#[40]⟩
def YK:BA:=⟨#[41]⟩
def Bv {γ:Type}(x:D) (k:Int->BA->LD->Int->BA->LD->LD->Int->Int->BA->BA->BA->LD->LD->Int->Int->Option γ):Option γ:=match x with | .agg [.int .u8 a0,.str a1,.list true 4 a2,.int .u8 a3,.str a4,.list true 3 a5,.list true 15 a6,.int .u8 a7,.int .i64 a8,.str a9,.str a10,.str a11,.list false 1 a12,.list true 8 a13,.int .i64 a14,.int .i64 a15]=>k a0 a1 a2 a3 a4 a5 a6 a7 a8 a9 a10 a11 a12 a13 a14 a15 | _=>none
theorem B4 {γ:Type}{x:D}{k:Int->BA->LD->Int->BA->LD->LD->Int->Int->BA->BA->BA->LD->LD->Int->Int->Option γ}{r:γ}(h:Bv x k=some r):∃a0 a1 a2 a3 a4 a5 a6 a7 a8 a9 a10 a11 a12 a13 a14 a15,x= .agg [.int .u8 a0,.str a1,.list true 4 a2,.int .u8 a3,.str a4,.list true 3 a5,.list true 15 a6,.int .u8 a7,.int .i64 a8,.str a9,.str a10,.str a11,.list false 1 a12,.list true 8 a13,.int .i64 a14,.int .i64 a15]/\k a0 a1 a2 a3 a4 a5 a6 a7 a8 a9 a10 a11 a12 a13 a14 a15=some r:=by
 unfold Bv at h
 split at h
 ·exact⟨_,_,_,_,_,_,_,_,_,_,_,_,_,_,_,_,rfl,h⟩
 ·cases h
def Cl {γ:Type}(x:D) (k:Int->BA->LD->Option γ):Option γ:=match x with | .agg [.int .u8 a0,.str a1,.list true 3 a2]=>k a0 a1 a2 | _=>none
theorem DE {γ:Type}{x:D}{k:Int->BA->LD->Option γ}{r:γ}(h:Cl x k=some r):∃a0 a1 a2,x= .agg [.int .u8 a0,.str a1,.list true 3 a2]/\k a0 a1 a2=some r:=by
 unfold Cl at h
 split at h
 ·exact⟨_,_,_,rfl,h⟩
 ·cases h
def Cz {γ:Type}(x:D) (k:Int->Int->BA->BA->BA->LD->LD->Int->Option γ):Option γ:=match x with | .agg [.int .u8 a0,.int .i64 a1,.str a2,.str a3,.str a4,.list false 1 a5,.list true 8 a6,.int .i64 a7]=>k a0 a1 a2 a3 a4 a5 a6 a7 | _=>none
theorem CB {γ:Type}{x:D}{k:Int->Int->BA->BA->BA->LD->LD->Int->Option γ}{r:γ}(h:Cz x k=some r):∃a0 a1 a2 a3 a4 a5 a6 a7,x= .agg [.int .u8 a0,.int .i64 a1,.str a2,.str a3,.str a4,.list false 1 a5,.list true 8 a6,.int .i64 a7]/\k a0 a1 a2 a3 a4 a5 a6 a7=some r:=by
 unfold Cz at h
 split at h
 ·exact⟨_,_,_,_,_,_,_,_,rfl,h⟩
 ·cases h
def B5 {γ:Type}(x:D) (k:BA->Int->BA->LD->Option γ):Option γ:=match x with | .agg [.str a0,.int .u8 a1,.str a2,.list true 3 a3]=>k a0 a1 a2 a3 | _=>none
theorem CQ {γ:Type}{x:D}{k:BA->Int->BA->LD->Option γ}{r:γ}(h:B5 x k=some r):∃a0 a1 a2 a3,x= .agg [.str a0,.int .u8 a1,.str a2,.list true 3 a3]/\k a0 a1 a2 a3=some r:=by
 unfold B5 at h
 split at h
 ·exact⟨_,_,_,_,rfl,h⟩
 ·cases h
def Gb {γ:Type}(x:D) (k:Int->BA->BA->LD->Int->BA->LD->Int->BA->LD->LD->LD->LD->LD->Int->Option γ):Option γ:=match x with | .agg [.int .u8 a0,.str a1,.str a2,.list false 1 a3,.int .u8 a4,.str a5,.list true 3 a6,.int .i64 a7,.str a8,.list false 1 a9,.list true 8 a10,.list true 15 a11,.list true 15 a12,.list true 3 a13,.int .i64 a14]=>k a0 a1 a2 a3 a4 a5 a6 a7 a8 a9 a10 a11 a12 a13 a14 | _=>none
theorem FT {γ:Type}{x:D}{k:Int->BA->BA->LD->Int->BA->LD->Int->BA->LD->LD->LD->LD->LD->Int->Option γ}{r:γ}(h:Gb x k=some r):∃a0 a1 a2 a3 a4 a5 a6 a7 a8 a9 a10 a11 a12 a13 a14,x= .agg [.int .u8 a0,.str a1,.str a2,.list false 1 a3,.int .u8 a4,.str a5,.list true 3 a6,.int .i64 a7,.str a8,.list false 1 a9,.list true 8 a10,.list true 15 a11,.list true 15 a12,.list true 3 a13,.int .i64 a14]/\k a0 a1 a2 a3 a4 a5 a6 a7 a8 a9 a10 a11 a12 a13 a14=some r:=by
 unfold Gb at h
 split at h
 ·exact⟨_,_,_,_,_,_,_,_,_,_,_,_,_,_,_,rfl,h⟩
 ·cases h
def KM:BA:=⟨#[76]⟩
def Cm:Unit->RF:=fun _=>⟨cP (cL (cR (cL (cR (cR (cR (cR (Qe Tryz.f36)))))))),cL (cL (cR (cL (cR (cR (cR (cR (Qe Tryz.f36)))))))),cR (cL (cR (cL (cR (cR (cR (cR (Qe Tryz.f36)))))))),39⟩
def Gc {γ:Type}(x:D) (k:BA->BA->LD->Option γ):Option γ:=match x with | .agg [.str a0,.str a1,.list true 15 a2]=>k a0 a1 a2 | _=>none
theorem FU {γ:Type}{x:D}{k:BA->BA->LD->Option γ}{r:γ}(h:Gc x k=some r):∃a0 a1 a2,x= .agg [.str a0,.str a1,.list true 15 a2]/\k a0 a1 a2=some r:=by
 unfold Gc at h
 split at h
 ·exact⟨_,_,_,rfl,h⟩
 ·cases h
def RZ:BA:=⟨#[108,101,116]⟩
def VX:BA:=⟨#[105,102]⟩
def OD:BA:=⟨#[101,108,115,101]⟩
def Kk:BA:=⟨#[119,104,105,108,101]⟩
def Kl:BA:=⟨#[109,97,116,99,104]⟩
def Km:BA:=⟨#[115,99,111,112,101]⟩
def Kn:BA:=⟨#[115,112,97,119,110]⟩
def OE:BA:=⟨#[108,111,99,107]⟩
def VY:BA:=⟨#[97,115]⟩
def OG:BA:=⟨#[99,104,97,110]⟩
def OH:BA:=⟨#[100,114,111,112]⟩
def OI:BA:=⟨#[116,114,117,101]⟩
def Ko:BA:=⟨#[102,97,108,115,101]⟩
def Ra:BA:=⟨#[97,110,100]⟩
def VZ:BA:=⟨#[111,114]⟩
def Rb:BA:=⟨#[110,111,116]⟩
def Rc:BA:=⟨#[98,111,120]⟩
def Kp:BA:=⟨#[117,110,98,111,120]⟩
def OJ:BA:=⟨#[99,101,108,108]⟩
def Rd:BA:=⟨#[103,101,116]⟩
def Re:BA:=⟨#[115,101,116]⟩
def Va:BA:=⟨#[114,99]⟩
def Rf:BA:=⟨#[97,114,99]⟩
def Kq:BA:=⟨#[99,108,111,110,101]⟩
def Kr:BA:=⟨#[109,117,116,101,120]⟩
def OL:BA:=⟨#[111,112,101,110]⟩
def Iu:BA:=⟨#[97,116,111,109,105,99]⟩
def OM:BA:=⟨#[108,111,97,100]⟩
def Ks:BA:=⟨#[115,116,111,114,101]⟩
def Kt:BA:=⟨#[102,101,116,99,104]⟩
def OO:BA:=⟨#[115,101,110,100]⟩
def OP:BA:=⟨#[114,101,99,118]⟩
def XA:BA:=⟨#[105,48]⟩
def XB:BA:=⟨#[98,48]⟩
def ZX:BA:=⟨#[48]⟩
def Ep:BA:=⟨#[112,48]⟩
def IK:BA:=⟨#[49]⟩
def J0:BA:=⟨#[50]⟩
def XC:BA:=⟨#[110,54]⟩
def Tt:BA:=⟨#[116,102,54]⟩
def Tu:BA:=⟨#[116,118,57]⟩
def KU:BA:=⟨#[112,49]⟩
def YL:BA:=⟨#[42]⟩
def XD:BA:=⟨#[110,108]⟩
def Tv:BA:=⟨#[116,78,101]⟩
def XE:BA:=⟨#[112,101]⟩
def ZY:BA:=⟨#[101]⟩
def ZZ:BA:=⟨#[110]⟩
def Tw:BA:=⟨#[101,66,69]⟩
def XF:BA:=⟨#[101,66]⟩
def Tx:BA:=⟨#[110,121,65]⟩
def Xf:BA:=⟨#[66]⟩
def Tz:BA:=⟨#[78,120,66]⟩
def T1:BA:=⟨#[112,110,66]⟩
def T2:BA:=⟨#[84,110,115]⟩
def CE {γ:Type}(x:D) (k:Bool->Option γ):Option γ:=match x with | .bool a0=>k a0 | _=>none
theorem Cn {γ:Type}{x:D}{k:Bool->Option γ}{r:γ}(h:CE x k=some r):∃a0,x= .bool a0/\k a0=some r:=by
 unfold CE at h
 split at h
 ·exact⟨_,rfl,h⟩
 ·cases h
mutual
def Gd:Nat->BA->Int->Option (Bool)
 | 0,_,_=>none
 | n+1,s1,z2=>
  (if z2<(47:Int)then HO n s1 z2 true else HO n s1 z2 false)
def HO:Nat->BA->Int->Bool->Option (Bool)
 | 0,_,_,_=>none
 | n+1,s1,z2,b3=>
  (if b3=true then BT ([.str RZ,.str VX,.str OD,.str Kk,.str Kl,.str Km,.str Kn,.str OE,.str VY,.str OG,.str OH,.str Ts,.str GY,.str Lu,.str OI,.str Ko,.str Ra,.str VZ,.str Rb,.str Pl,.str Lq,.str Lr,.str Pk,.str Rc,.str Kp,.str OJ,.str Rd,.str Re,.str Va,.str Rf,.str Kq,.str Kr,.str OL,.str Iu,.str OM,.str Ks,.str Kt,.str OO,.str OP,.str Pm,.str Ls,.str Tr,.str Pn,.str Ir,.str GZ,.str Ga,.str EK]) z2 fun x4=>B7 x4 fun s5=>(if s5=s1 then Iv n s1 z2 true else Iv n s1 z2 false)else some false)
def Iv:Nat->BA->Int->Bool->Option (Bool)
 | 0,_,_,_=>none
 | n+1,s1,z2,b6=>
  (if b6=true then some true else Al (IntKind.wrap .i64 (z2+1)) fun z7=>Gd n s1 z7)
end
def Xg (n:Nat) (s1:BA):Option (Bool):=
 Gd n s1 (0:Int)
theorem bV (n:Nat):∀⦃s1 r1⦄,Xg n s1=some r1->
    AW Tryz.prog inv 59 [.d (.str s1)] [] (.v (.d (.bool r1))) [] []:=by
 intro s1 r1 h
 unfold Xg at h
 refine AW.of Ab AO Bp Tryz.func59 rfl (by kernel_rfl) rfl rfl rfl (fun M hM hI=>?_)
 try cbv
 refine AB ?_
 try cbv
 refine AB ?_
 try cbv
 refine⟨false,?_⟩
 try cbv
 refine⟨true,?_⟩
 try cbv
 refine AB ?_
 try cbv
 refine AB ?_
 try cbv
 refine BF (T:=Nat×Int) [0,2,3,4] [] 128 (fun t=>⟨[sS 0 s1,sB 2 false,(3,.v (.c (.tl false 1 ([.str RZ,.str VX,.str OD,.str Kk,.str Kl,.str Km,.str Kn,.str OE,.str VY,.str OG,.str OH,.str Ts,.str GY,.str Lu,.str OI,.str Ko,.str Ra,.str VZ,.str Rb,.str Pl,.str Lq,.str Lr,.str Pk,.str Rc,.str Kp,.str OJ,.str Rd,.str Re,.str Va,.str Rf,.str Kq,.str Kr,.str OL,.str Iu,.str OM,.str Ks,.str Kt,.str OO,.str OP,.str Pm,.str Ls,.str Tr,.str Pn,.str Ir,.str GZ,.str Ga,.str EK])))),sI 4 t.2],[],128⟩)
   (fun t=>t.1<=n/\Gd t.1 s1 t.2=some r1) (fun t=>t.1) (n,(0:Int)) ⟨Nat.le_refl _,h⟩ (by cbv) ?_
 clear h
 rintro⟨m1,z2⟩ ⟨hm1,h⟩
 replace hm1:m1<=n:=hm1
 obtain _ | m1:=m1
 ·replace h:Gd 0 s1 z2=some r1:=h
  rw[Gd]at h
  cases h
 replace h:Gd (m1+1) s1 z2=some r1:=h
 rw[Gd]at h
 try cbv
 refine AB ?_
 try cbv
 refine AH 9 [0,2,3,4,9] [] 256 (fun m b=>m<=m1/\HO m s1 z2 b=some r1) ?_ ?_
 ·try cbv
  refine⟨47,(M.lenI_eq _).trans rfl,?_⟩
  try cbv
  refine Aa (fun e=>?_) (fun e=>?_)
  ·replace h:=AJ e h
   clear e
   try cbv
   exact AA (m1,true) [0,2,3,4,9] [] 256 ⟨by omega,h⟩ (by cbv)
  replace h:=AK (Int.not_lt.2 e) h
  clear e
  try cbv
  exact AA (m1,false) [0,2,3,4,9] [] 256 ⟨by omega,h⟩ (by cbv)
 clear h
 rintro⟨m2,b3⟩ ⟨hm2,h⟩
 try cbv
 replace hm2:m2<=m1:=hm2
 obtain _ | m2:=m2
 ·replace h:HO 0 s1 z2 b3=some r1:=h
  rw[HO]at h
  cases h
 replace h:HO (m2+1) s1 z2 b3=some r1:=h
 rw[HO]at h
 try cbv
 cases b3
 ·replace h:=Ar h
  try cbv
  refine AB ?_
  try cbv
  obtain rfl:=Option.some.inj h
  refine AF ?_
  try cbv
  exact⟨[],by trivial⟩
 replace h:=Aq h
 try cbv
 refine AB ?_
 try cbv
 refine AH 17 [0,2,3,4,17] [] 448 (fun m b=>m<=m2/\Iv m s1 z2 b=some r1) ?_ ?_
 ·try cbv
  replace h:=Ae h
  obtain⟨x4,⟨hx0,hx⟩,h⟩:=h
  refine⟨x4,hx0,hx,?_⟩
  clear hx0 hx
  replace h:=B3 h
  obtain⟨s5,rfl,h⟩:=h
  try cbv
  refine Bb (fun e=>?_) (fun e=>?_)
  ·replace h:=AJ (BC.1 e) h
   clear e
   try cbv
   exact AA (m2,true) [0,2,3,4,17] [] 448 ⟨by omega,h⟩ (by cbv)
  replace h:=AK (BI.1 e) h
  clear e
  try cbv
  exact AA (m2,false) [0,2,3,4,17] [] 448 ⟨by omega,h⟩ (by cbv)
 clear h
 rintro⟨m3,b6⟩ ⟨hm3,h⟩
 try cbv
 replace hm3:m3<=m2:=hm3
 obtain _ | m3:=m3
 ·replace h:Iv 0 s1 z2 b6=some r1:=h
  rw[Iv]at h
  cases h
 replace h:Iv (m3+1) s1 z2 b6=some r1:=h
 rw[Iv]at h
 try cbv
 cases b6
 ·replace h:=Ar h
  try cbv
  replace h:=AN h
  obtain⟨z7,hz,h⟩:=h
  refine⟨z7,hz,?_⟩
  clear hz
  try cbv
  exact An (m3,z7) [0,2,3,4] [] 128 ⟨by omega,h⟩ (Nat.lt_succ_of_le (by omega)) (by cbv)
 replace h:=Aq h
 try cbv
 refine AB ?_
 try cbv
 obtain rfl:=Option.some.inj h
 refine AF ?_
 try cbv
 exact⟨[],by trivial⟩
def YM (n:Nat) (z1:Int):Option (Bool):=
 (if (97:Int)<=z1 then (if z1<=(122:Int)then some true else (if (65:Int)<=z1 then (if z1<=(90:Int)then some true else (if (48:Int)<=z1 then (if z1<=(57:Int)then some true else (if z1=(95:Int)then some true else some false))else (if z1=(95:Int)then some true else some false)))else (if (48:Int)<=z1 then (if z1<=(57:Int)then some true else (if z1=(95:Int)then some true else some false))else (if z1=(95:Int)then some true else some false))))else (if (65:Int)<=z1 then (if z1<=(90:Int)then some true else (if (48:Int)<=z1 then (if z1<=(57:Int)then some true else (if z1=(95:Int)then some true else some false))else (if z1=(95:Int)then some true else some false)))else (if (48:Int)<=z1 then (if z1<=(57:Int)then some true else (if z1=(95:Int)then some true else some false))else (if z1=(95:Int)then some true else some false))))
theorem bW (n:Nat):∀⦃z1 r1⦄,YM n z1=some r1->
    AW Tryz.prog inv 60 [.d (.int .u8 z1)] [] (.v (.d (.bool r1))) [] []:=by
 intro z1 r1 h
 unfold YM at h
 refine AW.of Ab AO Bp Tryz.func60 rfl (by kernel_rfl) rfl rfl rfl (fun M hM hI=>?_)
 try cbv
 refine AB ?_
 try cbv
 refine AB ?_
 try cbv
 refine BJ (fun e=>?_) (fun e=>?_)
 ·replace h:=AJ e h
  clear e
  try cbv
  refine BJ (fun e=>?_) (fun e=>?_)
  ·replace h:=AJ e h
   clear e
   try cbv
   obtain rfl:=Option.some.inj h
   refine AF ?_
   try cbv
   exact⟨[],by trivial⟩
  replace h:=AK (Int.not_le.2 e) h
  clear e
  try cbv
  refine BJ (fun e=>?_) (fun e=>?_)
  ·replace h:=AJ e h
   clear e
   try cbv
   refine BJ (fun e=>?_) (fun e=>?_)
   ·replace h:=AJ e h
    clear e
    try cbv
    obtain rfl:=Option.some.inj h
    refine AF ?_
    try cbv
    exact⟨[],by trivial⟩
   replace h:=AK (Int.not_le.2 e) h
   clear e
   try cbv
   refine BJ (fun e=>?_) (fun e=>?_)
   ·replace h:=AJ e h
    clear e
    try cbv
    refine BJ (fun e=>?_) (fun e=>?_)
    ·replace h:=AJ e h
     clear e
     try cbv
     obtain rfl:=Option.some.inj h
     refine AF ?_
     try cbv
     exact⟨[],by trivial⟩
    replace h:=AK (Int.not_le.2 e) h
    clear e
    try cbv
    refine Ah (fun e=>?_) (fun e=>?_)
    ·replace h:=AJ e h
     clear e
     try cbv
     obtain rfl:=Option.some.inj h
     refine AF ?_
     try cbv
     exact⟨[],by trivial⟩
    replace h:=AK e h
    clear e
    try cbv
    obtain rfl:=Option.some.inj h
    refine AF ?_
    try cbv
    exact⟨[],by trivial⟩
   replace h:=AK (Int.not_le.2 e) h
   clear e
   try cbv
   refine Ah (fun e=>?_) (fun e=>?_)
   ·replace h:=AJ e h
    clear e
    try cbv
    obtain rfl:=Option.some.inj h
    refine AF ?_
    try cbv
    exact⟨[],by trivial⟩
   replace h:=AK e h
   clear e
   try cbv
   obtain rfl:=Option.some.inj h
   refine AF ?_
   try cbv
   exact⟨[],by trivial⟩
  replace h:=AK (Int.not_le.2 e) h
  clear e
  try cbv
  refine BJ (fun e=>?_) (fun e=>?_)
  ·replace h:=AJ e h
   clear e
   try cbv
   refine BJ (fun e=>?_) (fun e=>?_)
   ·replace h:=AJ e h
    clear e
    try cbv
    obtain rfl:=Option.some.inj h
    refine AF ?_
    try cbv
    exact⟨[],by trivial⟩
   replace h:=AK (Int.not_le.2 e) h
   clear e
   try cbv
   refine Ah (fun e=>?_) (fun e=>?_)
   ·replace h:=AJ e h
    clear e
    try cbv
    obtain rfl:=Option.some.inj h
    refine AF ?_
    try cbv
    exact⟨[],by trivial⟩
   replace h:=AK e h
   clear e
   try cbv
   obtain rfl:=Option.some.inj h
   refine AF ?_
   try cbv
   exact⟨[],by trivial⟩
  replace h:=AK (Int.not_le.2 e) h
  clear e
  try cbv
  refine Ah (fun e=>?_) (fun e=>?_)
  ·replace h:=AJ e h
   clear e
   try cbv
   obtain rfl:=Option.some.inj h
   refine AF ?_
   try cbv
   exact⟨[],by trivial⟩
  replace h:=AK e h
  clear e
  try cbv
  obtain rfl:=Option.some.inj h
  refine AF ?_
  try cbv
  exact⟨[],by trivial⟩
 replace h:=AK (Int.not_le.2 e) h
 clear e
 try cbv
 refine BJ (fun e=>?_) (fun e=>?_)
 ·replace h:=AJ e h
  clear e
  try cbv
  refine BJ (fun e=>?_) (fun e=>?_)
  ·replace h:=AJ e h
   clear e
   try cbv
   obtain rfl:=Option.some.inj h
   refine AF ?_
   try cbv
   exact⟨[],by trivial⟩
  replace h:=AK (Int.not_le.2 e) h
  clear e
  try cbv
  refine BJ (fun e=>?_) (fun e=>?_)
  ·replace h:=AJ e h
   clear e
   try cbv
   refine BJ (fun e=>?_) (fun e=>?_)
   ·replace h:=AJ e h
    clear e
    try cbv
    obtain rfl:=Option.some.inj h
    refine AF ?_
    try cbv
    exact⟨[],by trivial⟩
   replace h:=AK (Int.not_le.2 e) h
   clear e
   try cbv
   refine Ah (fun e=>?_) (fun e=>?_)
   ·replace h:=AJ e h
    clear e
    try cbv
    obtain rfl:=Option.some.inj h
    refine AF ?_
    try cbv
    exact⟨[],by trivial⟩
   replace h:=AK e h
   clear e
   try cbv
   obtain rfl:=Option.some.inj h
   refine AF ?_
   try cbv
   exact⟨[],by trivial⟩
  replace h:=AK (Int.not_le.2 e) h
  clear e
  try cbv
  refine Ah (fun e=>?_) (fun e=>?_)
  ·replace h:=AJ e h
   clear e
   try cbv
   obtain rfl:=Option.some.inj h
   refine AF ?_
   try cbv
   exact⟨[],by trivial⟩
  replace h:=AK e h
  clear e
  try cbv
  obtain rfl:=Option.some.inj h
  refine AF ?_
  try cbv
  exact⟨[],by trivial⟩
 replace h:=AK (Int.not_le.2 e) h
 clear e
 try cbv
 refine BJ (fun e=>?_) (fun e=>?_)
 ·replace h:=AJ e h
  clear e
  try cbv
  refine BJ (fun e=>?_) (fun e=>?_)
  ·replace h:=AJ e h
   clear e
   try cbv
   obtain rfl:=Option.some.inj h
   refine AF ?_
   try cbv
   exact⟨[],by trivial⟩
  replace h:=AK (Int.not_le.2 e) h
  clear e
  try cbv
  refine Ah (fun e=>?_) (fun e=>?_)
  ·replace h:=AJ e h
   clear e
   try cbv
   obtain rfl:=Option.some.inj h
   refine AF ?_
   try cbv
   exact⟨[],by trivial⟩
  replace h:=AK e h
  clear e
  try cbv
  obtain rfl:=Option.some.inj h
  refine AF ?_
  try cbv
  exact⟨[],by trivial⟩
 replace h:=AK (Int.not_le.2 e) h
 clear e
 try cbv
 refine Ah (fun e=>?_) (fun e=>?_)
 ·replace h:=AJ e h
  clear e
  try cbv
  obtain rfl:=Option.some.inj h
  refine AF ?_
  try cbv
  exact⟨[],by trivial⟩
 replace h:=AK e h
 clear e
 try cbv
 obtain rfl:=Option.some.inj h
 refine AF ?_
 try cbv
 exact⟨[],by trivial⟩
mutual
def Fl:Nat->BA->Int->Option (Bool)
 | 0,_,_=>none
 | n+1,s1,z9=>
  Jh s1 fun z10=>(if z9<z10 then HP n s1 z9 true else HP n s1 z9 false)
def HP:Nat->BA->Int->Bool->Option (Bool)
 | 0,_,_,_=>none
 | n+1,s1,z9,b11=>
  (if b11=true then NX s1 z9 fun z12=>bO1 (YM n z12) fun b13=>Ak (!b13) fun b14=>(if b14=true then some false else Al (IntKind.wrap .i64 (z9+1)) fun z15=>Fl n s1 z15)else some true)
end
def EL:Nat->BA->Bool->Option (Bool)
 | 0,_,_=>none
 | n+1,s1,b8=>
  (if b8=true then some false else Fl n s1 (0:Int))
def Ut (n:Nat) (s1:BA) (z2:Int) (z3:Int):Option (Bool):=
 (if s1=ByteArray.empty then EL n s1 true else Jh s1 fun z4=>(if (16:Int)<z4 then EL n s1 true else NX s1 (0:Int) fun z5=>(if z5<z2 then EL n s1 true else NX s1 (0:Int) fun z6=>(if z3<z6 then EL n s1 true else bO1 (Xg n s1) fun b7=>EL n s1 b7))))
theorem bE (n:Nat):∀⦃s1 z2 z3 r1⦄,Ut n s1 z2 z3=some r1->
    AW Tryz.prog inv 35 [.d (.str s1),.d (.int .u8 z2),.d (.int .u8 z3)] [] (.v (.d (.bool r1))) [] []:=by
 intro s1 z2 z3 r1 h
 unfold Ut at h
 refine AW.of Ab AO Bp Tryz.func35 rfl (by kernel_rfl) rfl rfl rfl (fun M hM hI=>?_)
 try cbv
 refine AB ?_
 try cbv
 refine AB ?_
 try cbv
 refine AH 30 [0,6,30] [] 768 (fun m b=>m<=n/\EL m s1 b=some r1) ?_ ?_
 ·try cbv
  refine Bb (fun e=>?_) (fun e=>?_)
  ·replace h:=AJ (BC.1 e) h
   clear e
   try cbv
   exact AA (n,true) [0,6,30] [] 768 ⟨by omega,h⟩ (by cbv)
  replace h:=AK (BI.1 e) h
  clear e
  try cbv
  replace h:=Bu M h
  obtain⟨z4,hz,h⟩:=h
  refine⟨z4,hz,?_⟩
  clear hz
  try cbv
  refine Aa (fun e=>?_) (fun e=>?_)
  ·replace h:=AJ e h
   clear e
   try cbv
   exact AA (n,true) [0,6,30] [] 768 ⟨by omega,h⟩ (by cbv)
  replace h:=AK (Int.not_lt.2 e) h
  clear e
  try cbv
  replace h:=Cg h
  obtain⟨z5,hz,h⟩:=h
  refine⟨z5,hz,?_⟩
  clear hz
  try cbv
  refine Aa (fun e=>?_) (fun e=>?_)
  ·replace h:=AJ e h
   clear e
   try cbv
   exact AA (n,true) [0,6,30] [] 768 ⟨by omega,h⟩ (by cbv)
  replace h:=AK (Int.not_lt.2 e) h
  clear e
  try cbv
  replace h:=Cg h
  obtain⟨z6,hz,h⟩:=h
  refine⟨z6,hz,?_⟩
  clear hz
  try cbv
  refine Aa (fun e=>?_) (fun e=>?_)
  ·replace h:=AJ e h
   clear e
   try cbv
   exact AA (n,true) [0,6,30] [] 768 ⟨by omega,h⟩ (by cbv)
  replace h:=AK (Int.not_lt.2 e) h
  clear e
  try cbv
  replace h:=AG h
  obtain⟨b7,hr,h⟩:=h
  refine AD rfl rfl ?_
  try cbv
  refine AE hM hI (bV _ hr) rfl ?_
  clear hr
  try cbv
  exact AA (n,b7) [0,6,30] [] 768 ⟨by omega,h⟩ (by cbv)
 clear h
 rintro⟨m1,b8⟩ ⟨hm1,h⟩
 try cbv
 replace hm1:m1<=n:=hm1
 obtain _ | m1:=m1
 ·replace h:EL 0 s1 b8=some r1:=h
  rw[EL]at h
  cases h
 replace h:EL (m1+1) s1 b8=some r1:=h
 rw[EL]at h
 try cbv
 cases b8
 rotate_left
 ·replace h:=Aq h
  try cbv
  refine AB ?_
  try cbv
  obtain rfl:=Option.some.inj h
  refine AF ?_
  try cbv
  exact⟨[],by trivial⟩
 replace h:=Ar h
 try cbv
 refine AB ?_
 try cbv
 refine AB ?_
 try cbv
 refine BF (T:=Nat×Int) [0,6,7] [] 800 (fun t=>⟨[sS 0 s1,sB 6 false,sI 7 t.2],[],800⟩)
   (fun t=>t.1<=m1/\Fl t.1 s1 t.2=some r1) (fun t=>t.1) (m1,(0:Int)) ⟨Nat.le_refl _,h⟩ (by cbv) ?_
 clear h
 rintro⟨m2,z9⟩ ⟨hm2,h⟩
 replace hm2:m2<=m1:=hm2
 obtain _ | m2:=m2
 ·replace h:Fl 0 s1 z9=some r1:=h
  rw[Fl]at h
  cases h
 replace h:Fl (m2+1) s1 z9=some r1:=h
 rw[Fl]at h
 try cbv
 refine AB ?_
 try cbv
 refine AH 34 [0,6,7,34] [] 928 (fun m b=>m<=m2/\HP m s1 z9 b=some r1) ?_ ?_
 ·try cbv
  replace h:=Bu M h
  obtain⟨z10,hz,h⟩:=h
  refine⟨z10,hz,?_⟩
  clear hz
  try cbv
  refine Aa (fun e=>?_) (fun e=>?_)
  ·replace h:=AJ e h
   clear e
   try cbv
   exact AA (m2,true) [0,6,7,34] [] 928 ⟨by omega,h⟩ (by cbv)
  replace h:=AK (Int.not_lt.2 e) h
  clear e
  try cbv
  exact AA (m2,false) [0,6,7,34] [] 928 ⟨by omega,h⟩ (by cbv)
 clear h
 rintro⟨m3,b11⟩ ⟨hm3,h⟩
 try cbv
 replace hm3:m3<=m2:=hm3
 obtain _ | m3:=m3
 ·replace h:HP 0 s1 z9 b11=some r1:=h
  rw[HP]at h
  cases h
 replace h:HP (m3+1) s1 z9 b11=some r1:=h
 rw[HP]at h
 try cbv
 cases b11
 ·replace h:=Ar h
  try cbv
  refine AB ?_
  try cbv
  obtain rfl:=Option.some.inj h
  refine AF ?_
  try cbv
  exact⟨[],by trivial⟩
 replace h:=Aq h
 try cbv
 refine AB ?_
 try cbv
 refine AB ?_
 try cbv
 replace h:=Cg h
 obtain⟨z12,hz,h⟩:=h
 refine⟨z12,hz,?_⟩
 clear hz
 try cbv
 replace h:=AG h
 obtain⟨b13,hr,h⟩:=h
 refine AD rfl rfl ?_
 try cbv
 refine AE hM hI (bW _ hr) rfl ?_
 clear hr
 try cbv
 replace h:=AL h
 obtain⟨b14,hz,h⟩:=h
 refine⟨b14,AU hz,?_⟩
 clear hz
 try cbv
 cases b14
 ·replace h:=Ar h
  try cbv
  replace h:=AN h
  obtain⟨z15,hz,h⟩:=h
  refine⟨z15,hz,?_⟩
  clear hz
  try cbv
  exact An (m3,z15) [0,6,7] [] 800 ⟨by omega,h⟩ (Nat.lt_succ_of_le (by omega)) (by cbv)
 replace h:=Aq h
 try cbv
 refine AB ?_
 try cbv
 obtain rfl:=Option.some.inj h
 refine AF ?_
 try cbv
 exact⟨[],by trivial⟩
def Qk (n:Nat) (s1:BA):Option (Bool):=
 bO1 (Ut n s1 (65:Int) (90:Int)) fun b2=>some b2
theorem UA (n:Nat):∀⦃s1 r1⦄,Qk n s1=some r1->
    AW Tryz.prog inv 20 [.d (.str s1)] [] (.v (.d (.bool r1))) [] []:=by
 intro s1 r1 h
 unfold Qk at h
 refine AW.of Ab AO Bp Tryz.func20 rfl (by kernel_rfl) rfl rfl rfl (fun M hM hI=>?_)
 try cbv
 refine AB ?_
 try cbv
 refine AB ?_
 try cbv
 replace h:=AG h
 obtain⟨b2,hr,h⟩:=h
 refine AD rfl rfl ?_
 try cbv
 refine AE hM hI (bE _ hr) rfl ?_
 clear hr
 try cbv
 obtain rfl:=Option.some.inj h
 refine AF ?_
 try cbv
 exact⟨[],by trivial⟩
def Rh (n:Nat) (z1:Int) (s2:BA) (l3:LD):Option (Bool):=
 (if z1=(0:Int)then (if s2=ByteArray.empty then Ad l3 fun z4=>(if z4=(0:Int)then some true else some false)else some false)else some false)
theorem Za (n:Nat):∀⦃z1 s2 l3 r1⦄,Rh n z1 s2 l3=some r1->
    AW Tryz.prog inv 29 [.d (.agg [.int .u8 z1,.str s2,.list true 3 l3])] [] (.v (.d (.bool r1))) [] []:=by
 intro z1 s2 l3 r1 h
 unfold Rh at h
 refine AW.of Ab AO Bp Tryz.func29 rfl (by kernel_rfl) rfl rfl rfl (fun M hM hI=>?_)
 try cbv
 refine AB ?_
 try cbv
 refine AB ?_
 try cbv
 refine Ah (fun e=>?_) (fun e=>?_)
 rotate_left
 ·replace h:=AK e h
  clear e
  try cbv
  obtain rfl:=Option.some.inj h
  refine AF ?_
  try cbv
  exact⟨[],by trivial⟩
 replace h:=AJ e h
 clear e
 try cbv
 refine Bb (fun e=>?_) (fun e=>?_)
 rotate_left
 ·replace h:=AK (BI.1 e) h
  clear e
  try cbv
  obtain rfl:=Option.some.inj h
  refine AF ?_
  try cbv
  exact⟨[],by trivial⟩
 replace h:=AJ (BC.1 e) h
 clear e
 try cbv
 replace h:=AP M h
 obtain⟨z4,hz,h⟩:=h
 refine⟨z4,hz,?_⟩
 clear hz
 try cbv
 refine Ah (fun e=>?_) (fun e=>?_)
 ·replace h:=AJ e h
  clear e
  try cbv
  obtain rfl:=Option.some.inj h
  refine AF ?_
  try cbv
  exact⟨[],by trivial⟩
 replace h:=AK e h
 clear e
 try cbv
 obtain rfl:=Option.some.inj h
 refine AF ?_
 try cbv
 exact⟨[],by trivial⟩
def Ri (n:Nat) (s1:BA):Option (Bool):=
 bO1 (Ut n s1 (97:Int) (122:Int)) fun b2=>some b2
theorem Uu (n:Nat):∀⦃s1 r1⦄,Ri n s1=some r1->
    AW Tryz.prog inv 30 [.d (.str s1)] [] (.v (.d (.bool r1))) [] []:=by
 intro s1 r1 h
 unfold Ri at h
 refine AW.of Ab AO Bp Tryz.func30 rfl (by kernel_rfl) rfl rfl rfl (fun M hM hI=>?_)
 try cbv
 refine AB ?_
 try cbv
 refine AB ?_
 try cbv
 replace h:=AG h
 obtain⟨b2,hr,h⟩:=h
 refine AD rfl rfl ?_
 try cbv
 refine AE hM hI (bE _ hr) rfl ?_
 clear hr
 try cbv
 obtain rfl:=Option.some.inj h
 refine AF ?_
 try cbv
 exact⟨[],by trivial⟩
def WS (n:Nat) (z1:Int) (z2:Int) (s3:BA) (s4:BA) (s5:BA) (l6:LD) (l7:LD) (z8:Int):Option (Bool):=
 (if z1=(0:Int)then (if z2=(0:Int)then (if s3=ByteArray.empty then (if s4=ByteArray.empty then (if s5=ByteArray.empty then Ad l6 fun z9=>(if z9=(0:Int)then Ad l7 fun z10=>(if z10=(0:Int)then some true else some false)else some false)else some false)else some false)else some false)else some false)else some false)
theorem bX (n:Nat):∀⦃z1 z2 s3 s4 s5 l6 l7 z8 r1⦄,WS n z1 z2 s3 s4 s5 l6 l7 z8=some r1->
    AW Tryz.prog inv 31 [.d (.agg [.int .u8 z1,.int .i64 z2,.str s3,.str s4,.str s5,.list false 1 l6,.list true 8 l7,.int .i64 z8])] [] (.v (.d (.bool r1))) [] []:=by
 intro z1 z2 s3 s4 s5 l6 l7 z8 r1 h
 unfold WS at h
 refine AW.of Ab AO Bp Tryz.func31 rfl (by kernel_rfl) rfl rfl rfl (fun M hM hI=>?_)
 try cbv
 refine AB ?_
 try cbv
 refine AB ?_
 try cbv
 refine Ah (fun e=>?_) (fun e=>?_)
 rotate_left
 ·replace h:=AK e h
  clear e
  try cbv
  obtain rfl:=Option.some.inj h
  refine AF ?_
  try cbv
  exact⟨[],by trivial⟩
 replace h:=AJ e h
 clear e
 try cbv
 refine Ah (fun e=>?_) (fun e=>?_)
 rotate_left
 ·replace h:=AK e h
  clear e
  try cbv
  obtain rfl:=Option.some.inj h
  refine AF ?_
  try cbv
  exact⟨[],by trivial⟩
 replace h:=AJ e h
 clear e
 try cbv
 refine Bb (fun e=>?_) (fun e=>?_)
 rotate_left
 ·replace h:=AK (BI.1 e) h
  clear e
  try cbv
  obtain rfl:=Option.some.inj h
  refine AF ?_
  try cbv
  exact⟨[],by trivial⟩
 replace h:=AJ (BC.1 e) h
 clear e
 try cbv
 refine Bb (fun e=>?_) (fun e=>?_)
 rotate_left
 ·replace h:=AK (BI.1 e) h
  clear e
  try cbv
  obtain rfl:=Option.some.inj h
  refine AF ?_
  try cbv
  exact⟨[],by trivial⟩
 replace h:=AJ (BC.1 e) h
 clear e
 try cbv
 refine Bb (fun e=>?_) (fun e=>?_)
 rotate_left
 ·replace h:=AK (BI.1 e) h
  clear e
  try cbv
  obtain rfl:=Option.some.inj h
  refine AF ?_
  try cbv
  exact⟨[],by trivial⟩
 replace h:=AJ (BC.1 e) h
 clear e
 try cbv
 replace h:=AP M h
 obtain⟨z9,hz,h⟩:=h
 refine⟨z9,hz,?_⟩
 clear hz
 try cbv
 refine Ah (fun e=>?_) (fun e=>?_)
 rotate_left
 ·replace h:=AK e h
  clear e
  try cbv
  obtain rfl:=Option.some.inj h
  refine AF ?_
  try cbv
  exact⟨[],by trivial⟩
 replace h:=AJ e h
 clear e
 try cbv
 replace h:=AP M h
 obtain⟨z10,hz,h⟩:=h
 refine⟨z10,hz,?_⟩
 clear hz
 try cbv
 refine Ah (fun e=>?_) (fun e=>?_)
 ·replace h:=AJ e h
  clear e
  try cbv
  obtain rfl:=Option.some.inj h
  refine AF ?_
  try cbv
  exact⟨[],by trivial⟩
 replace h:=AK e h
 clear e
 try cbv
 obtain rfl:=Option.some.inj h
 refine AF ?_
 try cbv
 exact⟨[],by trivial⟩
def XG (n:Nat) (z1:Int) (z2:Int) (s3:BA) (s4:BA) (s5:BA) (l6:LD) (l7:LD) (z8:Int):Option (Bool):=
 (if z1=(5:Int)then some true else (if z1=(6:Int)then some true else some false))
theorem Zb (n:Nat):∀⦃z1 z2 s3 s4 s5 l6 l7 z8 r1⦄,XG n z1 z2 s3 s4 s5 l6 l7 z8=some r1->
    AW Tryz.prog inv 32 [.d (.agg [.int .u8 z1,.int .i64 z2,.str s3,.str s4,.str s5,.list false 1 l6,.list true 8 l7,.int .i64 z8])] [] (.v (.d (.bool r1))) [] []:=by
 intro z1 z2 s3 s4 s5 l6 l7 z8 r1 h
 unfold XG at h
 refine AW.of Ab AO Bp Tryz.func32 rfl (by kernel_rfl) rfl rfl rfl (fun M hM hI=>?_)
 try cbv
 refine AB ?_
 try cbv
 refine AB ?_
 try cbv
 refine Ah (fun e=>?_) (fun e=>?_)
 ·replace h:=AJ e h
  clear e
  try cbv
  obtain rfl:=Option.some.inj h
  refine AF ?_
  try cbv
  exact⟨[],by trivial⟩
 replace h:=AK e h
 clear e
 try cbv
 refine Ah (fun e=>?_) (fun e=>?_)
 ·replace h:=AJ e h
  clear e
  try cbv
  obtain rfl:=Option.some.inj h
  refine AF ?_
  try cbv
  exact⟨[],by trivial⟩
 replace h:=AK e h
 clear e
 try cbv
 obtain rfl:=Option.some.inj h
 refine AF ?_
 try cbv
 exact⟨[],by trivial⟩
def Iw:Nat->Int->Bool->Option (BA)
 | 0,_,_=>none
 | n+1,z1,b3=>
  (if b3=true then some ByteArray.empty else BT ([.str ByteArray.empty,.str XA,.str XB,.str ZX,.str Ep,.str Ep,.str Ep,.str IK,.str IK,.str J0,.str J0,.str J0,.str J0,.str J0,.str J0,.str J0,.str J0,.str J0,.str XC,.str Tt,.str Tu,.str IK,.str IK,.str IK,.str Ep,.str KU,.str IK,.str IK,.str Ep,.str IK,.str IK,.str IK,.str Ep,.str KU,.str KU,.str KU,.str Ep]) z1 fun x4=>B7 x4 fun s5=>some s5)
def YN (n:Nat) (z1:Int):Option (BA):=
 Al (IntKind.wrap .i64 z1) fun z2=>(if (37:Int)<=z2 then Iw n z1 true else Iw n z1 false)
theorem bZ (n:Nat):∀⦃z1 r1⦄,YN n z1=some r1->
    AW Tryz.prog inv 53 [.d (.int .u8 z1)] [] (.v (.d (.str r1))) [] []:=by
 intro z1 r1 h
 unfold YN at h
 refine AW.of Ab AO Bp Tryz.func53 rfl (by kernel_rfl) rfl rfl rfl (fun M hM hI=>?_)
 try cbv
 refine AB ?_
 try cbv
 refine AB ?_
 try cbv
 refine⟨false,?_⟩
 try cbv
 refine⟨true,?_⟩
 try cbv
 refine AB ?_
 try cbv
 refine AH 9 [0,2,3,9] [] 256 (fun m b=>m<=n/\Iw m z1 b=some r1) ?_ ?_
 ·try cbv
  replace h:=AN h
  obtain⟨z2,hz,h⟩:=h
  refine⟨z2,hz,?_⟩
  clear hz
  try cbv
  refine⟨37,(M.lenI_eq _).trans rfl,?_⟩
  try cbv
  refine BJ (fun e=>?_) (fun e=>?_)
  ·replace h:=AJ e h
   clear e
   try cbv
   exact AA (n,true) [0,2,3,9] [] 256 ⟨by omega,h⟩ (by cbv)
  replace h:=AK (Int.not_le.2 e) h
  clear e
  try cbv
  exact AA (n,false) [0,2,3,9] [] 256 ⟨by omega,h⟩ (by cbv)
 clear h
 rintro⟨m1,b3⟩ ⟨hm1,h⟩
 try cbv
 replace hm1:m1<=n:=hm1
 obtain _ | m1:=m1
 ·replace h:Iw 0 z1 b3=some r1:=h
  rw[Iw]at h
  cases h
 replace h:Iw (m1+1) z1 b3=some r1:=h
 rw[Iw]at h
 try cbv
 cases b3
 ·replace h:=Ar h
  try cbv
  refine AB ?_
  try cbv
  replace h:=Ae h
  obtain⟨x4,⟨hx0,hx⟩,h⟩:=h
  refine⟨x4,hx0,hx,?_⟩
  clear hx0 hx
  replace h:=B3 h
  obtain⟨s5,rfl,h⟩:=h
  try cbv
  obtain rfl:=Option.some.inj h
  refine AF ?_
  try cbv
  exact⟨[],by trivial⟩
 replace h:=Aq h
 try cbv
 refine AB ?_
 try cbv
 obtain rfl:=Option.some.inj h
 refine AF ?_
 try cbv
 exact⟨[],by trivial⟩
def Ix:Nat->BA->Int->Bool->Option (Bool)
 | 0,_,_,_=>none
 | n+1,s1,z2,b7=>
  (if b7=true then (if z2<=(1:Int)then some true else some false)else Jh s1 fun z8=>Al (IntKind.wrap .i64 (z8 - 1)) fun z9=>NX s1 z9 fun z10=>Al (IntKind.wrap .u8 (z10 - 48)) fun z11=>Al (IntKind.wrap .i64 z11) fun z12=>(if z2=z12 then some true else some false))
def Iy:Nat->BA->Int->Int->Bool->Option (Bool)
 | 0,_,_,_,_=>none
 | n+1,s1,z2,z5,b6=>
  (if b6=true then (if z2<=(6:Int)then some true else some false)else (if z5=(57:Int)then Ix n s1 z2 true else Ix n s1 z2 false))
def YO (n:Nat) (s1:BA) (z2:Int):Option (Bool):=
 Jh s1 fun z3=>Al (IntKind.wrap .i64 (z3 - 1)) fun z4=>NX s1 z4 fun z5=>(if z5=(54:Int)then Iy n s1 z2 z5 true else Iy n s1 z2 z5 false)
theorem cA (n:Nat):∀⦃s1 z2 r1⦄,YO n s1 z2=some r1->
    AW Tryz.prog inv 54 [.d (.str s1),.d (.int .i64 z2)] [] (.v (.d (.bool r1))) [] []:=by
 intro s1 z2 r1 h
 unfold YO at h
 refine AW.of Ab AO Bp Tryz.func54 rfl (by kernel_rfl) rfl rfl rfl (fun M hM hI=>?_)
 try cbv
 refine AB ?_
 try cbv
 refine AB ?_
 try cbv
 refine AB ?_
 try cbv
 replace h:=Bu M h
 obtain⟨z3,hz,h⟩:=h
 refine⟨z3,hz,?_⟩
 clear hz
 try cbv
 replace h:=AN h
 obtain⟨z4,hz,h⟩:=h
 refine⟨z4,hz,?_⟩
 clear hz
 try cbv
 replace h:=Cg h
 obtain⟨z5,hz,h⟩:=h
 refine⟨z5,hz,?_⟩
 clear hz
 try cbv
 refine AH 10 [0,1,4,9,10] [] 256 (fun m b=>m<=n/\Iy m s1 z2 z5 b=some r1) ?_ ?_
 ·try cbv
  refine Ah (fun e=>?_) (fun e=>?_)
  ·replace h:=AJ e h
   clear e
   try cbv
   exact AA (n,true) [0,1,4,9,10] [] 256 ⟨by omega,h⟩ (by cbv)
  replace h:=AK e h
  clear e
  try cbv
  exact AA (n,false) [0,1,4,9,10] [] 256 ⟨by omega,h⟩ (by cbv)
 clear h
 rintro⟨m1,b6⟩ ⟨hm1,h⟩
 try cbv
 replace hm1:m1<=n:=hm1
 obtain _ | m1:=m1
 ·replace h:Iy 0 s1 z2 z5 b6=some r1:=h
  rw[Iy]at h
  cases h
 replace h:Iy (m1+1) s1 z2 z5 b6=some r1:=h
 rw[Iy]at h
 try cbv
 cases b6
 rotate_left
 ·replace h:=Aq h
  try cbv
  refine AB ?_
  try cbv
  refine BJ (fun e=>?_) (fun e=>?_)
  ·replace h:=AJ e h
   clear e
   try cbv
   obtain rfl:=Option.some.inj h
   refine AF ?_
   try cbv
   exact⟨[],by trivial⟩
  replace h:=AK (Int.not_le.2 e) h
  clear e
  try cbv
  obtain rfl:=Option.some.inj h
  refine AF ?_
  try cbv
  exact⟨[],by trivial⟩
 replace h:=Ar h
 try cbv
 refine AH 14 [0,1,4,14] [] 320 (fun m b=>m<=m1/\Ix m s1 z2 b=some r1) ?_ ?_
 ·try cbv
  refine Ah (fun e=>?_) (fun e=>?_)
  ·replace h:=AJ e h
   clear e
   try cbv
   exact AA (m1,true) [0,1,4,14] [] 320 ⟨by omega,h⟩ (by cbv)
  replace h:=AK e h
  clear e
  try cbv
  exact AA (m1,false) [0,1,4,14] [] 320 ⟨by omega,h⟩ (by cbv)
 clear h
 rintro⟨m2,b7⟩ ⟨hm2,h⟩
 try cbv
 replace hm2:m2<=m1:=hm2
 obtain _ | m2:=m2
 ·replace h:Ix 0 s1 z2 b7=some r1:=h
  rw[Ix]at h
  cases h
 replace h:Ix (m2+1) s1 z2 b7=some r1:=h
 rw[Ix]at h
 try cbv
 cases b7
 rotate_left
 ·replace h:=Aq h
  try cbv
  refine AB ?_
  try cbv
  refine BJ (fun e=>?_) (fun e=>?_)
  ·replace h:=AJ e h
   clear e
   try cbv
   obtain rfl:=Option.some.inj h
   refine AF ?_
   try cbv
   exact⟨[],by trivial⟩
  replace h:=AK (Int.not_le.2 e) h
  clear e
  try cbv
  obtain rfl:=Option.some.inj h
  refine AF ?_
  try cbv
  exact⟨[],by trivial⟩
 replace h:=Ar h
 try cbv
 refine AB ?_
 try cbv
 replace h:=Bu M h
 obtain⟨z8,hz,h⟩:=h
 refine⟨z8,hz,?_⟩
 clear hz
 try cbv
 replace h:=AN h
 obtain⟨z9,hz,h⟩:=h
 refine⟨z9,hz,?_⟩
 clear hz
 try cbv
 replace h:=Cg h
 obtain⟨z10,hz,h⟩:=h
 refine⟨z10,hz,?_⟩
 clear hz
 try cbv
 replace h:=AN h
 obtain⟨z11,hz,h⟩:=h
 refine⟨z11,hz,?_⟩
 clear hz
 try cbv
 replace h:=AN h
 obtain⟨z12,hz,h⟩:=h
 refine⟨z12,hz,?_⟩
 clear hz
 try cbv
 refine Ah (fun e=>?_) (fun e=>?_)
 ·replace h:=AJ e h
  clear e
  try cbv
  obtain rfl:=Option.some.inj h
  refine AF ?_
  try cbv
  exact⟨[],by trivial⟩
 replace h:=AK e h
 clear e
 try cbv
 obtain rfl:=Option.some.inj h
 refine AF ?_
 try cbv
 exact⟨[],by trivial⟩
mutual
def HQ:Nat->BA->Int->Int->Option (Bool)
 | 0,_,_,_=>none
 | n+1,s1,z2,z3=>
  Jh s1 fun z4=>(if z3<z4 then Iz n s1 z2 z3 true else Iz n s1 z2 z3 false)
def Iz:Nat->BA->Int->Int->Bool->Option (Bool)
 | 0,_,_,_,_=>none
 | n+1,s1,z2,z3,b5=>
  (if b5=true then NX s1 z3 fun z6=>(if z6=z2 then I0 n s1 z2 z3 true else I0 n s1 z2 z3 false)else some false)
def I0:Nat->BA->Int->Int->Bool->Option (Bool)
 | 0,_,_,_,_=>none
 | n+1,s1,z2,z3,b7=>
  (if b7=true then some true else Al (IntKind.wrap .i64 (z3+1)) fun z8=>HQ n s1 z2 z8)
end
def DX (n:Nat) (s1:BA) (z2:Int):Option (Bool):=
 HQ n s1 z2 (0:Int)
theorem Dp (n:Nat):∀⦃s1 z2 r1⦄,DX n s1 z2=some r1->
    AW Tryz.prog inv 55 [.d (.str s1),.d (.int .u8 z2)] [] (.v (.d (.bool r1))) [] []:=by
 intro s1 z2 r1 h
 unfold DX at h
 refine AW.of Ab AO Bp Tryz.func55 rfl (by kernel_rfl) rfl rfl rfl (fun M hM hI=>?_)
 try cbv
 refine AB ?_
 try cbv
 refine AB ?_
 try cbv
 refine AB ?_
 try cbv
 refine BF (T:=Nat×Int) [0,1,4,5] [] 64 (fun t=>⟨[sS 0 s1,sU 1 z2,sB 4 false,sI 5 t.2],[],64⟩)
   (fun t=>t.1<=n/\HQ t.1 s1 z2 t.2=some r1) (fun t=>t.1) (n,(0:Int)) ⟨Nat.le_refl _,h⟩ (by cbv) ?_
 clear h
 rintro⟨m1,z3⟩ ⟨hm1,h⟩
 replace hm1:m1<=n:=hm1
 obtain _ | m1:=m1
 ·replace h:HQ 0 s1 z2 z3=some r1:=h
  rw[HQ]at h
  cases h
 replace h:HQ (m1+1) s1 z2 z3=some r1:=h
 rw[HQ]at h
 try cbv
 refine AB ?_
 try cbv
 refine AH 9 [0,1,4,5,9] [] 192 (fun m b=>m<=m1/\Iz m s1 z2 z3 b=some r1) ?_ ?_
 ·try cbv
  replace h:=Bu M h
  obtain⟨z4,hz,h⟩:=h
  refine⟨z4,hz,?_⟩
  clear hz
  try cbv
  refine Aa (fun e=>?_) (fun e=>?_)
  ·replace h:=AJ e h
   clear e
   try cbv
   exact AA (m1,true) [0,1,4,5,9] [] 192 ⟨by omega,h⟩ (by cbv)
  replace h:=AK (Int.not_lt.2 e) h
  clear e
  try cbv
  exact AA (m1,false) [0,1,4,5,9] [] 192 ⟨by omega,h⟩ (by cbv)
 clear h
 rintro⟨m2,b5⟩ ⟨hm2,h⟩
 try cbv
 replace hm2:m2<=m1:=hm2
 obtain _ | m2:=m2
 ·replace h:Iz 0 s1 z2 z3 b5=some r1:=h
  rw[Iz]at h
  cases h
 replace h:Iz (m2+1) s1 z2 z3 b5=some r1:=h
 rw[Iz]at h
 try cbv
 cases b5
 ·replace h:=Ar h
  try cbv
  refine AB ?_
  try cbv
  obtain rfl:=Option.some.inj h
  refine AF ?_
  try cbv
  exact⟨[],by trivial⟩
 replace h:=Aq h
 try cbv
 refine AB ?_
 try cbv
 refine AH 16 [0,1,4,5,16] [] 352 (fun m b=>m<=m2/\I0 m s1 z2 z3 b=some r1) ?_ ?_
 ·try cbv
  replace h:=Cg h
  obtain⟨z6,hz,h⟩:=h
  refine⟨z6,hz,?_⟩
  clear hz
  try cbv
  refine Ah (fun e=>?_) (fun e=>?_)
  ·replace h:=AJ e h
   clear e
   try cbv
   exact AA (m2,true) [0,1,4,5,16] [] 352 ⟨by omega,h⟩ (by cbv)
  replace h:=AK e h
  clear e
  try cbv
  exact AA (m2,false) [0,1,4,5,16] [] 352 ⟨by omega,h⟩ (by cbv)
 clear h
 rintro⟨m3,b7⟩ ⟨hm3,h⟩
 try cbv
 replace hm3:m3<=m2:=hm3
 obtain _ | m3:=m3
 ·replace h:I0 0 s1 z2 z3 b7=some r1:=h
  rw[I0]at h
  cases h
 replace h:I0 (m3+1) s1 z2 z3 b7=some r1:=h
 rw[I0]at h
 try cbv
 cases b7
 ·replace h:=Ar h
  try cbv
  replace h:=AN h
  obtain⟨z8,hz,h⟩:=h
  refine⟨z8,hz,?_⟩
  clear hz
  try cbv
  exact An (m3,z8) [0,1,4,5] [] 64 ⟨by omega,h⟩ (Nat.lt_succ_of_le (by omega)) (by cbv)
 replace h:=Aq h
 try cbv
 refine AB ?_
 try cbv
 obtain rfl:=Option.some.inj h
 refine AF ?_
 try cbv
 exact⟨[],by trivial⟩
mutual
def HR:Nat->LD->Int->Option (Bool)
 | 0,_,_=>none
 | n+1,l2,z7=>
  Ad l2 fun z8=>(if z7<z8 then I1 n l2 z7 true else I1 n l2 z7 false)
def I1:Nat->LD->Int->Bool->Option (Bool)
 | 0,_,_,_=>none
 | n+1,l2,z7,b9=>
  (if b9=true then BT l2 z7 fun x10=>B7 x10 fun s11=>(if s11=YL then I2 n l2 z7 false else BT l2 z7 fun x12=>B7 x12 fun s13=>bO1 (Ri n s13) fun b14=>Ak (!b14) fun b15=>I2 n l2 z7 b15)else some true)
def I2:Nat->LD->Int->Bool->Option (Bool)
 | 0,_,_,_=>none
 | n+1,l2,z7,b16=>
  (if b16=true then some false else Al (IntKind.wrap .i64 (z7+1)) fun z17=>HR n l2 z17)
end
def HS:Nat->LD->Bool->Option (Bool)
 | 0,_,_=>none
 | n+1,l2,b6=>
  (if b6=true then some false else HR n l2 (0:Int))
def Xh (n:Nat) (s1:BA) (l2:LD):Option (Bool):=
 bO1 (Ri n s1) fun b3=>Ak (!b3) fun b4=>(if b4=true then HS n l2 true else Ad l2 fun z5=>(if (40:Int)<z5 then HS n l2 true else HS n l2 false))
theorem bF (n:Nat):∀⦃s1 l2 r1⦄,Xh n s1 l2=some r1->
    AW Tryz.prog inv 56 [.d (.agg [.str s1,.list false 1 l2])] [] (.v (.d (.bool r1))) [] []:=by
 intro s1 l2 r1 h
 unfold Xh at h
 refine AW.of Ab AO Bp Tryz.func56 rfl (by kernel_rfl) rfl rfl rfl (fun M hM hI=>?_)
 try cbv
 refine AB ?_
 try cbv
 refine AB ?_
 try cbv
 refine AH 13 [1,2,13] [.loc 0] 384 (fun m b=>m<=n/\HS m l2 b=some r1) ?_ ?_
 ·try cbv
  replace h:=AG h
  obtain⟨b3,hr,h⟩:=h
  refine AD rfl rfl ?_
  try cbv
  refine AE hM hI (Uu _ hr) rfl ?_
  clear hr
  try cbv
  replace h:=AL h
  obtain⟨b4,hz,h⟩:=h
  refine⟨b4,AU hz,?_⟩
  clear hz
  try cbv
  cases b4
  rotate_left
  ·replace h:=Aq h
   try cbv
   exact AA (n,true) [1,2,13] [.loc 0] 384 ⟨by omega,h⟩ (by cbv)
  replace h:=Ar h
  try cbv
  replace h:=AP M h
  obtain⟨z5,hz,h⟩:=h
  refine⟨z5,hz,?_⟩
  clear hz
  try cbv
  refine Aa (fun e=>?_) (fun e=>?_)
  ·replace h:=AJ e h
   clear e
   try cbv
   exact AA (n,true) [1,2,13] [.loc 0] 384 ⟨by omega,h⟩ (by cbv)
  replace h:=AK (Int.not_lt.2 e) h
  clear e
  try cbv
  exact AA (n,false) [1,2,13] [.loc 0] 384 ⟨by omega,h⟩ (by cbv)
 clear h
 rintro⟨m1,b6⟩ ⟨hm1,h⟩
 try cbv
 replace hm1:m1<=n:=hm1
 obtain _ | m1:=m1
 ·replace h:HS 0 l2 b6=some r1:=h
  rw[HS]at h
  cases h
 replace h:HS (m1+1) l2 b6=some r1:=h
 rw[HS]at h
 try cbv
 cases b6
 rotate_left
 ·replace h:=Aq h
  try cbv
  refine AB ?_
  try cbv
  obtain rfl:=Option.some.inj h
  refine AF ?_
  try cbv
  exact⟨[],by trivial⟩
 replace h:=Ar h
 try cbv
 refine AB ?_
 try cbv
 refine AB ?_
 try cbv
 refine BF (T:=Nat×Int) [1,2,3] [.loc 0] 416 (fun t=>⟨[sL 1 0,sB 2 false,sI 3 t.2],[(.loc 0,.cells [.d (.str s1),.d (.list false 1 l2)])],416⟩)
   (fun t=>t.1<=m1/\HR t.1 l2 t.2=some r1) (fun t=>t.1) (m1,(0:Int)) ⟨Nat.le_refl _,h⟩ (by cbv) ?_
 clear h
 rintro⟨m2,z7⟩ ⟨hm2,h⟩
 replace hm2:m2<=m1:=hm2
 obtain _ | m2:=m2
 ·replace h:HR 0 l2 z7=some r1:=h
  rw[HR]at h
  cases h
 replace h:HR (m2+1) l2 z7=some r1:=h
 rw[HR]at h
 try cbv
 refine AB ?_
 try cbv
 refine AH 18 [1,2,3,18] [.loc 0] 576 (fun m b=>m<=m2/\I1 m l2 z7 b=some r1) ?_ ?_
 ·try cbv
  replace h:=AP M h
  obtain⟨z8,hz,h⟩:=h
  refine⟨z8,hz,?_⟩
  clear hz
  try cbv
  refine Aa (fun e=>?_) (fun e=>?_)
  ·replace h:=AJ e h
   clear e
   try cbv
   exact AA (m2,true) [1,2,3,18] [.loc 0] 576 ⟨by omega,h⟩ (by cbv)
  replace h:=AK (Int.not_lt.2 e) h
  clear e
  try cbv
  exact AA (m2,false) [1,2,3,18] [.loc 0] 576 ⟨by omega,h⟩ (by cbv)
 clear h
 rintro⟨m3,b9⟩ ⟨hm3,h⟩
 try cbv
 replace hm3:m3<=m2:=hm3
 obtain _ | m3:=m3
 ·replace h:I1 0 l2 z7 b9=some r1:=h
  rw[I1]at h
  cases h
 replace h:I1 (m3+1) l2 z7 b9=some r1:=h
 rw[I1]at h
 try cbv
 cases b9
 ·replace h:=Ar h
  try cbv
  refine AB ?_
  try cbv
  obtain rfl:=Option.some.inj h
  refine AF ?_
  try cbv
  exact⟨[],by trivial⟩
 replace h:=Aq h
 try cbv
 refine AB ?_
 try cbv
 refine AH 35 [1,2,3,35] [.loc 0] 1056 (fun m b=>m<=m3/\I2 m l2 z7 b=some r1) ?_ ?_
 ·try cbv
  replace h:=Ae h
  obtain⟨x10,⟨hx0,hx⟩,h⟩:=h
  refine⟨x10,hx0,hx,?_⟩
  clear hx0 hx
  replace h:=B3 h
  obtain⟨s11,rfl,h⟩:=h
  try cbv
  refine Bb (fun e=>?_) (fun e=>?_)
  ·replace h:=AJ (BC.1 e) h
   clear e
   try cbv
   exact AA (m3,false) [1,2,3,35] [.loc 0] 1056 ⟨by omega,h⟩ (by cbv)
  replace h:=AK (BI.1 e) h
  clear e
  try cbv
  replace h:=Ae h
  obtain⟨x12,⟨hx0,hx⟩,h⟩:=h
  refine⟨x12,hx0,hx,?_⟩
  clear hx0 hx
  replace h:=B3 h
  obtain⟨s13,rfl,h⟩:=h
  try cbv
  replace h:=AG h
  obtain⟨b14,hr,h⟩:=h
  refine AD rfl rfl ?_
  try cbv
  refine AE hM hI (Uu _ hr) rfl ?_
  clear hr
  try cbv
  replace h:=AL h
  obtain⟨b15,hz,h⟩:=h
  refine⟨b15,AU hz,?_⟩
  clear hz
  try cbv
  exact AA (m3,b15) [1,2,3,35] [.loc 0] 1056 ⟨by omega,h⟩ (by cbv)
 clear h
 rintro⟨m4,b16⟩ ⟨hm4,h⟩
 try cbv
 replace hm4:m4<=m3:=hm4
 obtain _ | m4:=m4
 ·replace h:I2 0 l2 z7 b16=some r1:=h
  rw[I2]at h
  cases h
 replace h:I2 (m4+1) l2 z7 b16=some r1:=h
 rw[I2]at h
 try cbv
 cases b16
 ·replace h:=Ar h
  try cbv
  replace h:=AN h
  obtain⟨z17,hz,h⟩:=h
  refine⟨z17,hz,?_⟩
  clear hz
  try cbv
  exact An (m4,z17) [1,2,3] [.loc 0] 416 ⟨by omega,h⟩ (Nat.lt_succ_of_le (by omega)) (by cbv)
 replace h:=Aq h
 try cbv
 refine AB ?_
 try cbv
 obtain rfl:=Option.some.inj h
 refine AF ?_
 try cbv
 exact⟨[],by trivial⟩
mutual
def HT:Nat->LD->Int->Option (Bool)
 | 0,_,_=>none
 | n+1,l6,z12=>
  Ad l6 fun z13=>(if z12<z13 then I3 n l6 z12 true else I3 n l6 z12 false)
def I3:Nat->LD->Int->Bool->Option (Bool)
 | 0,_,_,_=>none
 | n+1,l6,z12,b14=>
  (if b14=true then BT l6 z12 fun x15=>B7 x15 fun s16=>bO1 (Ri n s16) fun b17=>Ak (!b17) fun b18=>(if b18=true then some false else Al (IntKind.wrap .i64 (z12+1)) fun z19=>HT n l6 z19)else some true)
end
def HU:Nat->LD->Bool->Option (Bool)
 | 0,_,_=>none
 | n+1,l6,b11=>
  (if b11=true then some false else HT n l6 (0:Int))
def YP (n:Nat) (z1:Int) (z2:Int) (s3:BA) (s4:BA) (s5:BA) (l6:LD) (l7:LD) (z8:Int):Option (Bool):=
 (if s5=ByteArray.empty then Ad l6 fun z9=>Ad l7 fun z10=>(if z9=z10 then HU n l6 false else HU n l6 true)else HU n l6 true)
theorem cB (n:Nat):∀⦃z1 z2 s3 s4 s5 l6 l7 z8 r1⦄,YP n z1 z2 s3 s4 s5 l6 l7 z8=some r1->
    AW Tryz.prog inv 57 [.d (.agg [.int .u8 z1,.int .i64 z2,.str s3,.str s4,.str s5,.list false 1 l6,.list true 8 l7,.int .i64 z8])] [] (.v (.d (.bool r1))) [] []:=by
 intro z1 z2 s3 s4 s5 l6 l7 z8 r1 h
 unfold YP at h
 refine AW.of Ab AO Bp Tryz.func57 rfl (by kernel_rfl) rfl rfl rfl (fun M hM hI=>?_)
 try cbv
 refine AB ?_
 try cbv
 refine AB ?_
 try cbv
 refine AH 17 [1,2,17] [.loc 0] 512 (fun m b=>m<=n/\HU m l6 b=some r1) ?_ ?_
 ·try cbv
  refine Bb (fun e=>?_) (fun e=>?_)
  rotate_left
  ·replace h:=AK (BI.1 e) h
   clear e
   try cbv
   exact AA (n,true) [1,2,17] [.loc 0] 512 ⟨by omega,h⟩ (by cbv)
  replace h:=AJ (BC.1 e) h
  clear e
  try cbv
  replace h:=AP M h
  obtain⟨z9,hz,h⟩:=h
  refine⟨z9,hz,?_⟩
  clear hz
  try cbv
  replace h:=AP M h
  obtain⟨z10,hz,h⟩:=h
  refine⟨z10,hz,?_⟩
  clear hz
  try cbv
  refine Ah (fun e=>?_) (fun e=>?_)
  ·replace h:=AJ e h
   clear e
   try cbv
   exact AA (n,false) [1,2,17] [.loc 0] 512 ⟨by omega,h⟩ (by cbv)
  replace h:=AK e h
  clear e
  try cbv
  exact AA (n,true) [1,2,17] [.loc 0] 512 ⟨by omega,h⟩ (by cbv)
 clear h
 rintro⟨m1,b11⟩ ⟨hm1,h⟩
 try cbv
 replace hm1:m1<=n:=hm1
 obtain _ | m1:=m1
 ·replace h:HU 0 l6 b11=some r1:=h
  rw[HU]at h
  cases h
 replace h:HU (m1+1) l6 b11=some r1:=h
 rw[HU]at h
 try cbv
 cases b11
 rotate_left
 ·replace h:=Aq h
  try cbv
  refine AB ?_
  try cbv
  obtain rfl:=Option.some.inj h
  refine AF ?_
  try cbv
  exact⟨[],by trivial⟩
 replace h:=Ar h
 try cbv
 refine AB ?_
 try cbv
 refine AB ?_
 try cbv
 refine BF (T:=Nat×Int) [1,2,3] [.loc 0] 544 (fun t=>⟨[sL 1 0,sB 2 false,sI 3 t.2],[(.loc 0,.cells [.d (.int .u8 z1),.d (.int .i64 z2),.d (.str s3),.d (.str s4),.d (.str s5),.d (.list false 1 l6),.d (.list true 8 l7),.d (.int .i64 z8)])],544⟩)
   (fun t=>t.1<=m1/\HT t.1 l6 t.2=some r1) (fun t=>t.1) (m1,(0:Int)) ⟨Nat.le_refl _,h⟩ (by cbv) ?_
 clear h
 rintro⟨m2,z12⟩ ⟨hm2,h⟩
 replace hm2:m2<=m1:=hm2
 obtain _ | m2:=m2
 ·replace h:HT 0 l6 z12=some r1:=h
  rw[HT]at h
  cases h
 replace h:HT (m2+1) l6 z12=some r1:=h
 rw[HT]at h
 try cbv
 refine AB ?_
 try cbv
 refine AH 23 [1,2,3,23] [.loc 0] 736 (fun m b=>m<=m2/\I3 m l6 z12 b=some r1) ?_ ?_
 ·try cbv
  replace h:=AP M h
  obtain⟨z13,hz,h⟩:=h
  refine⟨z13,hz,?_⟩
  clear hz
  try cbv
  refine Aa (fun e=>?_) (fun e=>?_)
  ·replace h:=AJ e h
   clear e
   try cbv
   exact AA (m2,true) [1,2,3,23] [.loc 0] 736 ⟨by omega,h⟩ (by cbv)
  replace h:=AK (Int.not_lt.2 e) h
  clear e
  try cbv
  exact AA (m2,false) [1,2,3,23] [.loc 0] 736 ⟨by omega,h⟩ (by cbv)
 clear h
 rintro⟨m3,b14⟩ ⟨hm3,h⟩
 try cbv
 replace hm3:m3<=m2:=hm3
 obtain _ | m3:=m3
 ·replace h:I3 0 l6 z12 b14=some r1:=h
  rw[I3]at h
  cases h
 replace h:I3 (m3+1) l6 z12 b14=some r1:=h
 rw[I3]at h
 try cbv
 cases b14
 ·replace h:=Ar h
  try cbv
  refine AB ?_
  try cbv
  obtain rfl:=Option.some.inj h
  refine AF ?_
  try cbv
  exact⟨[],by trivial⟩
 replace h:=Aq h
 try cbv
 refine AB ?_
 try cbv
 refine AB ?_
 try cbv
 replace h:=Ae h
 obtain⟨x15,⟨hx0,hx⟩,h⟩:=h
 refine⟨x15,hx0,hx,?_⟩
 clear hx0 hx
 replace h:=B3 h
 obtain⟨s16,rfl,h⟩:=h
 try cbv
 replace h:=AG h
 obtain⟨b17,hr,h⟩:=h
 refine AD rfl rfl ?_
 try cbv
 refine AE hM hI (Uu _ hr) rfl ?_
 clear hr
 try cbv
 replace h:=AL h
 obtain⟨b18,hz,h⟩:=h
 refine⟨b18,AU hz,?_⟩
 clear hz
 try cbv
 cases b18
 ·replace h:=Ar h
  try cbv
  replace h:=AN h
  obtain⟨z19,hz,h⟩:=h
  refine⟨z19,hz,?_⟩
  clear hz
  try cbv
  exact An (m3,z19) [1,2,3] [.loc 0] 544 ⟨by omega,h⟩ (Nat.lt_succ_of_le (by omega)) (by cbv)
 replace h:=Aq h
 try cbv
 refine AB ?_
 try cbv
 obtain rfl:=Option.some.inj h
 refine AF ?_
 try cbv
 exact⟨[],by trivial⟩
mutual
def HV:Nat->Int->Int->BA->BA->BA->LD->LD->Int->Int->BA->Bool->Option (Bool)
 | 0,_,_,_,_,_,_,_,_,_,_,_=>none
 | n+1,z1,z2,s3,s4,s5,l6,l7,z8,z9,s10,b14=>
  (if b14=true then some false else bO1 (DX n s10 (105:Int)) fun b15=>(if b15=true then (if z2<(0:Int)then I4 n z1 z2 s3 s4 s5 l6 l7 z8 z9 s10 true else I4 n z1 z2 s3 s4 s5 l6 l7 z8 z9 s10 false)else bO1 (DX n s10 (98:Int)) fun b17=>(if b17=true then (if z2=(0:Int)then HW n z1 z2 s3 s4 s5 l6 l7 z8 z9 s10 false else (if z2=(1:Int)then HW n z1 z2 s3 s4 s5 l6 l7 z8 z9 s10 false else HW n z1 z2 s3 s4 s5 l6 l7 z8 z9 s10 true))else (if z2=(0:Int)then I5 n z1 z2 s3 s4 s5 l6 l7 z8 z9 s10 false else I5 n z1 z2 s3 s4 s5 l6 l7 z8 z9 s10 true))))
def I4:Nat->Int->Int->BA->BA->BA->LD->LD->Int->Int->BA->Bool->Option (Bool)
 | 0,_,_,_,_,_,_,_,_,_,_,_=>none
 | n+1,z1,z2,s3,s4,s5,l6,l7,z8,z9,s10,b16=>
  (if b16=true then some false else HX n z1 z2 s3 s4 s5 l6 l7 z8 z9 s10)
def HW:Nat->Int->Int->BA->BA->BA->LD->LD->Int->Int->BA->Bool->Option (Bool)
 | 0,_,_,_,_,_,_,_,_,_,_,_=>none
 | n+1,z1,z2,s3,s4,s5,l6,l7,z8,z9,s10,b18=>
  (if b18=true then some false else HX n z1 z2 s3 s4 s5 l6 l7 z8 z9 s10)
def I5:Nat->Int->Int->BA->BA->BA->LD->LD->Int->Int->BA->Bool->Option (Bool)
 | 0,_,_,_,_,_,_,_,_,_,_,_=>none
 | n+1,z1,z2,s3,s4,s5,l6,l7,z8,z9,s10,b19=>
  (if b19=true then some false else HX n z1 z2 s3 s4 s5 l6 l7 z8 z9 s10)
def HX:Nat->Int->Int->BA->BA->BA->LD->LD->Int->Int->BA->Option (Bool)
 | 0,_,_,_,_,_,_,_,_,_,_=>none
 | n+1,z1,z2,s3,s4,s5,l6,l7,z8,z9,s10=>
  bO1 (DX n s10 (112:Int)) fun b20=>(if b20=true then bO1 (Xh n s5 l6) fun b21=>Ak (!b21) fun b22=>(if b22=true then some false else HZ n z1 s3 s4 l7 z9 s10)else bO1 (DX n s10 (102:Int)) fun b23=>(if b23=true then bO1 (YP n z1 z2 s3 s4 s5 l6 l7 z8) fun b24=>Ak (!b24) fun b25=>(if b25=true then some false else HZ n z1 s3 s4 l7 z9 s10)else (if s5=ByteArray.empty then Ad l6 fun z26=>(if (0:Int)<z26 then HY n z1 s3 s4 l7 z9 s10 true else HY n z1 s3 s4 l7 z9 s10 false)else HY n z1 s3 s4 l7 z9 s10 true)))
def HY:Nat->Int->BA->BA->LD->Int->BA->Bool->Option (Bool)
 | 0,_,_,_,_,_,_,_=>none
 | n+1,z1,s3,s4,l7,z9,s10,b27=>
  (if b27=true then some false else HZ n z1 s3 s4 l7 z9 s10)
def HZ:Nat->Int->BA->BA->LD->Int->BA->Option (Bool)
 | 0,_,_,_,_,_,_=>none
 | n+1,z1,s3,s4,l7,z9,s10=>
  bO1 (DX n s10 (110:Int)) fun b28=>(if b28=true then bO1 (Ri n s3) fun b29=>Ak (!b29) fun b30=>(if b30=true then CJ n z1 s4 l7 z9 s10 true else bO1 (DX n s10 (116:Int)) fun b31=>(if b31=true then bO1 (Qk n s3) fun b32=>Ak (!b32) fun b33=>(if b33=true then CJ n z1 s4 l7 z9 s10 true else bO1 (DX n s10 (110:Int)) fun b34=>Ak (!b34) fun b35=>(if b35=true then bO1 (DX n s10 (116:Int)) fun b36=>Ak (!b36) fun b37=>(if b37=true then (if s3=ByteArray.empty then CJ n z1 s4 l7 z9 s10 false else CJ n z1 s4 l7 z9 s10 true)else CJ n z1 s4 l7 z9 s10 false)else CJ n z1 s4 l7 z9 s10 false))else bO1 (DX n s10 (110:Int)) fun b38=>Ak (!b38) fun b39=>(if b39=true then bO1 (DX n s10 (116:Int)) fun b40=>Ak (!b40) fun b41=>(if b41=true then (if s3=ByteArray.empty then CJ n z1 s4 l7 z9 s10 false else CJ n z1 s4 l7 z9 s10 true)else CJ n z1 s4 l7 z9 s10 false)else CJ n z1 s4 l7 z9 s10 false)))else bO1 (DX n s10 (116:Int)) fun b42=>(if b42=true then bO1 (Qk n s3) fun b43=>Ak (!b43) fun b44=>(if b44=true then CJ n z1 s4 l7 z9 s10 true else bO1 (DX n s10 (110:Int)) fun b45=>Ak (!b45) fun b46=>(if b46=true then bO1 (DX n s10 (116:Int)) fun b47=>Ak (!b47) fun b48=>(if b48=true then (if s3=ByteArray.empty then CJ n z1 s4 l7 z9 s10 false else CJ n z1 s4 l7 z9 s10 true)else CJ n z1 s4 l7 z9 s10 false)else CJ n z1 s4 l7 z9 s10 false))else bO1 (DX n s10 (110:Int)) fun b49=>Ak (!b49) fun b50=>(if b50=true then bO1 (DX n s10 (116:Int)) fun b51=>Ak (!b51) fun b52=>(if b52=true then (if s3=ByteArray.empty then CJ n z1 s4 l7 z9 s10 false else CJ n z1 s4 l7 z9 s10 true)else CJ n z1 s4 l7 z9 s10 false)else CJ n z1 s4 l7 z9 s10 false)))
def CJ:Nat->Int->BA->LD->Int->BA->Bool->Option (Bool)
 | 0,_,_,_,_,_,_=>none
 | n+1,z1,s4,l7,z9,s10,b53=>
  (if b53=true then some false else bO1 (DX n s10 (118:Int)) fun b54=>(if b54=true then bO1 (Qk n s4) fun b55=>Ak (!b55) fun b56=>(if b56=true then Ec n z1 l7 z9 true else bO1 (DX n s10 (118:Int)) fun b57=>Ak (!b57) fun b58=>(if b58=true then (if s4=ByteArray.empty then Ec n z1 l7 z9 false else Ec n z1 l7 z9 true)else Ec n z1 l7 z9 false))else bO1 (DX n s10 (118:Int)) fun b59=>Ak (!b59) fun b60=>(if b60=true then (if s4=ByteArray.empty then Ec n z1 l7 z9 false else Ec n z1 l7 z9 true)else Ec n z1 l7 z9 false)))
def Ec:Nat->Int->LD->Int->Bool->Option (Bool)
 | 0,_,_,_,_=>none
 | n+1,z1,l7,z9,b61=>
  (if b61=true then some false else Er n z1 l7 z9 (0:Int))
def Er:Nat->Int->LD->Int->Int->Option (Bool)
 | 0,_,_,_,_=>none
 | n+1,z1,l7,z9,z62=>
  Ad l7 fun z63=>(if z62<z63 then FV n z1 l7 z9 z62 true else FV n z1 l7 z9 z62 false)
def FV:Nat->Int->LD->Int->Int->Bool->Option (Bool)
 | 0,_,_,_,_,_=>none
 | n+1,z1,l7,z9,z62,b64=>
  (if b64=true then BT l7 z62 fun x65=>Cz x65 fun z66 z67 s68 s69 s70 l71 l72 z73=>bO1 (XG n z66 z67 s68 s69 s70 l71 l72 z73) fun b74=>(if b74=true then (if z1=(18:Int)then BT l7 z62 fun x75=>Cz x75 fun z76 z77 s78 s79 s80 l81 l82 z83=>Al (IntKind.wrap .i64 (z9 - 1)) fun z84=>bO1 (Uv n z76 z77 s78 s79 s80 l81 l82 z83 z84) fun b85=>Ak (!b85) fun b86=>Es n z1 l7 z9 z62 b86 else Es n z1 l7 z9 z62 true)else BT l7 z62 fun x87=>Cz x87 fun z88 z89 s90 s91 s92 l93 l94 z95=>Al (IntKind.wrap .i64 (z9 - 1)) fun z96=>bO1 (Uv n z88 z89 s90 s91 s92 l93 l94 z95 z96) fun b97=>Ak (!b97) fun b98=>Es n z1 l7 z9 z62 b98)else some true)
def Es:Nat->Int->LD->Int->Int->Bool->Option (Bool)
 | 0,_,_,_,_,_=>none
 | n+1,z1,l7,z9,z62,b99=>
  (if b99=true then some false else Al (IntKind.wrap .i64 (z62+1)) fun z100=>Er n z1 l7 z9 z100)
def Uv:Nat->Int->Int->BA->BA->BA->LD->LD->Int->Int->Option (Bool)
 | 0,_,_,_,_,_,_,_,_,_=>none
 | n+1,z1,z2,s3,s4,s5,l6,l7,z8,z9=>
  bO1 (YN n z1) fun s10=>(if z9<(1:Int)then HV n z1 z2 s3 s4 s5 l6 l7 z8 z9 s10 true else (if s10=ByteArray.empty then HV n z1 z2 s3 s4 s5 l6 l7 z8 z9 s10 true else Ad l7 fun z11=>bO1 (YO n s10 z11) fun b12=>Ak (!b12) fun b13=>HV n z1 z2 s3 s4 s5 l6 l7 z8 z9 s10 b13))
end
theorem Zc (n:Nat):∀⦃z1 z2 s3 s4 s5 l6 l7 z8 z9 r1⦄,Uv n z1 z2 s3 s4 s5 l6 l7 z8 z9=some r1->
    AW Tryz.prog inv 33 [.d (.agg [.int .u8 z1,.int .i64 z2,.str s3,.str s4,.str s5,.list false 1 l6,.list true 8 l7,.int .i64 z8]),.d (.int .i64 z9)] [] (.v (.d (.bool r1))) [] []:=by
 induction n using Nat.strongRecOn with | _ n ih=>
 obtain _ | n:=n
 ·intro z1 z2 s3 s4 s5 l6 l7 z8 z9 r1 h
  cases (show (none:Option _)=some _ from h)
 intro z1 z2 s3 s4 s5 l6 l7 z8 z9 r1 h
 rw[Uv]at h
 refine AW.of Ab AO Bp Tryz.func33 rfl (by kernel_rfl) rfl rfl rfl (fun M hM hI=>?_)
 try cbv
 refine AB ?_
 try cbv
 refine AB ?_
 try cbv
 replace h:=AG h
 obtain⟨s10,hr,h⟩:=h
 refine AD rfl rfl ?_
 try cbv
 refine AE hM hI (bZ _ hr) rfl ?_
 clear hr
 try cbv
 refine AB ?_
 try cbv
 refine AH 23 [1,2,4,5,23] [.loc 0] 640 (fun m b=>m<=n/\HV m z1 z2 s3 s4 s5 l6 l7 z8 z9 s10 b=some r1) ?_ ?_
 ·try cbv
  refine Aa (fun e=>?_) (fun e=>?_)
  ·replace h:=AJ e h
   clear e
   try cbv
   exact AA (n,true) [1,2,4,5,23] [.loc 0] 640 ⟨by omega,h⟩ (by cbv)
  replace h:=AK (Int.not_lt.2 e) h
  clear e
  try cbv
  refine Bb (fun e=>?_) (fun e=>?_)
  ·replace h:=AJ (BC.1 e) h
   clear e
   try cbv
   exact AA (n,true) [1,2,4,5,23] [.loc 0] 640 ⟨by omega,h⟩ (by cbv)
  replace h:=AK (BI.1 e) h
  clear e
  try cbv
  replace h:=AP M h
  obtain⟨z11,hz,h⟩:=h
  refine⟨z11,hz,?_⟩
  clear hz
  try cbv
  replace h:=AG h
  obtain⟨b12,hr,h⟩:=h
  refine AD rfl rfl ?_
  try cbv
  refine AE hM hI (cA _ hr) rfl ?_
  clear hr
  try cbv
  replace h:=AL h
  obtain⟨b13,hz,h⟩:=h
  refine⟨b13,AU hz,?_⟩
  clear hz
  try cbv
  exact AA (n,b13) [1,2,4,5,23] [.loc 0] 640 ⟨by omega,h⟩ (by cbv)
 clear h
 rintro⟨m1,b14⟩ ⟨hm1,h⟩
 try cbv
 replace hm1:m1<=n:=hm1
 obtain _ | m1:=m1
 ·replace h:HV 0 z1 z2 s3 s4 s5 l6 l7 z8 z9 s10 b14=some r1:=h
  rw[HV]at h
  cases h
 replace h:HV (m1+1) z1 z2 s3 s4 s5 l6 l7 z8 z9 s10 b14=some r1:=h
 rw[HV]at h
 try cbv
 cases b14
 rotate_left
 ·replace h:=Aq h
  try cbv
  refine AB ?_
  try cbv
  obtain rfl:=Option.some.inj h
  refine AF ?_
  try cbv
  exact⟨[],by trivial⟩
 replace h:=Ar h
 try cbv
 refine Aw (T:=Nat×Unit) (fun t=>⟨[sI 1 z9,sL 2 0,sB 4 false,sS 5 s10],[(.loc 0,.cells [.d (.int .u8 z1),.d (.int .i64 z2),.d (.str s3),.d (.str s4),.d (.str s5),.d (.list false 1 l6),.d (.list true 8 l7),.d (.int .i64 z8)])],1088⟩) (fun t=>t.1<=m1/\HX t.1 z1 z2 s3 s4 s5 l6 l7 z8 z9 s10=some r1) ?_ ?_
 ·try cbv
  refine AB ?_
  try cbv
  replace h:=AG h
  obtain⟨b15,hr,h⟩:=h
  refine AD rfl rfl ?_
  try cbv
  refine AE hM hI (Dp _ hr) rfl ?_
  clear hr
  try cbv
  cases b15
  rotate_left
  ·replace h:=Aq h
   try cbv
   refine AH 32 [1,2,4,5,32] [.loc 0] 832 (fun m b=>m<=m1/\I4 m z1 z2 s3 s4 s5 l6 l7 z8 z9 s10 b=some r1) ?_ ?_
   ·try cbv
    refine Aa (fun e=>?_) (fun e=>?_)
    ·replace h:=AJ e h
     clear e
     try cbv
     exact AA (m1,true) [1,2,4,5,32] [.loc 0] 832 ⟨by omega,h⟩ (by cbv)
    replace h:=AK (Int.not_lt.2 e) h
    clear e
    try cbv
    exact AA (m1,false) [1,2,4,5,32] [.loc 0] 832 ⟨by omega,h⟩ (by cbv)
   clear h
   rintro⟨m2,b16⟩ ⟨hm2,h⟩
   try cbv
   replace hm2:m2<=m1:=hm2
   obtain _ | m2:=m2
   ·replace h:I4 0 z1 z2 s3 s4 s5 l6 l7 z8 z9 s10 b16=some r1:=h
    rw[I4]at h
    cases h
   replace h:I4 (m2+1) z1 z2 s3 s4 s5 l6 l7 z8 z9 s10 b16=some r1:=h
   rw[I4]at h
   try cbv
   cases b16
   ·replace h:=Ar h
    try cbv
    exact AA (m2,()) [1,2,4,5] [.loc 0] 1088 ⟨by omega,h⟩ (by cbv)
   replace h:=Aq h
   try cbv
   refine AB ?_
   try cbv
   obtain rfl:=Option.some.inj h
   refine AF ?_
   try cbv
   exact⟨[],by trivial⟩
  replace h:=Ar h
  try cbv
  refine AB ?_
  try cbv
  replace h:=AG h
  obtain⟨b17,hr,h⟩:=h
  refine AD rfl rfl ?_
  try cbv
  refine AE hM hI (Dp _ hr) rfl ?_
  clear hr
  try cbv
  cases b17
  ·replace h:=Ar h
   try cbv
   refine AH 26 [1,2,4,5,26] [.loc 0] 928 (fun m b=>m<=m1/\I5 m z1 z2 s3 s4 s5 l6 l7 z8 z9 s10 b=some r1) ?_ ?_
   ·try cbv
    refine Ah (fun e=>?_) (fun e=>?_)
    ·replace h:=AJ e h
     clear e
     try cbv
     exact AA (m1,false) [1,2,4,5,26] [.loc 0] 928 ⟨by omega,h⟩ (by cbv)
    replace h:=AK e h
    clear e
    try cbv
    exact AA (m1,true) [1,2,4,5,26] [.loc 0] 928 ⟨by omega,h⟩ (by cbv)
   clear h
   rintro⟨m4,b19⟩ ⟨hm4,h⟩
   try cbv
   replace hm4:m4<=m1:=hm4
   obtain _ | m4:=m4
   ·replace h:I5 0 z1 z2 s3 s4 s5 l6 l7 z8 z9 s10 b19=some r1:=h
    rw[I5]at h
    cases h
   replace h:I5 (m4+1) z1 z2 s3 s4 s5 l6 l7 z8 z9 s10 b19=some r1:=h
   rw[I5]at h
   try cbv
   cases b19
   ·replace h:=Ar h
    try cbv
    exact AA (m4,()) [1,2,4,5] [.loc 0] 1088 ⟨by omega,h⟩ (by cbv)
   replace h:=Aq h
   try cbv
   refine AB ?_
   try cbv
   obtain rfl:=Option.some.inj h
   refine AF ?_
   try cbv
   exact⟨[],by trivial⟩
  replace h:=Aq h
  try cbv
  refine AH 43 [1,2,4,5,43] [.loc 0] 1088 (fun m b=>m<=m1/\HW m z1 z2 s3 s4 s5 l6 l7 z8 z9 s10 b=some r1) ?_ ?_
  ·try cbv
   refine Ah (fun e=>?_) (fun e=>?_)
   ·replace h:=AJ e h
    clear e
    try cbv
    exact AA (m1,false) [1,2,4,5,43] [.loc 0] 1088 ⟨by omega,h⟩ (by cbv)
   replace h:=AK e h
   clear e
   try cbv
   refine Ah (fun e=>?_) (fun e=>?_)
   ·replace h:=AJ e h
    clear e
    try cbv
    exact AA (m1,false) [1,2,4,5,43] [.loc 0] 1088 ⟨by omega,h⟩ (by cbv)
   replace h:=AK e h
   clear e
   try cbv
   exact AA (m1,true) [1,2,4,5,43] [.loc 0] 1088 ⟨by omega,h⟩ (by cbv)
  clear h
  rintro⟨m3,b18⟩ ⟨hm3,h⟩
  try cbv
  replace hm3:m3<=m1:=hm3
  obtain _ | m3:=m3
  ·replace h:HW 0 z1 z2 s3 s4 s5 l6 l7 z8 z9 s10 b18=some r1:=h
   rw[HW]at h
   cases h
  replace h:HW (m3+1) z1 z2 s3 s4 s5 l6 l7 z8 z9 s10 b18=some r1:=h
  rw[HW]at h
  try cbv
  cases b18
  ·replace h:=Ar h
   try cbv
   exact AA (m3,()) [1,2,4,5] [.loc 0] 1088 ⟨by omega,h⟩ (by cbv)
  replace h:=Aq h
  try cbv
  refine AB ?_
  try cbv
  obtain rfl:=Option.some.inj h
  refine AF ?_
  try cbv
  exact⟨[],by trivial⟩
 clear h
 rintro⟨m5,_⟩ ⟨hm5,h⟩
 replace hm5:m5<=m1:=hm5
 obtain _ | m5:=m5
 ·replace h:HX 0 z1 z2 s3 s4 s5 l6 l7 z8 z9 s10=some r1:=h
  rw[HX]at h
  cases h
 replace h:HX (m5+1) z1 z2 s3 s4 s5 l6 l7 z8 z9 s10=some r1:=h
 rw[HX]at h
 try cbv
 refine Aw (T:=Nat×Unit) (fun t=>⟨[sI 1 z9,sL 2 0,sB 4 false,sS 5 s10],[(.loc 0,.cells [.d (.int .u8 z1),.d (.int .i64 z2),.d (.str s3),.d (.str s4),.d (.str s5),.d (.list false 1 l6),.d (.list true 8 l7),.d (.int .i64 z8)])],1568⟩) (fun t=>t.1<=m5/\HZ t.1 z1 s3 s4 l7 z9 s10=some r1) ?_ ?_
 ·try cbv
  refine AB ?_
  try cbv
  replace h:=AG h
  obtain⟨b20,hr,h⟩:=h
  refine AD rfl rfl ?_
  try cbv
  refine AE hM hI (Dp _ hr) rfl ?_
  clear hr
  try cbv
  cases b20
  rotate_left
  ·replace h:=Aq h
   try cbv
   refine AB ?_
   try cbv
   replace h:=AG h
   obtain⟨b21,hr,h⟩:=h
   refine AD rfl rfl ?_
   try cbv
   refine AE hM hI (bF _ hr) rfl ?_
   clear hr
   try cbv
   replace h:=AL h
   obtain⟨b22,hz,h⟩:=h
   refine⟨b22,AU hz,?_⟩
   clear hz
   try cbv
   cases b22
   ·replace h:=Ar h
    try cbv
    exact AA (m5,()) [1,2,4,5] [.loc 0] 1568 ⟨by omega,h⟩ (by cbv)
   replace h:=Aq h
   try cbv
   refine AB ?_
   try cbv
   obtain rfl:=Option.some.inj h
   refine AF ?_
   try cbv
   exact⟨[],by trivial⟩
  replace h:=Ar h
  try cbv
  refine AB ?_
  try cbv
  replace h:=AG h
  obtain⟨b23,hr,h⟩:=h
  refine AD rfl rfl ?_
  try cbv
  refine AE hM hI (Dp _ hr) rfl ?_
  clear hr
  try cbv
  cases b23
  rotate_left
  ·replace h:=Aq h
   try cbv
   refine AB ?_
   try cbv
   replace h:=AG h
   obtain⟨b24,hr,h⟩:=h
   refine AD rfl rfl ?_
   try cbv
   refine AE hM hI (cB _ hr) rfl ?_
   clear hr
   try cbv
   replace h:=AL h
   obtain⟨b25,hz,h⟩:=h
   refine⟨b25,AU hz,?_⟩
   clear hz
   try cbv
   cases b25
   ·replace h:=Ar h
    try cbv
    exact AA (m5,()) [1,2,4,5] [.loc 0] 1568 ⟨by omega,h⟩ (by cbv)
   replace h:=Aq h
   try cbv
   refine AB ?_
   try cbv
   obtain rfl:=Option.some.inj h
   refine AF ?_
   try cbv
   exact⟨[],by trivial⟩
  replace h:=Ar h
  try cbv
  refine AH 65 [1,2,4,5,65] [.loc 0] 1568 (fun m b=>m<=m5/\HY m z1 s3 s4 l7 z9 s10 b=some r1) ?_ ?_
  ·try cbv
   refine Bb (fun e=>?_) (fun e=>?_)
   rotate_left
   ·replace h:=AK (BI.1 e) h
    clear e
    try cbv
    exact AA (m5,true) [1,2,4,5,65] [.loc 0] 1568 ⟨by omega,h⟩ (by cbv)
   replace h:=AJ (BC.1 e) h
   clear e
   try cbv
   replace h:=AP M h
   obtain⟨z26,hz,h⟩:=h
   refine⟨z26,hz,?_⟩
   clear hz
   try cbv
   refine Aa (fun e=>?_) (fun e=>?_)
   ·replace h:=AJ e h
    clear e
    try cbv
    exact AA (m5,true) [1,2,4,5,65] [.loc 0] 1568 ⟨by omega,h⟩ (by cbv)
   replace h:=AK (Int.not_lt.2 e) h
   clear e
   try cbv
   exact AA (m5,false) [1,2,4,5,65] [.loc 0] 1568 ⟨by omega,h⟩ (by cbv)
  clear h
  rintro⟨m6,b27⟩ ⟨hm6,h⟩
  try cbv
  replace hm6:m6<=m5:=hm6
  obtain _ | m6:=m6
  ·replace h:HY 0 z1 s3 s4 l7 z9 s10 b27=some r1:=h
   rw[HY]at h
   cases h
  replace h:HY (m6+1) z1 s3 s4 l7 z9 s10 b27=some r1:=h
  rw[HY]at h
  try cbv
  cases b27
  ·replace h:=Ar h
   try cbv
   exact AA (m6,()) [1,2,4,5] [.loc 0] 1568 ⟨by omega,h⟩ (by cbv)
  replace h:=Aq h
  try cbv
  refine AB ?_
  try cbv
  obtain rfl:=Option.some.inj h
  refine AF ?_
  try cbv
  exact⟨[],by trivial⟩
 clear h
 rintro⟨m7,_⟩ ⟨hm7,h⟩
 replace hm7:m7<=m5:=hm7
 obtain _ | m7:=m7
 ·replace h:HZ 0 z1 s3 s4 l7 z9 s10=some r1:=h
  rw[HZ]at h
  cases h
 replace h:HZ (m7+1) z1 s3 s4 l7 z9 s10=some r1:=h
 rw[HZ]at h
 try cbv
 refine AB ?_
 try cbv
 refine AH 98 [1,2,4,5,98] [.loc 0] 2624 (fun m b=>m<=m7/\CJ m z1 s4 l7 z9 s10 b=some r1) ?_ ?_
 ·try cbv
  replace h:=AG h
  obtain⟨b28,hr,h⟩:=h
  refine AD rfl rfl ?_
  try cbv
  refine AE hM hI (Dp _ hr) rfl ?_
  clear hr
  try cbv
  cases b28
  ·replace h:=Ar h
   try cbv
   replace h:=AG h
   obtain⟨b42,hr,h⟩:=h
   refine AD rfl rfl ?_
   try cbv
   refine AE hM hI (Dp _ hr) rfl ?_
   clear hr
   try cbv
   cases b42
   ·replace h:=Ar h
    try cbv
    replace h:=AG h
    obtain⟨b49,hr,h⟩:=h
    refine AD rfl rfl ?_
    try cbv
    refine AE hM hI (Dp _ hr) rfl ?_
    clear hr
    try cbv
    replace h:=AL h
    obtain⟨b50,hz,h⟩:=h
    refine⟨b50,AU hz,?_⟩
    clear hz
    try cbv
    cases b50
    ·replace h:=Ar h
     try cbv
     exact AA (m7,false) [1,2,4,5,98] [.loc 0] 2624 ⟨by omega,h⟩ (by cbv)
    replace h:=Aq h
    try cbv
    replace h:=AG h
    obtain⟨b51,hr,h⟩:=h
    refine AD rfl rfl ?_
    try cbv
    refine AE hM hI (Dp _ hr) rfl ?_
    clear hr
    try cbv
    replace h:=AL h
    obtain⟨b52,hz,h⟩:=h
    refine⟨b52,AU hz,?_⟩
    clear hz
    try cbv
    cases b52
    ·replace h:=Ar h
     try cbv
     exact AA (m7,false) [1,2,4,5,98] [.loc 0] 2624 ⟨by omega,h⟩ (by cbv)
    replace h:=Aq h
    try cbv
    refine Bb (fun e=>?_) (fun e=>?_)
    ·replace h:=AJ (BC.1 e) h
     clear e
     try cbv
     exact AA (m7,false) [1,2,4,5,98] [.loc 0] 2624 ⟨by omega,h⟩ (by cbv)
    replace h:=AK (BI.1 e) h
    clear e
    try cbv
    exact AA (m7,true) [1,2,4,5,98] [.loc 0] 2624 ⟨by omega,h⟩ (by cbv)
   replace h:=Aq h
   try cbv
   replace h:=AG h
   obtain⟨b43,hr,h⟩:=h
   refine AD rfl rfl ?_
   try cbv
   refine AE hM hI (UA _ hr) rfl ?_
   clear hr
   try cbv
   replace h:=AL h
   obtain⟨b44,hz,h⟩:=h
   refine⟨b44,AU hz,?_⟩
   clear hz
   try cbv
   cases b44
   rotate_left
   ·replace h:=Aq h
    try cbv
    exact AA (m7,true) [1,2,4,5,98] [.loc 0] 2624 ⟨by omega,h⟩ (by cbv)
   replace h:=Ar h
   try cbv
   replace h:=AG h
   obtain⟨b45,hr,h⟩:=h
   refine AD rfl rfl ?_
   try cbv
   refine AE hM hI (Dp _ hr) rfl ?_
   clear hr
   try cbv
   replace h:=AL h
   obtain⟨b46,hz,h⟩:=h
   refine⟨b46,AU hz,?_⟩
   clear hz
   try cbv
   cases b46
   ·replace h:=Ar h
    try cbv
    exact AA (m7,false) [1,2,4,5,98] [.loc 0] 2624 ⟨by omega,h⟩ (by cbv)
   replace h:=Aq h
   try cbv
   replace h:=AG h
   obtain⟨b47,hr,h⟩:=h
   refine AD rfl rfl ?_
   try cbv
   refine AE hM hI (Dp _ hr) rfl ?_
   clear hr
   try cbv
   replace h:=AL h
   obtain⟨b48,hz,h⟩:=h
   refine⟨b48,AU hz,?_⟩
   clear hz
   try cbv
   cases b48
   ·replace h:=Ar h
    try cbv
    exact AA (m7,false) [1,2,4,5,98] [.loc 0] 2624 ⟨by omega,h⟩ (by cbv)
   replace h:=Aq h
   try cbv
   refine Bb (fun e=>?_) (fun e=>?_)
   ·replace h:=AJ (BC.1 e) h
    clear e
    try cbv
    exact AA (m7,false) [1,2,4,5,98] [.loc 0] 2624 ⟨by omega,h⟩ (by cbv)
   replace h:=AK (BI.1 e) h
   clear e
   try cbv
   exact AA (m7,true) [1,2,4,5,98] [.loc 0] 2624 ⟨by omega,h⟩ (by cbv)
  replace h:=Aq h
  try cbv
  replace h:=AG h
  obtain⟨b29,hr,h⟩:=h
  refine AD rfl rfl ?_
  try cbv
  refine AE hM hI (Uu _ hr) rfl ?_
  clear hr
  try cbv
  replace h:=AL h
  obtain⟨b30,hz,h⟩:=h
  refine⟨b30,AU hz,?_⟩
  clear hz
  try cbv
  cases b30
  rotate_left
  ·replace h:=Aq h
   try cbv
   exact AA (m7,true) [1,2,4,5,98] [.loc 0] 2624 ⟨by omega,h⟩ (by cbv)
  replace h:=Ar h
  try cbv
  replace h:=AG h
  obtain⟨b31,hr,h⟩:=h
  refine AD rfl rfl ?_
  try cbv
  refine AE hM hI (Dp _ hr) rfl ?_
  clear hr
  try cbv
  cases b31
  ·replace h:=Ar h
   try cbv
   replace h:=AG h
   obtain⟨b38,hr,h⟩:=h
   refine AD rfl rfl ?_
   try cbv
   refine AE hM hI (Dp _ hr) rfl ?_
   clear hr
   try cbv
   replace h:=AL h
   obtain⟨b39,hz,h⟩:=h
   refine⟨b39,AU hz,?_⟩
   clear hz
   try cbv
   cases b39
   ·replace h:=Ar h
    try cbv
    exact AA (m7,false) [1,2,4,5,98] [.loc 0] 2624 ⟨by omega,h⟩ (by cbv)
   replace h:=Aq h
   try cbv
   replace h:=AG h
   obtain⟨b40,hr,h⟩:=h
   refine AD rfl rfl ?_
   try cbv
   refine AE hM hI (Dp _ hr) rfl ?_
   clear hr
   try cbv
   replace h:=AL h
   obtain⟨b41,hz,h⟩:=h
   refine⟨b41,AU hz,?_⟩
   clear hz
   try cbv
   cases b41
   ·replace h:=Ar h
    try cbv
    exact AA (m7,false) [1,2,4,5,98] [.loc 0] 2624 ⟨by omega,h⟩ (by cbv)
   replace h:=Aq h
   try cbv
   refine Bb (fun e=>?_) (fun e=>?_)
   ·replace h:=AJ (BC.1 e) h
    clear e
    try cbv
    exact AA (m7,false) [1,2,4,5,98] [.loc 0] 2624 ⟨by omega,h⟩ (by cbv)
   replace h:=AK (BI.1 e) h
   clear e
   try cbv
   exact AA (m7,true) [1,2,4,5,98] [.loc 0] 2624 ⟨by omega,h⟩ (by cbv)
  replace h:=Aq h
  try cbv
  replace h:=AG h
  obtain⟨b32,hr,h⟩:=h
  refine AD rfl rfl ?_
  try cbv
  refine AE hM hI (UA _ hr) rfl ?_
  clear hr
  try cbv
  replace h:=AL h
  obtain⟨b33,hz,h⟩:=h
  refine⟨b33,AU hz,?_⟩
  clear hz
  try cbv
  cases b33
  rotate_left
  ·replace h:=Aq h
   try cbv
   exact AA (m7,true) [1,2,4,5,98] [.loc 0] 2624 ⟨by omega,h⟩ (by cbv)
  replace h:=Ar h
  try cbv
  replace h:=AG h
  obtain⟨b34,hr,h⟩:=h
  refine AD rfl rfl ?_
  try cbv
  refine AE hM hI (Dp _ hr) rfl ?_
  clear hr
  try cbv
  replace h:=AL h
  obtain⟨b35,hz,h⟩:=h
  refine⟨b35,AU hz,?_⟩
  clear hz
  try cbv
  cases b35
  ·replace h:=Ar h
   try cbv
   exact AA (m7,false) [1,2,4,5,98] [.loc 0] 2624 ⟨by omega,h⟩ (by cbv)
  replace h:=Aq h
  try cbv
  replace h:=AG h
  obtain⟨b36,hr,h⟩:=h
  refine AD rfl rfl ?_
  try cbv
  refine AE hM hI (Dp _ hr) rfl ?_
  clear hr
  try cbv
  replace h:=AL h
  obtain⟨b37,hz,h⟩:=h
  refine⟨b37,AU hz,?_⟩
  clear hz
  try cbv
  cases b37
  ·replace h:=Ar h
   try cbv
   exact AA (m7,false) [1,2,4,5,98] [.loc 0] 2624 ⟨by omega,h⟩ (by cbv)
  replace h:=Aq h
  try cbv
  refine Bb (fun e=>?_) (fun e=>?_)
  ·replace h:=AJ (BC.1 e) h
   clear e
   try cbv
   exact AA (m7,false) [1,2,4,5,98] [.loc 0] 2624 ⟨by omega,h⟩ (by cbv)
  replace h:=AK (BI.1 e) h
  clear e
  try cbv
  exact AA (m7,true) [1,2,4,5,98] [.loc 0] 2624 ⟨by omega,h⟩ (by cbv)
 clear h
 rintro⟨m8,b53⟩ ⟨hm8,h⟩
 try cbv
 replace hm8:m8<=m7:=hm8
 obtain _ | m8:=m8
 ·replace h:CJ 0 z1 s4 l7 z9 s10 b53=some r1:=h
  rw[CJ]at h
  cases h
 replace h:CJ (m8+1) z1 s4 l7 z9 s10 b53=some r1:=h
 rw[CJ]at h
 try cbv
 cases b53
 rotate_left
 ·replace h:=Aq h
  try cbv
  refine AB ?_
  try cbv
  obtain rfl:=Option.some.inj h
  refine AF ?_
  try cbv
  exact⟨[],by trivial⟩
 replace h:=Ar h
 try cbv
 refine AB ?_
 try cbv
 refine AH 116 [1,2,4,116] [.loc 0] 3200 (fun m b=>m<=m8/\Ec m z1 l7 z9 b=some r1) ?_ ?_
 ·try cbv
  replace h:=AG h
  obtain⟨b54,hr,h⟩:=h
  refine AD rfl rfl ?_
  try cbv
  refine AE hM hI (Dp _ hr) rfl ?_
  clear hr
  try cbv
  cases b54
  ·replace h:=Ar h
   try cbv
   replace h:=AG h
   obtain⟨b59,hr,h⟩:=h
   refine AD rfl rfl ?_
   try cbv
   refine AE hM hI (Dp _ hr) rfl ?_
   clear hr
   try cbv
   replace h:=AL h
   obtain⟨b60,hz,h⟩:=h
   refine⟨b60,AU hz,?_⟩
   clear hz
   try cbv
   cases b60
   ·replace h:=Ar h
    try cbv
    exact AA (m8,false) [1,2,4,116] [.loc 0] 3200 ⟨by omega,h⟩ (by cbv)
   replace h:=Aq h
   try cbv
   refine Bb (fun e=>?_) (fun e=>?_)
   ·replace h:=AJ (BC.1 e) h
    clear e
    try cbv
    exact AA (m8,false) [1,2,4,116] [.loc 0] 3200 ⟨by omega,h⟩ (by cbv)
   replace h:=AK (BI.1 e) h
   clear e
   try cbv
   exact AA (m8,true) [1,2,4,116] [.loc 0] 3200 ⟨by omega,h⟩ (by cbv)
  replace h:=Aq h
  try cbv
  replace h:=AG h
  obtain⟨b55,hr,h⟩:=h
  refine AD rfl rfl ?_
  try cbv
  refine AE hM hI (UA _ hr) rfl ?_
  clear hr
  try cbv
  replace h:=AL h
  obtain⟨b56,hz,h⟩:=h
  refine⟨b56,AU hz,?_⟩
  clear hz
  try cbv
  cases b56
  rotate_left
  ·replace h:=Aq h
   try cbv
   exact AA (m8,true) [1,2,4,116] [.loc 0] 3200 ⟨by omega,h⟩ (by cbv)
  replace h:=Ar h
  try cbv
  replace h:=AG h
  obtain⟨b57,hr,h⟩:=h
  refine AD rfl rfl ?_
  try cbv
  refine AE hM hI (Dp _ hr) rfl ?_
  clear hr
  try cbv
  replace h:=AL h
  obtain⟨b58,hz,h⟩:=h
  refine⟨b58,AU hz,?_⟩
  clear hz
  try cbv
  cases b58
  ·replace h:=Ar h
   try cbv
   exact AA (m8,false) [1,2,4,116] [.loc 0] 3200 ⟨by omega,h⟩ (by cbv)
  replace h:=Aq h
  try cbv
  refine Bb (fun e=>?_) (fun e=>?_)
  ·replace h:=AJ (BC.1 e) h
   clear e
   try cbv
   exact AA (m8,false) [1,2,4,116] [.loc 0] 3200 ⟨by omega,h⟩ (by cbv)
  replace h:=AK (BI.1 e) h
  clear e
  try cbv
  exact AA (m8,true) [1,2,4,116] [.loc 0] 3200 ⟨by omega,h⟩ (by cbv)
 clear h
 rintro⟨m9,b61⟩ ⟨hm9,h⟩
 try cbv
 replace hm9:m9<=m8:=hm9
 obtain _ | m9:=m9
 ·replace h:Ec 0 z1 l7 z9 b61=some r1:=h
  rw[Ec]at h
  cases h
 replace h:Ec (m9+1) z1 l7 z9 b61=some r1:=h
 rw[Ec]at h
 try cbv
 cases b61
 rotate_left
 ·replace h:=Aq h
  try cbv
  refine AB ?_
  try cbv
  obtain rfl:=Option.some.inj h
  refine AF ?_
  try cbv
  exact⟨[],by trivial⟩
 replace h:=Ar h
 try cbv
 refine AB ?_
 try cbv
 refine AB ?_
 try cbv
 refine BF (T:=Nat×Int) [1,2,4,6] [.loc 0] 3232 (fun t=>⟨[sI 1 z9,sL 2 0,sB 4 false,sI 6 t.2],[(.loc 0,.cells [.d (.int .u8 z1),.d (.int .i64 z2),.d (.str s3),.d (.str s4),.d (.str s5),.d (.list false 1 l6),.d (.list true 8 l7),.d (.int .i64 z8)])],3232⟩)
   (fun t=>t.1<=m9/\Er t.1 z1 l7 z9 t.2=some r1) (fun t=>t.1) (m9,(0:Int)) ⟨Nat.le_refl _,h⟩ (by cbv) ?_
 clear h
 rintro⟨m10,z62⟩ ⟨hm10,h⟩
 replace hm10:m10<=m9:=hm10
 obtain _ | m10:=m10
 ·replace h:Er 0 z1 l7 z9 z62=some r1:=h
  rw[Er]at h
  cases h
 replace h:Er (m10+1) z1 l7 z9 z62=some r1:=h
 rw[Er]at h
 try cbv
 refine AB ?_
 try cbv
 refine AH 121 [1,2,4,6,121] [.loc 0] 3392 (fun m b=>m<=m10/\FV m z1 l7 z9 z62 b=some r1) ?_ ?_
 ·try cbv
  replace h:=AP M h
  obtain⟨z63,hz,h⟩:=h
  refine⟨z63,hz,?_⟩
  clear hz
  try cbv
  refine Aa (fun e=>?_) (fun e=>?_)
  ·replace h:=AJ e h
   clear e
   try cbv
   exact AA (m10,true) [1,2,4,6,121] [.loc 0] 3392 ⟨by omega,h⟩ (by cbv)
  replace h:=AK (Int.not_lt.2 e) h
  clear e
  try cbv
  exact AA (m10,false) [1,2,4,6,121] [.loc 0] 3392 ⟨by omega,h⟩ (by cbv)
 clear h
 rintro⟨m11,b64⟩ ⟨hm11,h⟩
 try cbv
 replace hm11:m11<=m10:=hm11
 obtain _ | m11:=m11
 ·replace h:FV 0 z1 l7 z9 z62 b64=some r1:=h
  rw[FV]at h
  cases h
 replace h:FV (m11+1) z1 l7 z9 z62 b64=some r1:=h
 rw[FV]at h
 try cbv
 cases b64
 ·replace h:=Ar h
  try cbv
  refine AB ?_
  try cbv
  obtain rfl:=Option.some.inj h
  refine AF ?_
  try cbv
  exact⟨[],by trivial⟩
 replace h:=Aq h
 try cbv
 refine AB ?_
 try cbv
 refine AH 145 [1,2,4,6,145] [.loc 0] 4096 (fun m b=>m<=m11/\Es m z1 l7 z9 z62 b=some r1) ?_ ?_
 rotate_left
 ·clear h
  rintro⟨m12,b99⟩ ⟨hm12,h⟩
  try cbv
  replace hm12:m12<=m11:=hm12
  obtain _ | m12:=m12
  ·replace h:Es 0 z1 l7 z9 z62 b99=some r1:=h
   rw[Es]at h
   cases h
  replace h:Es (m12+1) z1 l7 z9 z62 b99=some r1:=h
  rw[Es]at h
  try cbv
  cases b99
  ·replace h:=Ar h
   try cbv
   replace h:=AN h
   obtain⟨z100,hz,h⟩:=h
   refine⟨z100,hz,?_⟩
   clear hz
   try cbv
   exact An (m12,z100) [1,2,4,6] [.loc 0] 3232 ⟨by omega,h⟩ (Nat.lt_succ_of_le (by omega)) (by cbv)
  replace h:=Aq h
  try cbv
  refine AB ?_
  try cbv
  obtain rfl:=Option.some.inj h
  refine AF ?_
  try cbv
  exact⟨[],by trivial⟩
 try cbv
 replace h:=Ae h
 obtain⟨x65,⟨hx0,hx⟩,h⟩:=h
 refine⟨x65,hx0,hx,?_⟩
 clear hx0 hx
 replace h:=CB h
 obtain⟨z66,z67,s68,s69,s70,l71,l72,z73,rfl,h⟩:=h
 try cbv
 replace h:=AG h
 obtain⟨b74,hr,h⟩:=h
 refine AD rfl rfl ?_
 try cbv
 refine AE hM hI (Zb _ hr) rfl ?_
 clear hr
 try cbv
 cases b74
 ·replace h:=Ar h
  try cbv
  replace h:=Ae h
  obtain⟨x87,⟨hx0,hx⟩,h⟩:=h
  refine⟨x87,hx0,hx,?_⟩
  clear hx0 hx
  replace h:=CB h
  obtain⟨z88,z89,s90,s91,s92,l93,l94,z95,rfl,h⟩:=h
  try cbv
  replace h:=AN h
  obtain⟨z96,hz,h⟩:=h
  refine⟨z96,hz,?_⟩
  clear hz
  try cbv
  replace h:=AG h
  obtain⟨b97,hr,h⟩:=h
  refine AD rfl rfl ?_
  try cbv
  refine AE hM hI ((ih _ (by omega)) hr) rfl ?_
  clear hr
  try cbv
  replace h:=AL h
  obtain⟨b98,hz,h⟩:=h
  refine⟨b98,AU hz,?_⟩
  clear hz
  try cbv
  exact AA (m11,b98) [1,2,4,6,145] [.loc 0] 4096 ⟨by omega,h⟩ (by cbv)
 replace h:=Aq h
 try cbv
 refine Ah (fun e=>?_) (fun e=>?_)
 rotate_left
 ·replace h:=AK e h
  clear e
  try cbv
  exact AA (m11,true) [1,2,4,6,145] [.loc 0] 4096 ⟨by omega,h⟩ (by cbv)
 replace h:=AJ e h
 clear e
 try cbv
 replace h:=Ae h
 obtain⟨x75,⟨hx0,hx⟩,h⟩:=h
 refine⟨x75,hx0,hx,?_⟩
 clear hx0 hx
 replace h:=CB h
 obtain⟨z76,z77,s78,s79,s80,l81,l82,z83,rfl,h⟩:=h
 try cbv
 replace h:=AN h
 obtain⟨z84,hz,h⟩:=h
 refine⟨z84,hz,?_⟩
 clear hz
 try cbv
 replace h:=AG h
 obtain⟨b85,hr,h⟩:=h
 refine AD rfl rfl ?_
 try cbv
 refine AE hM hI ((ih _ (by omega)) hr) rfl ?_
 clear hr
 try cbv
 replace h:=AL h
 obtain⟨b86,hz,h⟩:=h
 refine⟨b86,AU hz,?_⟩
 clear hz
 try cbv
 exact AA (m11,b86) [1,2,4,6,145] [.loc 0] 4096 ⟨by omega,h⟩ (by cbv)
def I6:Nat->Int->Bool->Option (BA)
 | 0,_,_=>none
 | n+1,z1,b3=>
  (if b3=true then some ByteArray.empty else BT ([.str ByteArray.empty,.str XD,.str Tv,.str XE,.str ZY,.str ZZ,.str Tw,.str XF,.str Tx,.str Xf,.str Tz,.str T1,.str T2,.str Xf]) z1 fun x4=>B7 x4 fun s5=>some s5)
def YQ (n:Nat) (z1:Int):Option (BA):=
 Al (IntKind.wrap .i64 z1) fun z2=>(if (14:Int)<=z2 then I6 n z1 true else I6 n z1 false)
theorem cC (n:Nat):∀⦃z1 r1⦄,YQ n z1=some r1->
    AW Tryz.prog inv 88 [.d (.int .u8 z1)] [] (.v (.d (.str r1))) [] []:=by
 intro z1 r1 h
 unfold YQ at h
 refine AW.of Ab AO Bp Tryz.func88 rfl (by kernel_rfl) rfl rfl rfl (fun M hM hI=>?_)
 try cbv
 refine AB ?_
 try cbv
 refine AB ?_
 try cbv
 refine⟨false,?_⟩
 try cbv
 refine⟨true,?_⟩
 try cbv
 refine AB ?_
 try cbv
 refine AH 9 [0,2,3,9] [] 256 (fun m b=>m<=n/\I6 m z1 b=some r1) ?_ ?_
 ·try cbv
  replace h:=AN h
  obtain⟨z2,hz,h⟩:=h
  refine⟨z2,hz,?_⟩
  clear hz
  try cbv
  refine⟨14,(M.lenI_eq _).trans rfl,?_⟩
  try cbv
  refine BJ (fun e=>?_) (fun e=>?_)
  ·replace h:=AJ e h
   clear e
   try cbv
   exact AA (n,true) [0,2,3,9] [] 256 ⟨by omega,h⟩ (by cbv)
  replace h:=AK (Int.not_le.2 e) h
  clear e
  try cbv
  exact AA (n,false) [0,2,3,9] [] 256 ⟨by omega,h⟩ (by cbv)
 clear h
 rintro⟨m1,b3⟩ ⟨hm1,h⟩
 try cbv
 replace hm1:m1<=n:=hm1
 obtain _ | m1:=m1
 ·replace h:I6 0 z1 b3=some r1:=h
  rw[I6]at h
  cases h
 replace h:I6 (m1+1) z1 b3=some r1:=h
 rw[I6]at h
 try cbv
 cases b3
 ·replace h:=Ar h
  try cbv
  refine AB ?_
  try cbv
  replace h:=Ae h
  obtain⟨x4,⟨hx0,hx⟩,h⟩:=h
  refine⟨x4,hx0,hx,?_⟩
  clear hx0 hx
  replace h:=B3 h
  obtain⟨s5,rfl,h⟩:=h
  try cbv
  obtain rfl:=Option.some.inj h
  refine AF ?_
  try cbv
  exact⟨[],by trivial⟩
 replace h:=Aq h
 try cbv
 refine AB ?_
 try cbv
 obtain rfl:=Option.some.inj h
 refine AF ?_
 try cbv
 exact⟨[],by trivial⟩
mutual
def IG:Nat->Int->BA->LD->Int->Bool->Option (Bool)
 | 0,_,_,_,_,_=>none
 | n+1,z1,s2,l3,z4,b5=>
  (if b5=true then some false else (if z1=(1:Int)then Mt n z1 s2 l3 z4 true else Mt n z1 s2 l3 z4 false))
def Mt:Nat->Int->BA->LD->Int->Bool->Option (Bool)
 | 0,_,_,_,_,_=>none
 | n+1,z1,s2,l3,z4,b6=>
  (if b6=true then I7 n z1 s2 l3 z4 true else (if z1=(2:Int)then Mu n z1 s2 l3 z4 true else Mu n z1 s2 l3 z4 false))
def Mu:Nat->Int->BA->LD->Int->Bool->Option (Bool)
 | 0,_,_,_,_,_=>none
 | n+1,z1,s2,l3,z4,b7=>
  (if b7=true then I7 n z1 s2 l3 z4 true else (if z1=(3:Int)then Mv n z1 s2 l3 z4 true else Mv n z1 s2 l3 z4 false))
def Mv:Nat->Int->BA->LD->Int->Bool->Option (Bool)
 | 0,_,_,_,_,_=>none
 | n+1,z1,s2,l3,z4,b8=>
  (if b8=true then I7 n z1 s2 l3 z4 true else (if z1=(10:Int)then I7 n z1 s2 l3 z4 true else I7 n z1 s2 l3 z4 false))
def I7:Nat->Int->BA->LD->Int->Bool->Option (Bool)
 | 0,_,_,_,_,_=>none
 | n+1,z1,s2,l3,z4,b9=>
  (if b9=true then (if s2=ByteArray.empty then Ad l3 fun z10=>(if z10=(0:Int)then some true else some false)else some false)else (if z1=(4:Int)then F2 n s2 l3 z4 true else F2 n s2 l3 z4 false))
def F2:Nat->BA->LD->Int->Bool->Option (Bool)
 | 0,_,_,_,_=>none
 | n+1,s2,l3,z4,b11=>
  (if b11=true then bO1 (Qk n s2) fun b12=>(if b12=true then Ad l3 fun z13=>(if z13=(0:Int)then some true else some false)else some false)else (if s2=ByteArray.empty then Ad l3 fun z14=>(if z14=(1:Int)then BT l3 0 fun x15=>Cl x15 fun z16 s17 l18=>Al (IntKind.wrap .i64 (z4 - 1)) fun z19=>bO1 (F8 n z16 s17 l18 z19) fun b20=>some b20 else some false)else some false))
def F8:Nat->Int->BA->LD->Int->Option (Bool)
 | 0,_,_,_,_=>none
 | n+1,z1,s2,l3,z4=>
  (if z4<(1:Int)then IG n z1 s2 l3 z4 true else (if z1<(1:Int)then IG n z1 s2 l3 z4 true else (if (14:Int)<z1 then IG n z1 s2 l3 z4 true else IG n z1 s2 l3 z4 false)))
end
theorem T8 (n:Nat):∀⦃z1 s2 l3 z4 r1⦄,F8 n z1 s2 l3 z4=some r1->
    AW Tryz.prog inv 8 [.d (.agg [.int .u8 z1,.str s2,.list true 3 l3]),.d (.int .i64 z4)] [] (.v (.d (.bool r1))) [] []:=by
 induction n using Nat.strongRecOn with | _ n ih=>
 obtain _ | n:=n
 ·intro z1 s2 l3 z4 r1 h
  cases (show (none:Option _)=some _ from h)
 intro z1 s2 l3 z4 r1 h
 rw[F8]at h
 refine AW.of Ab AO Bp Tryz.func8 rfl (by kernel_rfl) rfl rfl rfl (fun M hM hI=>?_)
 try cbv
 refine AB ?_
 try cbv
 refine AB ?_
 try cbv
 refine AH 16 [1,2,4,16] [.loc 0] 448 (fun m b=>m<=n/\IG m z1 s2 l3 z4 b=some r1) ?_ ?_
 ·try cbv
  refine Aa (fun e=>?_) (fun e=>?_)
  ·replace h:=AJ e h
   clear e
   try cbv
   exact AA (n,true) [1,2,4,16] [.loc 0] 448 ⟨by omega,h⟩ (by cbv)
  replace h:=AK (Int.not_lt.2 e) h
  clear e
  try cbv
  refine Aa (fun e=>?_) (fun e=>?_)
  ·replace h:=AJ e h
   clear e
   try cbv
   exact AA (n,true) [1,2,4,16] [.loc 0] 448 ⟨by omega,h⟩ (by cbv)
  replace h:=AK (Int.not_lt.2 e) h
  clear e
  try cbv
  refine Aa (fun e=>?_) (fun e=>?_)
  ·replace h:=AJ e h
   clear e
   try cbv
   exact AA (n,true) [1,2,4,16] [.loc 0] 448 ⟨by omega,h⟩ (by cbv)
  replace h:=AK (Int.not_lt.2 e) h
  clear e
  try cbv
  exact AA (n,false) [1,2,4,16] [.loc 0] 448 ⟨by omega,h⟩ (by cbv)
 clear h
 rintro⟨m1,b5⟩ ⟨hm1,h⟩
 try cbv
 replace hm1:m1<=n:=hm1
 obtain _ | m1:=m1
 ·replace h:IG 0 z1 s2 l3 z4 b5=some r1:=h
  rw[IG]at h
  cases h
 replace h:IG (m1+1) z1 s2 l3 z4 b5=some r1:=h
 rw[IG]at h
 try cbv
 cases b5
 rotate_left
 ·replace h:=Aq h
  try cbv
  refine AB ?_
  try cbv
  obtain rfl:=Option.some.inj h
  refine AF ?_
  try cbv
  exact⟨[],by trivial⟩
 replace h:=Ar h
 try cbv
 refine AB ?_
 try cbv
 refine AB ?_
 try cbv
 refine AH 19 [1,2,4,18,19] [.loc 0] 768 (fun m b=>m<=m1/\I7 m z1 s2 l3 z4 b=some r1) ?_ ?_
 ·try cbv
  refine AH 19 [1,2,4,18,19] [.loc 0] 576 (fun m b=>m<=m1/\Mt m z1 s2 l3 z4 b=some r1) ?_ ?_
  ·try cbv
   refine Ah (fun e=>?_) (fun e=>?_)
   ·replace h:=AJ e h
    clear e
    try cbv
    exact AA (m1,true) [1,2,4,18,19] [.loc 0] 576 ⟨by omega,h⟩ (by cbv)
   replace h:=AK e h
   clear e
   try cbv
   exact AA (m1,false) [1,2,4,18,19] [.loc 0] 576 ⟨by omega,h⟩ (by cbv)
  clear h
  rintro⟨m2,b6⟩ ⟨hm2,h⟩
  try cbv
  replace hm2:m2<=m1:=hm2
  obtain _ | m2:=m2
  ·replace h:Mt 0 z1 s2 l3 z4 b6=some r1:=h
   rw[Mt]at h
   cases h
  replace h:Mt (m2+1) z1 s2 l3 z4 b6=some r1:=h
  rw[Mt]at h
  try cbv
  cases b6
  rotate_left
  ·replace h:=Aq h
   try cbv
   exact AA (m2,true) [1,2,4,18,19] [.loc 0] 768 ⟨by omega,h⟩ (by cbv)
  replace h:=Ar h
  try cbv
  refine AH 19 [1,2,4,18,19] [.loc 0] 640 (fun m b=>m<=m2/\Mu m z1 s2 l3 z4 b=some r1) ?_ ?_
  ·try cbv
   refine Ah (fun e=>?_) (fun e=>?_)
   ·replace h:=AJ e h
    clear e
    try cbv
    exact AA (m2,true) [1,2,4,18,19] [.loc 0] 640 ⟨by omega,h⟩ (by cbv)
   replace h:=AK e h
   clear e
   try cbv
   exact AA (m2,false) [1,2,4,18,19] [.loc 0] 640 ⟨by omega,h⟩ (by cbv)
  clear h
  rintro⟨m3,b7⟩ ⟨hm3,h⟩
  try cbv
  replace hm3:m3<=m2:=hm3
  obtain _ | m3:=m3
  ·replace h:Mu 0 z1 s2 l3 z4 b7=some r1:=h
   rw[Mu]at h
   cases h
  replace h:Mu (m3+1) z1 s2 l3 z4 b7=some r1:=h
  rw[Mu]at h
  try cbv
  cases b7
  rotate_left
  ·replace h:=Aq h
   try cbv
   exact AA (m3,true) [1,2,4,18,19] [.loc 0] 768 ⟨by omega,h⟩ (by cbv)
  replace h:=Ar h
  try cbv
  refine AH 19 [1,2,4,18,19] [.loc 0] 704 (fun m b=>m<=m3/\Mv m z1 s2 l3 z4 b=some r1) ?_ ?_
  ·try cbv
   refine Ah (fun e=>?_) (fun e=>?_)
   ·replace h:=AJ e h
    clear e
    try cbv
    exact AA (m3,true) [1,2,4,18,19] [.loc 0] 704 ⟨by omega,h⟩ (by cbv)
   replace h:=AK e h
   clear e
   try cbv
   exact AA (m3,false) [1,2,4,18,19] [.loc 0] 704 ⟨by omega,h⟩ (by cbv)
  clear h
  rintro⟨m4,b8⟩ ⟨hm4,h⟩
  try cbv
  replace hm4:m4<=m3:=hm4
  obtain _ | m4:=m4
  ·replace h:Mv 0 z1 s2 l3 z4 b8=some r1:=h
   rw[Mv]at h
   cases h
  replace h:Mv (m4+1) z1 s2 l3 z4 b8=some r1:=h
  rw[Mv]at h
  try cbv
  cases b8
  ·replace h:=Ar h
   try cbv
   refine Ah (fun e=>?_) (fun e=>?_)
   ·replace h:=AJ e h
    clear e
    try cbv
    exact AA (m4,true) [1,2,4,18,19] [.loc 0] 768 ⟨by omega,h⟩ (by cbv)
   replace h:=AK e h
   clear e
   try cbv
   exact AA (m4,false) [1,2,4,18,19] [.loc 0] 768 ⟨by omega,h⟩ (by cbv)
  replace h:=Aq h
  try cbv
  exact AA (m4,true) [1,2,4,18,19] [.loc 0] 768 ⟨by omega,h⟩ (by cbv)
 clear h
 rintro⟨m5,b9⟩ ⟨hm5,h⟩
 try cbv
 replace hm5:m5<=m1:=hm5
 obtain _ | m5:=m5
 ·replace h:I7 0 z1 s2 l3 z4 b9=some r1:=h
  rw[I7]at h
  cases h
 replace h:I7 (m5+1) z1 s2 l3 z4 b9=some r1:=h
 rw[I7]at h
 try cbv
 cases b9
 rotate_left
 ·replace h:=Aq h
  try cbv
  refine AB ?_
  try cbv
  refine Bb (fun e=>?_) (fun e=>?_)
  rotate_left
  ·replace h:=AK (BI.1 e) h
   clear e
   try cbv
   obtain rfl:=Option.some.inj h
   refine AF ?_
   try cbv
   exact⟨[],by trivial⟩
  replace h:=AJ (BC.1 e) h
  clear e
  try cbv
  replace h:=AP M h
  obtain⟨z10,hz,h⟩:=h
  refine⟨z10,hz,?_⟩
  clear hz
  try cbv
  refine Ah (fun e=>?_) (fun e=>?_)
  ·replace h:=AJ e h
   clear e
   try cbv
   obtain rfl:=Option.some.inj h
   refine AF ?_
   try cbv
   exact⟨[],by trivial⟩
  replace h:=AK e h
  clear e
  try cbv
  obtain rfl:=Option.some.inj h
  refine AF ?_
  try cbv
  exact⟨[],by trivial⟩
 replace h:=Ar h
 try cbv
 refine AH 33 [1,2,4,33] [.loc 0] 832 (fun m b=>m<=m5/\F2 m s2 l3 z4 b=some r1) ?_ ?_
 ·try cbv
  refine Ah (fun e=>?_) (fun e=>?_)
  ·replace h:=AJ e h
   clear e
   try cbv
   exact AA (m5,true) [1,2,4,33] [.loc 0] 832 ⟨by omega,h⟩ (by cbv)
  replace h:=AK e h
  clear e
  try cbv
  exact AA (m5,false) [1,2,4,33] [.loc 0] 832 ⟨by omega,h⟩ (by cbv)
 clear h
 rintro⟨m6,b11⟩ ⟨hm6,h⟩
 try cbv
 replace hm6:m6<=m5:=hm6
 obtain _ | m6:=m6
 ·replace h:F2 0 s2 l3 z4 b11=some r1:=h
  rw[F2]at h
  cases h
 replace h:F2 (m6+1) s2 l3 z4 b11=some r1:=h
 rw[F2]at h
 try cbv
 cases b11
 rotate_left
 ·replace h:=Aq h
  try cbv
  refine AB ?_
  try cbv
  replace h:=AG h
  obtain⟨b12,hr,h⟩:=h
  refine AD rfl rfl ?_
  try cbv
  refine AE hM hI (UA _ hr) rfl ?_
  clear hr
  try cbv
  cases b12
  ·replace h:=Ar h
   try cbv
   obtain rfl:=Option.some.inj h
   refine AF ?_
   try cbv
   exact⟨[],by trivial⟩
  replace h:=Aq h
  try cbv
  replace h:=AP M h
  obtain⟨z13,hz,h⟩:=h
  refine⟨z13,hz,?_⟩
  clear hz
  try cbv
  refine Ah (fun e=>?_) (fun e=>?_)
  ·replace h:=AJ e h
   clear e
   try cbv
   obtain rfl:=Option.some.inj h
   refine AF ?_
   try cbv
   exact⟨[],by trivial⟩
  replace h:=AK e h
  clear e
  try cbv
  obtain rfl:=Option.some.inj h
  refine AF ?_
  try cbv
  exact⟨[],by trivial⟩
 replace h:=Ar h
 try cbv
 refine AB ?_
 try cbv
 refine Bb (fun e=>?_) (fun e=>?_)
 rotate_left
 ·replace h:=AK (BI.1 e) h
  clear e
  try cbv
  obtain rfl:=Option.some.inj h
  refine AF ?_
  try cbv
  exact⟨[],by trivial⟩
 replace h:=AJ (BC.1 e) h
 clear e
 try cbv
 replace h:=AP M h
 obtain⟨z14,hz,h⟩:=h
 refine⟨z14,hz,?_⟩
 clear hz
 try cbv
 refine Ah (fun e=>?_) (fun e=>?_)
 rotate_left
 ·replace h:=AK e h
  clear e
  try cbv
  obtain rfl:=Option.some.inj h
  refine AF ?_
  try cbv
  exact⟨[],by trivial⟩
 replace h:=AJ e h
 clear e
 try cbv
 replace h:=Ae h
 obtain⟨x15,⟨hx0,hx⟩,h⟩:=h
 refine⟨x15,hx0,hx,?_⟩
 clear hx0 hx
 replace h:=DE h
 obtain⟨z16,s17,l18,rfl,h⟩:=h
 try cbv
 replace h:=AN h
 obtain⟨z19,hz,h⟩:=h
 refine⟨z19,hz,?_⟩
 clear hz
 try cbv
 replace h:=AG h
 obtain⟨b20,hr,h⟩:=h
 refine AD rfl rfl ?_
 try cbv
 refine AE hM hI ((ih _ (by omega)) hr) rfl ?_
 clear hr
 try cbv
 obtain rfl:=Option.some.inj h
 refine AF ?_
 try cbv
 exact⟨[],by trivial⟩
def I8:Nat->BA->LD->BA->Option (Bool)
 | 0,_,_,_=>none
 | n+1,s9,l10,s16=>
  bO1 (DX n s16 (112:Int)) fun b92=>(if b92=true then bO1 (Xh n s9 l10) fun b93=>some b93 else (if s9=ByteArray.empty then Ad l10 fun z94=>(if z94=(0:Int)then some true else some false)else some false))
def Ha:Nat->BA->LD->BA->Bool->Option (Bool)
 | 0,_,_,_,_=>none
 | n+1,s9,l10,s16,b88=>
  (if b88=true then some false else I8 n s9 l10 s16)
def I9:Nat->BA->LD->BA->Bool->Option (Bool)
 | 0,_,_,_,_=>none
 | n+1,s9,l10,s16,b91=>
  (if b91=true then some false else I8 n s9 l10 s16)
mutual
def Hb:Nat->LD->Int->BA->LD->Int->BA->LD->BA->Int->Int->Option (Bool)
 | 0,_,_,_,_,_,_,_,_,_,_=>none
 | n+1,l4,z5,s6,l7,z8,s9,l10,s16,z17,z76=>
  Ad l4 fun z77=>(if z76<z77 then JA n l4 z5 s6 l7 z8 s9 l10 s16 z17 z76 true else JA n l4 z5 s6 l7 z8 s9 l10 s16 z17 z76 false)
def JA:Nat->LD->Int->BA->LD->Int->BA->LD->BA->Int->Int->Bool->Option (Bool)
 | 0,_,_,_,_,_,_,_,_,_,_,_=>none
 | n+1,l4,z5,s6,l7,z8,s9,l10,s16,z17,z76,b78=>
  (if b78=true then BT l4 z76 fun x79=>B7 x79 fun s80=>bO1 (Ri n s80) fun b81=>Ak (!b81) fun b82=>(if b82=true then some false else Al (IntKind.wrap .i64 (z76+1)) fun z83=>Hb n l4 z5 s6 l7 z8 s9 l10 s16 z17 z83)else bO1 (DX n s16 (84:Int)) fun b84=>(if b84=true then (if z8<(1:Int)then Ha n s9 l10 s16 true else (if (8:Int)<z8 then Ha n s9 l10 s16 true else Al (IntKind.wrap .i64 (z17 - 1)) fun z85=>bO1 (F8 n z5 s6 l7 z85) fun b86=>Ak (!b86) fun b87=>Ha n s9 l10 s16 b87))else (if z8=(0:Int)then bO1 (Rh n z5 s6 l7) fun b89=>Ak (!b89) fun b90=>I9 n s9 l10 s16 b90 else I9 n s9 l10 s16 true)))
end
def Fm:Nat->LD->Int->BA->LD->Int->BA->LD->BA->Int->Bool->Option (Bool)
 | 0,_,_,_,_,_,_,_,_,_,_=>none
 | n+1,l4,z5,s6,l7,z8,s9,l10,s16,z17,b75=>
  (if b75=true then some false else Hb n l4 z5 s6 l7 z8 s9 l10 s16 z17 (0:Int))
def CK:Nat->LD->Int->BA->LD->Int->BA->LD->BA->Int->Bool->Option (Bool)
 | 0,_,_,_,_,_,_,_,_,_,_=>none
 | n+1,l4,z5,s6,l7,z8,s9,l10,s16,z17,b69=>
  (if b69=true then some false else bO1 (DX n s16 (78:Int)) fun b70=>Ak (!b70) fun b71=>(if b71=true then Ad l4 fun z72=>(if (0:Int)<z72 then Fm n l4 z5 s6 l7 z8 s9 l10 s16 z17 true else Ad l4 fun z73=>(if (6:Int)<z73 then Fm n l4 z5 s6 l7 z8 s9 l10 s16 z17 true else Fm n l4 z5 s6 l7 z8 s9 l10 s16 z17 false))else Ad l4 fun z74=>(if (6:Int)<z74 then Fm n l4 z5 s6 l7 z8 s9 l10 s16 z17 true else Fm n l4 z5 s6 l7 z8 s9 l10 s16 z17 false)))
def CL:Nat->BA->LD->Int->BA->LD->Int->BA->LD->BA->Int->Bool->Option (Bool)
 | 0,_,_,_,_,_,_,_,_,_,_,_=>none
 | n+1,s3,l4,z5,s6,l7,z8,s9,l10,s16,z17,b43=>
  (if b43=true then some false else bO1 (DX n s16 (115:Int)) fun b44=>(if b44=true then bO1 (Ri n s3) fun b45=>Ak (!b45) fun b46=>(if b46=true then CK n l4 z5 s6 l7 z8 s9 l10 s16 z17 true else bO1 (DX n s16 (121:Int)) fun b47=>(if b47=true then bO1 (Qk n s3) fun b48=>Ak (!b48) fun b49=>(if b49=true then CK n l4 z5 s6 l7 z8 s9 l10 s16 z17 true else bO1 (DX n s16 (115:Int)) fun b50=>Ak (!b50) fun b51=>(if b51=true then bO1 (DX n s16 (121:Int)) fun b52=>Ak (!b52) fun b53=>(if b53=true then (if s3=ByteArray.empty then CK n l4 z5 s6 l7 z8 s9 l10 s16 z17 false else CK n l4 z5 s6 l7 z8 s9 l10 s16 z17 true)else CK n l4 z5 s6 l7 z8 s9 l10 s16 z17 false)else CK n l4 z5 s6 l7 z8 s9 l10 s16 z17 false))else bO1 (DX n s16 (115:Int)) fun b54=>Ak (!b54) fun b55=>(if b55=true then bO1 (DX n s16 (121:Int)) fun b56=>Ak (!b56) fun b57=>(if b57=true then (if s3=ByteArray.empty then CK n l4 z5 s6 l7 z8 s9 l10 s16 z17 false else CK n l4 z5 s6 l7 z8 s9 l10 s16 z17 true)else CK n l4 z5 s6 l7 z8 s9 l10 s16 z17 false)else CK n l4 z5 s6 l7 z8 s9 l10 s16 z17 false)))else bO1 (DX n s16 (121:Int)) fun b58=>(if b58=true then bO1 (Qk n s3) fun b59=>Ak (!b59) fun b60=>(if b60=true then CK n l4 z5 s6 l7 z8 s9 l10 s16 z17 true else bO1 (DX n s16 (115:Int)) fun b61=>Ak (!b61) fun b62=>(if b62=true then bO1 (DX n s16 (121:Int)) fun b63=>Ak (!b63) fun b64=>(if b64=true then (if s3=ByteArray.empty then CK n l4 z5 s6 l7 z8 s9 l10 s16 z17 false else CK n l4 z5 s6 l7 z8 s9 l10 s16 z17 true)else CK n l4 z5 s6 l7 z8 s9 l10 s16 z17 false)else CK n l4 z5 s6 l7 z8 s9 l10 s16 z17 false))else bO1 (DX n s16 (115:Int)) fun b65=>Ak (!b65) fun b66=>(if b66=true then bO1 (DX n s16 (121:Int)) fun b67=>Ak (!b67) fun b68=>(if b68=true then (if s3=ByteArray.empty then CK n l4 z5 s6 l7 z8 s9 l10 s16 z17 false else CK n l4 z5 s6 l7 z8 s9 l10 s16 z17 true)else CK n l4 z5 s6 l7 z8 s9 l10 s16 z17 false)else CK n l4 z5 s6 l7 z8 s9 l10 s16 z17 false))))
def YR (n:Nat) (z1:Int) (s2:BA) (s3:BA) (l4:LD) (z5:Int) (s6:BA) (l7:LD) (z8:Int) (s9:BA) (l10:LD) (l11:LD) (l12:LD) (l13:LD) (l14:LD) (z15:Int) (s16:BA) (z17:Int):Option (Bool):=
 bO1 (DX n s16 (110:Int)) fun b18=>(if b18=true then bO1 (Ri n s2) fun b19=>Ak (!b19) fun b20=>(if b20=true then CL n s3 l4 z5 s6 l7 z8 s9 l10 s16 z17 true else bO1 (DX n s16 (116:Int)) fun b21=>(if b21=true then bO1 (Qk n s2) fun b22=>Ak (!b22) fun b23=>(if b23=true then CL n s3 l4 z5 s6 l7 z8 s9 l10 s16 z17 true else bO1 (DX n s16 (110:Int)) fun b24=>Ak (!b24) fun b25=>(if b25=true then bO1 (DX n s16 (116:Int)) fun b26=>Ak (!b26) fun b27=>(if b27=true then (if s2=ByteArray.empty then CL n s3 l4 z5 s6 l7 z8 s9 l10 s16 z17 false else CL n s3 l4 z5 s6 l7 z8 s9 l10 s16 z17 true)else CL n s3 l4 z5 s6 l7 z8 s9 l10 s16 z17 false)else CL n s3 l4 z5 s6 l7 z8 s9 l10 s16 z17 false))else bO1 (DX n s16 (110:Int)) fun b28=>Ak (!b28) fun b29=>(if b29=true then bO1 (DX n s16 (116:Int)) fun b30=>Ak (!b30) fun b31=>(if b31=true then (if s2=ByteArray.empty then CL n s3 l4 z5 s6 l7 z8 s9 l10 s16 z17 false else CL n s3 l4 z5 s6 l7 z8 s9 l10 s16 z17 true)else CL n s3 l4 z5 s6 l7 z8 s9 l10 s16 z17 false)else CL n s3 l4 z5 s6 l7 z8 s9 l10 s16 z17 false)))else bO1 (DX n s16 (116:Int)) fun b32=>(if b32=true then bO1 (Qk n s2) fun b33=>Ak (!b33) fun b34=>(if b34=true then CL n s3 l4 z5 s6 l7 z8 s9 l10 s16 z17 true else bO1 (DX n s16 (110:Int)) fun b35=>Ak (!b35) fun b36=>(if b36=true then bO1 (DX n s16 (116:Int)) fun b37=>Ak (!b37) fun b38=>(if b38=true then (if s2=ByteArray.empty then CL n s3 l4 z5 s6 l7 z8 s9 l10 s16 z17 false else CL n s3 l4 z5 s6 l7 z8 s9 l10 s16 z17 true)else CL n s3 l4 z5 s6 l7 z8 s9 l10 s16 z17 false)else CL n s3 l4 z5 s6 l7 z8 s9 l10 s16 z17 false))else bO1 (DX n s16 (110:Int)) fun b39=>Ak (!b39) fun b40=>(if b40=true then bO1 (DX n s16 (116:Int)) fun b41=>Ak (!b41) fun b42=>(if b42=true then (if s2=ByteArray.empty then CL n s3 l4 z5 s6 l7 z8 s9 l10 s16 z17 false else CL n s3 l4 z5 s6 l7 z8 s9 l10 s16 z17 true)else CL n s3 l4 z5 s6 l7 z8 s9 l10 s16 z17 false)else CL n s3 l4 z5 s6 l7 z8 s9 l10 s16 z17 false)))
theorem cD (n:Nat):∀⦃z1 s2 s3 l4 z5 s6 l7 z8 s9 l10 l11 l12 l13 l14 z15 s16 z17 r1⦄,YR n z1 s2 s3 l4 z5 s6 l7 z8 s9 l10 l11 l12 l13 l14 z15 s16 z17=some r1->
    AW Tryz.prog inv 89 [.d (.agg [.int .u8 z1,.str s2,.str s3,.list false 1 l4,.int .u8 z5,.str s6,.list true 3 l7,.int .i64 z8,.str s9,.list false 1 l10,.list true 8 l11,.list true 15 l12,.list true 15 l13,.list true 3 l14,.int .i64 z15]),.d (.str s16),.d (.int .i64 z17)] [] (.v (.d (.bool r1))) [] []:=by
 intro z1 s2 s3 l4 z5 s6 l7 z8 s9 l10 l11 l12 l13 l14 z15 s16 z17 r1 h
 unfold YR at h
 refine AW.of Ab AO Bp Tryz.func89 rfl (by kernel_rfl) rfl rfl rfl (fun M hM hI=>?_)
 try cbv
 refine AB ?_
 try cbv
 refine AB ?_
 try cbv
 refine AH 40 [1,2,3,6,40] [.loc 0] 1120 (fun m b=>m<=n/\CL m s3 l4 z5 s6 l7 z8 s9 l10 s16 z17 b=some r1) ?_ ?_
 ·try cbv
  replace h:=AG h
  obtain⟨b18,hr,h⟩:=h
  refine AD rfl rfl ?_
  try cbv
  refine AE hM hI (Dp _ hr) rfl ?_
  clear hr
  try cbv
  cases b18
  ·replace h:=Ar h
   try cbv
   replace h:=AG h
   obtain⟨b32,hr,h⟩:=h
   refine AD rfl rfl ?_
   try cbv
   refine AE hM hI (Dp _ hr) rfl ?_
   clear hr
   try cbv
   cases b32
   ·replace h:=Ar h
    try cbv
    replace h:=AG h
    obtain⟨b39,hr,h⟩:=h
    refine AD rfl rfl ?_
    try cbv
    refine AE hM hI (Dp _ hr) rfl ?_
    clear hr
    try cbv
    replace h:=AL h
    obtain⟨b40,hz,h⟩:=h
    refine⟨b40,AU hz,?_⟩
    clear hz
    try cbv
    cases b40
    ·replace h:=Ar h
     try cbv
     exact AA (n,false) [1,2,3,6,40] [.loc 0] 1120 ⟨by omega,h⟩ (by cbv)
    replace h:=Aq h
    try cbv
    replace h:=AG h
    obtain⟨b41,hr,h⟩:=h
    refine AD rfl rfl ?_
    try cbv
    refine AE hM hI (Dp _ hr) rfl ?_
    clear hr
    try cbv
    replace h:=AL h
    obtain⟨b42,hz,h⟩:=h
    refine⟨b42,AU hz,?_⟩
    clear hz
    try cbv
    cases b42
    ·replace h:=Ar h
     try cbv
     exact AA (n,false) [1,2,3,6,40] [.loc 0] 1120 ⟨by omega,h⟩ (by cbv)
    replace h:=Aq h
    try cbv
    refine Bb (fun e=>?_) (fun e=>?_)
    ·replace h:=AJ (BC.1 e) h
     clear e
     try cbv
     exact AA (n,false) [1,2,3,6,40] [.loc 0] 1120 ⟨by omega,h⟩ (by cbv)
    replace h:=AK (BI.1 e) h
    clear e
    try cbv
    exact AA (n,true) [1,2,3,6,40] [.loc 0] 1120 ⟨by omega,h⟩ (by cbv)
   replace h:=Aq h
   try cbv
   replace h:=AG h
   obtain⟨b33,hr,h⟩:=h
   refine AD rfl rfl ?_
   try cbv
   refine AE hM hI (UA _ hr) rfl ?_
   clear hr
   try cbv
   replace h:=AL h
   obtain⟨b34,hz,h⟩:=h
   refine⟨b34,AU hz,?_⟩
   clear hz
   try cbv
   cases b34
   rotate_left
   ·replace h:=Aq h
    try cbv
    exact AA (n,true) [1,2,3,6,40] [.loc 0] 1120 ⟨by omega,h⟩ (by cbv)
   replace h:=Ar h
   try cbv
   replace h:=AG h
   obtain⟨b35,hr,h⟩:=h
   refine AD rfl rfl ?_
   try cbv
   refine AE hM hI (Dp _ hr) rfl ?_
   clear hr
   try cbv
   replace h:=AL h
   obtain⟨b36,hz,h⟩:=h
   refine⟨b36,AU hz,?_⟩
   clear hz
   try cbv
   cases b36
   ·replace h:=Ar h
    try cbv
    exact AA (n,false) [1,2,3,6,40] [.loc 0] 1120 ⟨by omega,h⟩ (by cbv)
   replace h:=Aq h
   try cbv
   replace h:=AG h
   obtain⟨b37,hr,h⟩:=h
   refine AD rfl rfl ?_
   try cbv
   refine AE hM hI (Dp _ hr) rfl ?_
   clear hr
   try cbv
   replace h:=AL h
   obtain⟨b38,hz,h⟩:=h
   refine⟨b38,AU hz,?_⟩
   clear hz
   try cbv
   cases b38
   ·replace h:=Ar h
    try cbv
    exact AA (n,false) [1,2,3,6,40] [.loc 0] 1120 ⟨by omega,h⟩ (by cbv)
   replace h:=Aq h
   try cbv
   refine Bb (fun e=>?_) (fun e=>?_)
   ·replace h:=AJ (BC.1 e) h
    clear e
    try cbv
    exact AA (n,false) [1,2,3,6,40] [.loc 0] 1120 ⟨by omega,h⟩ (by cbv)
   replace h:=AK (BI.1 e) h
   clear e
   try cbv
   exact AA (n,true) [1,2,3,6,40] [.loc 0] 1120 ⟨by omega,h⟩ (by cbv)
  replace h:=Aq h
  try cbv
  replace h:=AG h
  obtain⟨b19,hr,h⟩:=h
  refine AD rfl rfl ?_
  try cbv
  refine AE hM hI (Uu _ hr) rfl ?_
  clear hr
  try cbv
  replace h:=AL h
  obtain⟨b20,hz,h⟩:=h
  refine⟨b20,AU hz,?_⟩
  clear hz
  try cbv
  cases b20
  rotate_left
  ·replace h:=Aq h
   try cbv
   exact AA (n,true) [1,2,3,6,40] [.loc 0] 1120 ⟨by omega,h⟩ (by cbv)
  replace h:=Ar h
  try cbv
  replace h:=AG h
  obtain⟨b21,hr,h⟩:=h
  refine AD rfl rfl ?_
  try cbv
  refine AE hM hI (Dp _ hr) rfl ?_
  clear hr
  try cbv
  cases b21
  ·replace h:=Ar h
   try cbv
   replace h:=AG h
   obtain⟨b28,hr,h⟩:=h
   refine AD rfl rfl ?_
   try cbv
   refine AE hM hI (Dp _ hr) rfl ?_
   clear hr
   try cbv
   replace h:=AL h
   obtain⟨b29,hz,h⟩:=h
   refine⟨b29,AU hz,?_⟩
   clear hz
   try cbv
   cases b29
   ·replace h:=Ar h
    try cbv
    exact AA (n,false) [1,2,3,6,40] [.loc 0] 1120 ⟨by omega,h⟩ (by cbv)
   replace h:=Aq h
   try cbv
   replace h:=AG h
   obtain⟨b30,hr,h⟩:=h
   refine AD rfl rfl ?_
   try cbv
   refine AE hM hI (Dp _ hr) rfl ?_
   clear hr
   try cbv
   replace h:=AL h
   obtain⟨b31,hz,h⟩:=h
   refine⟨b31,AU hz,?_⟩
   clear hz
   try cbv
   cases b31
   ·replace h:=Ar h
    try cbv
    exact AA (n,false) [1,2,3,6,40] [.loc 0] 1120 ⟨by omega,h⟩ (by cbv)
   replace h:=Aq h
   try cbv
   refine Bb (fun e=>?_) (fun e=>?_)
   ·replace h:=AJ (BC.1 e) h
    clear e
    try cbv
    exact AA (n,false) [1,2,3,6,40] [.loc 0] 1120 ⟨by omega,h⟩ (by cbv)
   replace h:=AK (BI.1 e) h
   clear e
   try cbv
   exact AA (n,true) [1,2,3,6,40] [.loc 0] 1120 ⟨by omega,h⟩ (by cbv)
  replace h:=Aq h
  try cbv
  replace h:=AG h
  obtain⟨b22,hr,h⟩:=h
  refine AD rfl rfl ?_
  try cbv
  refine AE hM hI (UA _ hr) rfl ?_
  clear hr
  try cbv
  replace h:=AL h
  obtain⟨b23,hz,h⟩:=h
  refine⟨b23,AU hz,?_⟩
  clear hz
  try cbv
  cases b23
  rotate_left
  ·replace h:=Aq h
   try cbv
   exact AA (n,true) [1,2,3,6,40] [.loc 0] 1120 ⟨by omega,h⟩ (by cbv)
  replace h:=Ar h
  try cbv
  replace h:=AG h
  obtain⟨b24,hr,h⟩:=h
  refine AD rfl rfl ?_
  try cbv
  refine AE hM hI (Dp _ hr) rfl ?_
  clear hr
  try cbv
  replace h:=AL h
  obtain⟨b25,hz,h⟩:=h
  refine⟨b25,AU hz,?_⟩
  clear hz
  try cbv
  cases b25
  ·replace h:=Ar h
   try cbv
   exact AA (n,false) [1,2,3,6,40] [.loc 0] 1120 ⟨by omega,h⟩ (by cbv)
  replace h:=Aq h
  try cbv
  replace h:=AG h
  obtain⟨b26,hr,h⟩:=h
  refine AD rfl rfl ?_
  try cbv
  refine AE hM hI (Dp _ hr) rfl ?_
  clear hr
  try cbv
  replace h:=AL h
  obtain⟨b27,hz,h⟩:=h
  refine⟨b27,AU hz,?_⟩
  clear hz
  try cbv
  cases b27
  ·replace h:=Ar h
   try cbv
   exact AA (n,false) [1,2,3,6,40] [.loc 0] 1120 ⟨by omega,h⟩ (by cbv)
  replace h:=Aq h
  try cbv
  refine Bb (fun e=>?_) (fun e=>?_)
  ·replace h:=AJ (BC.1 e) h
   clear e
   try cbv
   exact AA (n,false) [1,2,3,6,40] [.loc 0] 1120 ⟨by omega,h⟩ (by cbv)
  replace h:=AK (BI.1 e) h
  clear e
  try cbv
  exact AA (n,true) [1,2,3,6,40] [.loc 0] 1120 ⟨by omega,h⟩ (by cbv)
 clear h
 rintro⟨m1,b43⟩ ⟨hm1,h⟩
 try cbv
 replace hm1:m1<=n:=hm1
 obtain _ | m1:=m1
 ·replace h:CL 0 s3 l4 z5 s6 l7 z8 s9 l10 s16 z17 b43=some r1:=h
  rw[CL]at h
  cases h
 replace h:CL (m1+1) s3 l4 z5 s6 l7 z8 s9 l10 s16 z17 b43=some r1:=h
 rw[CL]at h
 try cbv
 cases b43
 rotate_left
 ·replace h:=Aq h
  try cbv
  refine AB ?_
  try cbv
  obtain rfl:=Option.some.inj h
  refine AF ?_
  try cbv
  exact⟨[],by trivial⟩
 replace h:=Ar h
 try cbv
 refine AB ?_
 try cbv
 refine AH 73 [1,2,3,6,73] [.loc 0] 2176 (fun m b=>m<=m1/\CK m l4 z5 s6 l7 z8 s9 l10 s16 z17 b=some r1) ?_ ?_
 ·try cbv
  replace h:=AG h
  obtain⟨b44,hr,h⟩:=h
  refine AD rfl rfl ?_
  try cbv
  refine AE hM hI (Dp _ hr) rfl ?_
  clear hr
  try cbv
  cases b44
  ·replace h:=Ar h
   try cbv
   replace h:=AG h
   obtain⟨b58,hr,h⟩:=h
   refine AD rfl rfl ?_
   try cbv
   refine AE hM hI (Dp _ hr) rfl ?_
   clear hr
   try cbv
   cases b58
   ·replace h:=Ar h
    try cbv
    replace h:=AG h
    obtain⟨b65,hr,h⟩:=h
    refine AD rfl rfl ?_
    try cbv
    refine AE hM hI (Dp _ hr) rfl ?_
    clear hr
    try cbv
    replace h:=AL h
    obtain⟨b66,hz,h⟩:=h
    refine⟨b66,AU hz,?_⟩
    clear hz
    try cbv
    cases b66
    ·replace h:=Ar h
     try cbv
     exact AA (m1,false) [1,2,3,6,73] [.loc 0] 2176 ⟨by omega,h⟩ (by cbv)
    replace h:=Aq h
    try cbv
    replace h:=AG h
    obtain⟨b67,hr,h⟩:=h
    refine AD rfl rfl ?_
    try cbv
    refine AE hM hI (Dp _ hr) rfl ?_
    clear hr
    try cbv
    replace h:=AL h
    obtain⟨b68,hz,h⟩:=h
    refine⟨b68,AU hz,?_⟩
    clear hz
    try cbv
    cases b68
    ·replace h:=Ar h
     try cbv
     exact AA (m1,false) [1,2,3,6,73] [.loc 0] 2176 ⟨by omega,h⟩ (by cbv)
    replace h:=Aq h
    try cbv
    refine Bb (fun e=>?_) (fun e=>?_)
    ·replace h:=AJ (BC.1 e) h
     clear e
     try cbv
     exact AA (m1,false) [1,2,3,6,73] [.loc 0] 2176 ⟨by omega,h⟩ (by cbv)
    replace h:=AK (BI.1 e) h
    clear e
    try cbv
    exact AA (m1,true) [1,2,3,6,73] [.loc 0] 2176 ⟨by omega,h⟩ (by cbv)
   replace h:=Aq h
   try cbv
   replace h:=AG h
   obtain⟨b59,hr,h⟩:=h
   refine AD rfl rfl ?_
   try cbv
   refine AE hM hI (UA _ hr) rfl ?_
   clear hr
   try cbv
   replace h:=AL h
   obtain⟨b60,hz,h⟩:=h
   refine⟨b60,AU hz,?_⟩
   clear hz
   try cbv
   cases b60
   rotate_left
   ·replace h:=Aq h
    try cbv
    exact AA (m1,true) [1,2,3,6,73] [.loc 0] 2176 ⟨by omega,h⟩ (by cbv)
   replace h:=Ar h
   try cbv
   replace h:=AG h
   obtain⟨b61,hr,h⟩:=h
   refine AD rfl rfl ?_
   try cbv
   refine AE hM hI (Dp _ hr) rfl ?_
   clear hr
   try cbv
   replace h:=AL h
   obtain⟨b62,hz,h⟩:=h
   refine⟨b62,AU hz,?_⟩
   clear hz
   try cbv
   cases b62
   ·replace h:=Ar h
    try cbv
    exact AA (m1,false) [1,2,3,6,73] [.loc 0] 2176 ⟨by omega,h⟩ (by cbv)
   replace h:=Aq h
   try cbv
   replace h:=AG h
   obtain⟨b63,hr,h⟩:=h
   refine AD rfl rfl ?_
   try cbv
   refine AE hM hI (Dp _ hr) rfl ?_
   clear hr
   try cbv
   replace h:=AL h
   obtain⟨b64,hz,h⟩:=h
   refine⟨b64,AU hz,?_⟩
   clear hz
   try cbv
   cases b64
   ·replace h:=Ar h
    try cbv
    exact AA (m1,false) [1,2,3,6,73] [.loc 0] 2176 ⟨by omega,h⟩ (by cbv)
   replace h:=Aq h
   try cbv
   refine Bb (fun e=>?_) (fun e=>?_)
   ·replace h:=AJ (BC.1 e) h
    clear e
    try cbv
    exact AA (m1,false) [1,2,3,6,73] [.loc 0] 2176 ⟨by omega,h⟩ (by cbv)
   replace h:=AK (BI.1 e) h
   clear e
   try cbv
   exact AA (m1,true) [1,2,3,6,73] [.loc 0] 2176 ⟨by omega,h⟩ (by cbv)
  replace h:=Aq h
  try cbv
  replace h:=AG h
  obtain⟨b45,hr,h⟩:=h
  refine AD rfl rfl ?_
  try cbv
  refine AE hM hI (Uu _ hr) rfl ?_
  clear hr
  try cbv
  replace h:=AL h
  obtain⟨b46,hz,h⟩:=h
  refine⟨b46,AU hz,?_⟩
  clear hz
  try cbv
  cases b46
  rotate_left
  ·replace h:=Aq h
   try cbv
   exact AA (m1,true) [1,2,3,6,73] [.loc 0] 2176 ⟨by omega,h⟩ (by cbv)
  replace h:=Ar h
  try cbv
  replace h:=AG h
  obtain⟨b47,hr,h⟩:=h
  refine AD rfl rfl ?_
  try cbv
  refine AE hM hI (Dp _ hr) rfl ?_
  clear hr
  try cbv
  cases b47
  ·replace h:=Ar h
   try cbv
   replace h:=AG h
   obtain⟨b54,hr,h⟩:=h
   refine AD rfl rfl ?_
   try cbv
   refine AE hM hI (Dp _ hr) rfl ?_
   clear hr
   try cbv
   replace h:=AL h
   obtain⟨b55,hz,h⟩:=h
   refine⟨b55,AU hz,?_⟩
   clear hz
   try cbv
   cases b55
   ·replace h:=Ar h
    try cbv
    exact AA (m1,false) [1,2,3,6,73] [.loc 0] 2176 ⟨by omega,h⟩ (by cbv)
   replace h:=Aq h
   try cbv
   replace h:=AG h
   obtain⟨b56,hr,h⟩:=h
   refine AD rfl rfl ?_
   try cbv
   refine AE hM hI (Dp _ hr) rfl ?_
   clear hr
   try cbv
   replace h:=AL h
   obtain⟨b57,hz,h⟩:=h
   refine⟨b57,AU hz,?_⟩
   clear hz
   try cbv
   cases b57
   ·replace h:=Ar h
    try cbv
    exact AA (m1,false) [1,2,3,6,73] [.loc 0] 2176 ⟨by omega,h⟩ (by cbv)
   replace h:=Aq h
   try cbv
   refine Bb (fun e=>?_) (fun e=>?_)
   ·replace h:=AJ (BC.1 e) h
    clear e
    try cbv
    exact AA (m1,false) [1,2,3,6,73] [.loc 0] 2176 ⟨by omega,h⟩ (by cbv)
   replace h:=AK (BI.1 e) h
   clear e
   try cbv
   exact AA (m1,true) [1,2,3,6,73] [.loc 0] 2176 ⟨by omega,h⟩ (by cbv)
  replace h:=Aq h
  try cbv
  replace h:=AG h
  obtain⟨b48,hr,h⟩:=h
  refine AD rfl rfl ?_
  try cbv
  refine AE hM hI (UA _ hr) rfl ?_
  clear hr
  try cbv
  replace h:=AL h
  obtain⟨b49,hz,h⟩:=h
  refine⟨b49,AU hz,?_⟩
  clear hz
  try cbv
  cases b49
  rotate_left
  ·replace h:=Aq h
   try cbv
   exact AA (m1,true) [1,2,3,6,73] [.loc 0] 2176 ⟨by omega,h⟩ (by cbv)
  replace h:=Ar h
  try cbv
  replace h:=AG h
  obtain⟨b50,hr,h⟩:=h
  refine AD rfl rfl ?_
  try cbv
  refine AE hM hI (Dp _ hr) rfl ?_
  clear hr
  try cbv
  replace h:=AL h
  obtain⟨b51,hz,h⟩:=h
  refine⟨b51,AU hz,?_⟩
  clear hz
  try cbv
  cases b51
  ·replace h:=Ar h
   try cbv
   exact AA (m1,false) [1,2,3,6,73] [.loc 0] 2176 ⟨by omega,h⟩ (by cbv)
  replace h:=Aq h
  try cbv
  replace h:=AG h
  obtain⟨b52,hr,h⟩:=h
  refine AD rfl rfl ?_
  try cbv
  refine AE hM hI (Dp _ hr) rfl ?_
  clear hr
  try cbv
  replace h:=AL h
  obtain⟨b53,hz,h⟩:=h
  refine⟨b53,AU hz,?_⟩
  clear hz
  try cbv
  cases b53
  ·replace h:=Ar h
   try cbv
   exact AA (m1,false) [1,2,3,6,73] [.loc 0] 2176 ⟨by omega,h⟩ (by cbv)
  replace h:=Aq h
  try cbv
  refine Bb (fun e=>?_) (fun e=>?_)
  ·replace h:=AJ (BC.1 e) h
   clear e
   try cbv
   exact AA (m1,false) [1,2,3,6,73] [.loc 0] 2176 ⟨by omega,h⟩ (by cbv)
  replace h:=AK (BI.1 e) h
  clear e
  try cbv
  exact AA (m1,true) [1,2,3,6,73] [.loc 0] 2176 ⟨by omega,h⟩ (by cbv)
 clear h
 rintro⟨m2,b69⟩ ⟨hm2,h⟩
 try cbv
 replace hm2:m2<=m1:=hm2
 obtain _ | m2:=m2
 ·replace h:CK 0 l4 z5 s6 l7 z8 s9 l10 s16 z17 b69=some r1:=h
  rw[CK]at h
  cases h
 replace h:CK (m2+1) l4 z5 s6 l7 z8 s9 l10 s16 z17 b69=some r1:=h
 rw[CK]at h
 try cbv
 cases b69
 rotate_left
 ·replace h:=Aq h
  try cbv
  refine AB ?_
  try cbv
  obtain rfl:=Option.some.inj h
  refine AF ?_
  try cbv
  exact⟨[],by trivial⟩
 replace h:=Ar h
 try cbv
 refine AB ?_
 try cbv
 refine AH 88 [1,2,3,6,88] [.loc 0] 2656 (fun m b=>m<=m2/\Fm m l4 z5 s6 l7 z8 s9 l10 s16 z17 b=some r1) ?_ ?_
 ·try cbv
  replace h:=AG h
  obtain⟨b70,hr,h⟩:=h
  refine AD rfl rfl ?_
  try cbv
  refine AE hM hI (Dp _ hr) rfl ?_
  clear hr
  try cbv
  replace h:=AL h
  obtain⟨b71,hz,h⟩:=h
  refine⟨b71,AU hz,?_⟩
  clear hz
  try cbv
  cases b71
  ·replace h:=Ar h
   try cbv
   replace h:=AP M h
   obtain⟨z74,hz,h⟩:=h
   refine⟨z74,hz,?_⟩
   clear hz
   try cbv
   refine Aa (fun e=>?_) (fun e=>?_)
   ·replace h:=AJ e h
    clear e
    try cbv
    exact AA (m2,true) [1,2,3,6,88] [.loc 0] 2656 ⟨by omega,h⟩ (by cbv)
   replace h:=AK (Int.not_lt.2 e) h
   clear e
   try cbv
   exact AA (m2,false) [1,2,3,6,88] [.loc 0] 2656 ⟨by omega,h⟩ (by cbv)
  replace h:=Aq h
  try cbv
  replace h:=AP M h
  obtain⟨z72,hz,h⟩:=h
  refine⟨z72,hz,?_⟩
  clear hz
  try cbv
  refine Aa (fun e=>?_) (fun e=>?_)
  ·replace h:=AJ e h
   clear e
   try cbv
   exact AA (m2,true) [1,2,3,6,88] [.loc 0] 2656 ⟨by omega,h⟩ (by cbv)
  replace h:=AK (Int.not_lt.2 e) h
  clear e
  try cbv
  replace h:=AP M h
  obtain⟨z73,hz,h⟩:=h
  refine⟨z73,hz,?_⟩
  clear hz
  try cbv
  refine Aa (fun e=>?_) (fun e=>?_)
  ·replace h:=AJ e h
   clear e
   try cbv
   exact AA (m2,true) [1,2,3,6,88] [.loc 0] 2656 ⟨by omega,h⟩ (by cbv)
  replace h:=AK (Int.not_lt.2 e) h
  clear e
  try cbv
  exact AA (m2,false) [1,2,3,6,88] [.loc 0] 2656 ⟨by omega,h⟩ (by cbv)
 clear h
 rintro⟨m3,b75⟩ ⟨hm3,h⟩
 try cbv
 replace hm3:m3<=m2:=hm3
 obtain _ | m3:=m3
 ·replace h:Fm 0 l4 z5 s6 l7 z8 s9 l10 s16 z17 b75=some r1:=h
  rw[Fm]at h
  cases h
 replace h:Fm (m3+1) l4 z5 s6 l7 z8 s9 l10 s16 z17 b75=some r1:=h
 rw[Fm]at h
 try cbv
 cases b75
 rotate_left
 ·replace h:=Aq h
  try cbv
  refine AB ?_
  try cbv
  obtain rfl:=Option.some.inj h
  refine AF ?_
  try cbv
  exact⟨[],by trivial⟩
 replace h:=Ar h
 try cbv
 refine AB ?_
 try cbv
 refine AB ?_
 try cbv
 refine BF (T:=Nat×Int) [1,2,3,6,7] [.loc 0] 2688 (fun t=>⟨[sS 1 s16,sI 2 z17,sL 3 0,sB 6 false,sI 7 t.2],[(.loc 0,.cells [.d (.int .u8 z1),.d (.str s2),.d (.str s3),.d (.list false 1 l4),.d (.int .u8 z5),.d (.str s6),.d (.list true 3 l7),.d (.int .i64 z8),.d (.str s9),.d (.list false 1 l10),.d (.list true 8 l11),.d (.list true 15 l12),.d (.list true 15 l13),.d (.list true 3 l14),.d (.int .i64 z15)])],2688⟩)
   (fun t=>t.1<=m3/\Hb t.1 l4 z5 s6 l7 z8 s9 l10 s16 z17 t.2=some r1) (fun t=>t.1) (m3,(0:Int)) ⟨Nat.le_refl _,h⟩ (by cbv) ?_
 clear h
 rintro⟨m4,z76⟩ ⟨hm4,h⟩
 replace hm4:m4<=m3:=hm4
 obtain _ | m4:=m4
 ·replace h:Hb 0 l4 z5 s6 l7 z8 s9 l10 s16 z17 z76=some r1:=h
  rw[Hb]at h
  cases h
 replace h:Hb (m4+1) l4 z5 s6 l7 z8 s9 l10 s16 z17 z76=some r1:=h
 rw[Hb]at h
 try cbv
 refine AB ?_
 try cbv
 refine AH 93 [1,2,3,6,7,93] [.loc 0] 2848 (fun m b=>m<=m4/\JA m l4 z5 s6 l7 z8 s9 l10 s16 z17 z76 b=some r1) ?_ ?_
 ·try cbv
  replace h:=AP M h
  obtain⟨z77,hz,h⟩:=h
  refine⟨z77,hz,?_⟩
  clear hz
  try cbv
  refine Aa (fun e=>?_) (fun e=>?_)
  ·replace h:=AJ e h
   clear e
   try cbv
   exact AA (m4,true) [1,2,3,6,7,93] [.loc 0] 2848 ⟨by omega,h⟩ (by cbv)
  replace h:=AK (Int.not_lt.2 e) h
  clear e
  try cbv
  exact AA (m4,false) [1,2,3,6,7,93] [.loc 0] 2848 ⟨by omega,h⟩ (by cbv)
 clear h
 rintro⟨m5,b78⟩ ⟨hm5,h⟩
 try cbv
 replace hm5:m5<=m4:=hm5
 obtain _ | m5:=m5
 ·replace h:JA 0 l4 z5 s6 l7 z8 s9 l10 s16 z17 z76 b78=some r1:=h
  rw[JA]at h
  cases h
 replace h:JA (m5+1) l4 z5 s6 l7 z8 s9 l10 s16 z17 z76 b78=some r1:=h
 rw[JA]at h
 try cbv
 cases b78
 rotate_left
 ·replace h:=Aq h
  try cbv
  refine AB ?_
  try cbv
  refine AB ?_
  try cbv
  replace h:=Ae h
  obtain⟨x79,⟨hx0,hx⟩,h⟩:=h
  refine⟨x79,hx0,hx,?_⟩
  clear hx0 hx
  replace h:=B3 h
  obtain⟨s80,rfl,h⟩:=h
  try cbv
  replace h:=AG h
  obtain⟨b81,hr,h⟩:=h
  refine AD rfl rfl ?_
  try cbv
  refine AE hM hI (Uu _ hr) rfl ?_
  clear hr
  try cbv
  replace h:=AL h
  obtain⟨b82,hz,h⟩:=h
  refine⟨b82,AU hz,?_⟩
  clear hz
  try cbv
  cases b82
  ·replace h:=Ar h
   try cbv
   replace h:=AN h
   obtain⟨z83,hz,h⟩:=h
   refine⟨z83,hz,?_⟩
   clear hz
   try cbv
   exact An (m5,z83) [1,2,3,6,7] [.loc 0] 2688 ⟨by omega,h⟩ (Nat.lt_succ_of_le (by omega)) (by cbv)
  replace h:=Aq h
  try cbv
  refine AB ?_
  try cbv
  obtain rfl:=Option.some.inj h
  refine AF ?_
  try cbv
  exact⟨[],by trivial⟩
 replace h:=Ar h
 try cbv
 refine Aw (T:=Nat×Unit) (fun t=>⟨[sS 1 s16,sL 3 0,sB 6 false],[(.loc 0,.cells [.d (.int .u8 z1),.d (.str s2),.d (.str s3),.d (.list false 1 l4),.d (.int .u8 z5),.d (.str s6),.d (.list true 3 l7),.d (.int .i64 z8),.d (.str s9),.d (.list false 1 l10),.d (.list true 8 l11),.d (.list true 15 l12),.d (.list true 15 l13),.d (.list true 3 l14),.d (.int .i64 z15)])],3424⟩) (fun t=>t.1<=m5/\I8 t.1 s9 l10 s16=some r1) ?_ ?_
 rotate_left
 ·clear h
  rintro⟨m8,_⟩ ⟨hm8,h⟩
  replace hm8:m8<=m5:=hm8
  obtain _ | m8:=m8
  ·replace h:I8 0 s9 l10 s16=some r1:=h
   rw[I8]at h
   cases h
  replace h:I8 (m8+1) s9 l10 s16=some r1:=h
  rw[I8]at h
  try cbv
  refine AB ?_
  try cbv
  refine AB ?_
  try cbv
  replace h:=AG h
  obtain⟨b92,hr,h⟩:=h
  refine AD rfl rfl ?_
  try cbv
  refine AE hM hI (Dp _ hr) rfl ?_
  clear hr
  try cbv
  cases b92
  rotate_left
  ·replace h:=Aq h
   try cbv
   refine AB ?_
   try cbv
   replace h:=AG h
   obtain⟨b93,hr,h⟩:=h
   refine AD rfl rfl ?_
   try cbv
   refine AE hM hI (bF _ hr) rfl ?_
   clear hr
   try cbv
   obtain rfl:=Option.some.inj h
   refine AF ?_
   try cbv
   exact⟨[],by trivial⟩
  replace h:=Ar h
  try cbv
  refine AB ?_
  try cbv
  refine Bb (fun e=>?_) (fun e=>?_)
  rotate_left
  ·replace h:=AK (BI.1 e) h
   clear e
   try cbv
   obtain rfl:=Option.some.inj h
   refine AF ?_
   try cbv
   exact⟨[],by trivial⟩
  replace h:=AJ (BC.1 e) h
  clear e
  try cbv
  replace h:=AP M h
  obtain⟨z94,hz,h⟩:=h
  refine⟨z94,hz,?_⟩
  clear hz
  try cbv
  refine Ah (fun e=>?_) (fun e=>?_)
  ·replace h:=AJ e h
   clear e
   try cbv
   obtain rfl:=Option.some.inj h
   refine AF ?_
   try cbv
   exact⟨[],by trivial⟩
  replace h:=AK e h
  clear e
  try cbv
  obtain rfl:=Option.some.inj h
  refine AF ?_
  try cbv
  exact⟨[],by trivial⟩
 try cbv
 refine AB ?_
 try cbv
 replace h:=AG h
 obtain⟨b84,hr,h⟩:=h
 refine AD rfl rfl ?_
 try cbv
 refine AE hM hI (Dp _ hr) rfl ?_
 clear hr
 try cbv
 cases b84
 ·replace h:=Ar h
  try cbv
  refine AH 129 [1,3,6,129] [.loc 0] 3200 (fun m b=>m<=m5/\I9 m s9 l10 s16 b=some r1) ?_ ?_
  ·try cbv
   refine Ah (fun e=>?_) (fun e=>?_)
   ·replace h:=AJ e h
    clear e
    try cbv
    replace h:=AG h
    obtain⟨b89,hr,h⟩:=h
    refine AD rfl rfl ?_
    try cbv
    refine AE hM hI (Za _ hr) rfl ?_
    clear hr
    try cbv
    replace h:=AL h
    obtain⟨b90,hz,h⟩:=h
    refine⟨b90,AU hz,?_⟩
    clear hz
    try cbv
    exact AA (m5,b90) [1,3,6,129] [.loc 0] 3200 ⟨by omega,h⟩ (by cbv)
   replace h:=AK e h
   clear e
   try cbv
   exact AA (m5,true) [1,3,6,129] [.loc 0] 3200 ⟨by omega,h⟩ (by cbv)
  clear h
  rintro⟨m7,b91⟩ ⟨hm7,h⟩
  try cbv
  replace hm7:m7<=m5:=hm7
  obtain _ | m7:=m7
  ·replace h:I9 0 s9 l10 s16 b91=some r1:=h
   rw[I9]at h
   cases h
  replace h:I9 (m7+1) s9 l10 s16 b91=some r1:=h
  rw[I9]at h
  try cbv
  cases b91
  ·replace h:=Ar h
   try cbv
   exact AA (m7,()) [1,3,6] [.loc 0] 3424 ⟨by omega,h⟩ (by cbv)
  replace h:=Aq h
  try cbv
  refine AB ?_
  try cbv
  obtain rfl:=Option.some.inj h
  refine AF ?_
  try cbv
  exact⟨[],by trivial⟩
 replace h:=Aq h
 try cbv
 refine AH 120 [1,3,6,120] [.loc 0] 3424 (fun m b=>m<=m5/\Ha m s9 l10 s16 b=some r1) ?_ ?_
 rotate_left
 ·clear h
  rintro⟨m6,b88⟩ ⟨hm6,h⟩
  try cbv
  replace hm6:m6<=m5:=hm6
  obtain _ | m6:=m6
  ·replace h:Ha 0 s9 l10 s16 b88=some r1:=h
   rw[Ha]at h
   cases h
  replace h:Ha (m6+1) s9 l10 s16 b88=some r1:=h
  rw[Ha]at h
  try cbv
  cases b88
  ·replace h:=Ar h
   try cbv
   exact AA (m6,()) [1,3,6] [.loc 0] 3424 ⟨by omega,h⟩ (by cbv)
  replace h:=Aq h
  try cbv
  refine AB ?_
  try cbv
  obtain rfl:=Option.some.inj h
  refine AF ?_
  try cbv
  exact⟨[],by trivial⟩
 try cbv
 refine Aa (fun e=>?_) (fun e=>?_)
 ·replace h:=AJ e h
  clear e
  try cbv
  exact AA (m5,true) [1,3,6,120] [.loc 0] 3424 ⟨by omega,h⟩ (by cbv)
 replace h:=AK (Int.not_lt.2 e) h
 clear e
 try cbv
 refine Aa (fun e=>?_) (fun e=>?_)
 ·replace h:=AJ e h
  clear e
  try cbv
  exact AA (m5,true) [1,3,6,120] [.loc 0] 3424 ⟨by omega,h⟩ (by cbv)
 replace h:=AK (Int.not_lt.2 e) h
 clear e
 try cbv
 replace h:=AN h
 obtain⟨z85,hz,h⟩:=h
 refine⟨z85,hz,?_⟩
 clear hz
 try cbv
 replace h:=AG h
 obtain⟨b86,hr,h⟩:=h
 refine AD rfl rfl ?_
 try cbv
 refine AE hM hI (T8 _ hr) rfl ?_
 clear hr
 try cbv
 replace h:=AL h
 obtain⟨b87,hz,h⟩:=h
 refine⟨b87,AU hz,?_⟩
 clear hz
 try cbv
 exact AA (m5,b87) [1,3,6,120] [.loc 0] 3424 ⟨by omega,h⟩ (by cbv)
mutual
def Fo:Nat->LD->LD->LD->LD->LD->Int->BA->Bool->Option (Bool)
 | 0,_,_,_,_,_,_,_,_=>none
 | n+1,l4,l11,l12,l13,l14,z16,s17,b20=>
  (if b20=true then some false else bO1 (DX n s17 (101:Int)) fun b21=>(if b21=true then JB n l4 l11 l12 l13 l14 z16 s17 true else bO1 (DX n s17 (108:Int)) fun b22=>JB n l4 l11 l12 l13 l14 z16 s17 b22))
def JB:Nat->LD->LD->LD->LD->LD->Int->BA->Bool->Option (Bool)
 | 0,_,_,_,_,_,_,_,_=>none
 | n+1,l4,l11,l12,l13,l14,z16,s17,b23=>
  (if b23=true then Hc n l11 l12 l13 l14 z16 s17 (1:Int)else bO1 (DX n s17 (120:Int)) fun b24=>(if b24=true then Ad l4 fun z25=>Hc n l11 l12 l13 l14 z16 s17 z25 else Hc n l11 l12 l13 l14 z16 s17 (0:Int)))
def Hc:Nat->LD->LD->LD->LD->Int->BA->Int->Option (Bool)
 | 0,_,_,_,_,_,_,_=>none
 | n+1,l11,l12,l13,l14,z16,s17,z26=>
  Ad l11 fun z27=>(if z27=z26 then bO1 (DX n s17 (66:Int)) fun b28=>Ak (!b28) fun b29=>(if b29=true then Ad l12 fun z30=>(if (0:Int)<z30 then B6 n l11 l12 l13 l14 z16 s17 true else bO1 (DX n s17 (69:Int)) fun b31=>Ak (!b31) fun b32=>(if b32=true then Ad l13 fun z33=>(if (0:Int)<z33 then B6 n l11 l12 l13 l14 z16 s17 true else bO1 (DX n s17 (65:Int)) fun b34=>Ak (!b34) fun b35=>(if b35=true then Ad l14 fun z36=>(if (0:Int)<z36 then B6 n l11 l12 l13 l14 z16 s17 true else Ad l14 fun z37=>(if (6:Int)<z37 then B6 n l11 l12 l13 l14 z16 s17 true else B6 n l11 l12 l13 l14 z16 s17 false))else Ad l14 fun z38=>(if (6:Int)<z38 then B6 n l11 l12 l13 l14 z16 s17 true else B6 n l11 l12 l13 l14 z16 s17 false)))else bO1 (DX n s17 (65:Int)) fun b39=>Ak (!b39) fun b40=>(if b40=true then Ad l14 fun z41=>(if (0:Int)<z41 then B6 n l11 l12 l13 l14 z16 s17 true else Ad l14 fun z42=>(if (6:Int)<z42 then B6 n l11 l12 l13 l14 z16 s17 true else B6 n l11 l12 l13 l14 z16 s17 false))else Ad l14 fun z43=>(if (6:Int)<z43 then B6 n l11 l12 l13 l14 z16 s17 true else B6 n l11 l12 l13 l14 z16 s17 false))))else bO1 (DX n s17 (69:Int)) fun b44=>Ak (!b44) fun b45=>(if b45=true then Ad l13 fun z46=>(if (0:Int)<z46 then B6 n l11 l12 l13 l14 z16 s17 true else bO1 (DX n s17 (65:Int)) fun b47=>Ak (!b47) fun b48=>(if b48=true then Ad l14 fun z49=>(if (0:Int)<z49 then B6 n l11 l12 l13 l14 z16 s17 true else Ad l14 fun z50=>(if (6:Int)<z50 then B6 n l11 l12 l13 l14 z16 s17 true else B6 n l11 l12 l13 l14 z16 s17 false))else Ad l14 fun z51=>(if (6:Int)<z51 then B6 n l11 l12 l13 l14 z16 s17 true else B6 n l11 l12 l13 l14 z16 s17 false)))else bO1 (DX n s17 (65:Int)) fun b52=>Ak (!b52) fun b53=>(if b53=true then Ad l14 fun z54=>(if (0:Int)<z54 then B6 n l11 l12 l13 l14 z16 s17 true else Ad l14 fun z55=>(if (6:Int)<z55 then B6 n l11 l12 l13 l14 z16 s17 true else B6 n l11 l12 l13 l14 z16 s17 false))else Ad l14 fun z56=>(if (6:Int)<z56 then B6 n l11 l12 l13 l14 z16 s17 true else B6 n l11 l12 l13 l14 z16 s17 false))))else B6 n l11 l12 l13 l14 z16 s17 true)
def B6:Nat->LD->LD->LD->LD->Int->BA->Bool->Option (Bool)
 | 0,_,_,_,_,_,_,_=>none
 | n+1,l11,l12,l13,l14,z16,s17,b57=>
  (if b57=true then some false else Hd n l11 l12 l13 l14 z16 s17 (0:Int))
def Hd:Nat->LD->LD->LD->LD->Int->BA->Int->Option (Bool)
 | 0,_,_,_,_,_,_,_=>none
 | n+1,l11,l12,l13,l14,z16,s17,z58=>
  Ad l11 fun z59=>(if z58<z59 then JC n l11 l12 l13 l14 z16 s17 z58 true else JC n l11 l12 l13 l14 z16 s17 z58 false)
def JC:Nat->LD->LD->LD->LD->Int->BA->Int->Bool->Option (Bool)
 | 0,_,_,_,_,_,_,_,_=>none
 | n+1,l11,l12,l13,l14,z16,s17,z58,b60=>
  (if b60=true then BT l11 z58 fun x61=>Cz x61 fun z62 z63 s64 s65 s66 l67 l68 z69=>bO1 (XG n z62 z63 s64 s65 s66 l67 l68 z69) fun b70=>(if b70=true then bO1 (DX n s17 (101:Int)) fun b71=>(if b71=true then He n l11 l12 l13 l14 z16 s17 z58 true else BT l11 z58 fun x72=>Cz x72 fun z73 z74 s75 s76 s77 l78 l79 z80=>Al (IntKind.wrap .i64 (z16 - 1)) fun z81=>bO1 (Uv n z73 z74 s75 s76 s77 l78 l79 z80 z81) fun b82=>Ak (!b82) fun b83=>He n l11 l12 l13 l14 z16 s17 z58 b83)else BT l11 z58 fun x84=>Cz x84 fun z85 z86 s87 s88 s89 l90 l91 z92=>Al (IntKind.wrap .i64 (z16 - 1)) fun z93=>bO1 (Uv n z85 z86 s87 s88 s89 l90 l91 z92 z93) fun b94=>Ak (!b94) fun b95=>He n l11 l12 l13 l14 z16 s17 z58 b95)else Hf n l12 l13 l14 z16 (0:Int))
def He:Nat->LD->LD->LD->LD->Int->BA->Int->Bool->Option (Bool)
 | 0,_,_,_,_,_,_,_,_=>none
 | n+1,l11,l12,l13,l14,z16,s17,z58,b96=>
  (if b96=true then some false else Al (IntKind.wrap .i64 (z58+1)) fun z97=>Hd n l11 l12 l13 l14 z16 s17 z97)
def Hf:Nat->LD->LD->LD->Int->Int->Option (Bool)
 | 0,_,_,_,_,_=>none
 | n+1,l12,l13,l14,z16,z98=>
  Ad l14 fun z99=>(if z98<z99 then JD n l12 l13 l14 z16 z98 true else JD n l12 l13 l14 z16 z98 false)
def JD:Nat->LD->LD->LD->Int->Int->Bool->Option (Bool)
 | 0,_,_,_,_,_,_=>none
 | n+1,l12,l13,l14,z16,z98,b100=>
  (if b100=true then BT l14 z98 fun x101=>Gc x101 fun s102 s103 l104=>bO1 (Qk n s102) fun b105=>Ak (!b105) fun b106=>(if b106=true then EM n l12 l13 l14 z16 z98 true else (if s103=ByteArray.empty then Al (IntKind.wrap .i64 (z16 - 1)) fun z107=>bO1 (Rj n l104 z107) fun b108=>Ak (!b108) fun b109=>EM n l12 l13 l14 z16 z98 b109 else bO1 (Ri n s103) fun b110=>Ak (!b110) fun b111=>(if b111=true then EM n l12 l13 l14 z16 z98 true else Al (IntKind.wrap .i64 (z16 - 1)) fun z112=>bO1 (Rj n l104 z112) fun b113=>Ak (!b113) fun b114=>EM n l12 l13 l14 z16 z98 b114)))else Al (IntKind.wrap .i64 (z16 - 1)) fun z117=>bO1 (Rj n l12 z117) fun b118=>(if b118=true then Al (IntKind.wrap .i64 (z16 - 1)) fun z119=>bO1 (Rj n l13 z119) fun b120=>some b120 else some false))
def EM:Nat->LD->LD->LD->Int->Int->Bool->Option (Bool)
 | 0,_,_,_,_,_,_=>none
 | n+1,l12,l13,l14,z16,z98,b115=>
  (if b115=true then some false else Al (IntKind.wrap .i64 (z98+1)) fun z116=>Hf n l12 l13 l14 z16 z116)
def YS:Nat->Int->BA->BA->LD->Int->BA->LD->Int->BA->LD->LD->LD->LD->LD->Int->Int->Option (Bool)
 | 0,_,_,_,_,_,_,_,_,_,_,_,_,_,_,_,_=>none
 | n+1,z1,s2,s3,l4,z5,s6,l7,z8,s9,l10,l11,l12,l13,l14,z15,z16=>
  bO1 (YQ n z1) fun s17=>(if z16<(1:Int)then Fo n l4 l11 l12 l13 l14 z16 s17 true else (if s17=ByteArray.empty then Fo n l4 l11 l12 l13 l14 z16 s17 true else bO1 (YR n z1 s2 s3 l4 z5 s6 l7 z8 s9 l10 l11 l12 l13 l14 z15 s17 z16) fun b18=>Ak (!b18) fun b19=>Fo n l4 l11 l12 l13 l14 z16 s17 b19))
def Hg:Nat->LD->Int->Int->Option (Bool)
 | 0,_,_,_=>none
 | n+1,l1,z2,z3=>
  Ad l1 fun z4=>(if z3<z4 then JE n l1 z2 z3 true else JE n l1 z2 z3 false)
def JE:Nat->LD->Int->Int->Bool->Option (Bool)
 | 0,_,_,_,_=>none
 | n+1,l1,z2,z3,b5=>
  (if b5=true then BT l1 z3 fun x6=>Gb x6 fun z7 s8 s9 l10 z11 s12 l13 z14 s15 l16 l17 l18 l19 l20 z21=>bO1 (YS n z7 s8 s9 l10 z11 s12 l13 z14 s15 l16 l17 l18 l19 l20 z21 z2) fun b22=>Ak (!b22) fun b23=>(if b23=true then some false else Al (IntKind.wrap .i64 (z3+1)) fun z24=>Hg n l1 z2 z24)else some true)
def Rj:Nat->LD->Int->Option (Bool)
 | 0,_,_=>none
 | n+1,l1,z2=>
  Hg n l1 z2 (0:Int)
end
theorem cE (n:Nat):(∀⦃z1 s2 s3 l4 z5 s6 l7 z8 s9 l10 l11 l12 l13 l14 z15 z16 r1⦄,YS n z1 s2 s3 l4 z5 s6 l7 z8 s9 l10 l11 l12 l13 l14 z15 z16=some r1->
    AW Tryz.prog inv 58 [.d (.agg [.int .u8 z1,.str s2,.str s3,.list false 1 l4,.int .u8 z5,.str s6,.list true 3 l7,.int .i64 z8,.str s9,.list false 1 l10,.list true 8 l11,.list true 15 l12,.list true 15 l13,.list true 3 l14,.int .i64 z15]),.d (.int .i64 z16)] [] (.v (.d (.bool r1))) [] [])/\
    (∀⦃l1 z2 r1⦄,Rj n l1 z2=some r1->
    AW Tryz.prog inv 34 [.d (.list true 15 l1),.d (.int .i64 z2)] [] (.v (.d (.bool r1))) [] []):=by
 induction n using Nat.strongRecOn with | _ n ih=>
 obtain _ | n:=n
 ·refine⟨?_,?_⟩
  ·intro z1 s2 s3 l4 z5 s6 l7 z8 s9 l10 l11 l12 l13 l14 z15 z16 r1 h
   cases (show (none:Option _)=some _ from h)
  intro l1 z2 r1 h
  cases (show (none:Option _)=some _ from h)
 refine⟨?_,?_⟩
 rotate_left
 ·intro l1 z2 r1 h
  rw[Rj]at h
  refine AW.of Ab AO Bp Tryz.func34 rfl (by kernel_rfl) rfl rfl rfl (fun M hM hI=>?_)
  try cbv
  refine AB ?_
  try cbv
  refine AB ?_
  try cbv
  refine AB ?_
  try cbv
  refine BF (T:=Nat×Int) [0,1,4,5] [] 64 (fun t=>⟨[sT 0 15 l1,sI 1 z2,sB 4 false,sI 5 t.2],[],64⟩)
    (fun t=>t.1<=n/\Hg t.1 l1 z2 t.2=some r1) (fun t=>t.1) (n,(0:Int)) ⟨Nat.le_refl _,h⟩ (by cbv) ?_
  clear h
  rintro⟨m1,z3⟩ ⟨hm1,h⟩
  replace hm1:m1<=n:=hm1
  obtain _ | m1:=m1
  ·replace h:Hg 0 l1 z2 z3=some r1:=h
   rw[Hg]at h
   cases h
  replace h:Hg (m1+1) l1 z2 z3=some r1:=h
  rw[Hg]at h
  try cbv
  refine AB ?_
  try cbv
  refine AH 9 [0,1,4,5,9] [] 192 (fun m b=>m<=m1/\JE m l1 z2 z3 b=some r1) ?_ ?_
  ·try cbv
   replace h:=AP M h
   obtain⟨z4,hz,h⟩:=h
   refine⟨z4,hz,?_⟩
   clear hz
   try cbv
   refine Aa (fun e=>?_) (fun e=>?_)
   ·replace h:=AJ e h
    clear e
    try cbv
    exact AA (m1,true) [0,1,4,5,9] [] 192 ⟨by omega,h⟩ (by cbv)
   replace h:=AK (Int.not_lt.2 e) h
   clear e
   try cbv
   exact AA (m1,false) [0,1,4,5,9] [] 192 ⟨by omega,h⟩ (by cbv)
  clear h
  rintro⟨m2,b5⟩ ⟨hm2,h⟩
  try cbv
  replace hm2:m2<=m1:=hm2
  obtain _ | m2:=m2
  ·replace h:JE 0 l1 z2 z3 b5=some r1:=h
   rw[JE]at h
   cases h
  replace h:JE (m2+1) l1 z2 z3 b5=some r1:=h
  rw[JE]at h
  try cbv
  cases b5
  ·replace h:=Ar h
   try cbv
   refine AB ?_
   try cbv
   obtain rfl:=Option.some.inj h
   refine AF ?_
   try cbv
   exact⟨[],by trivial⟩
  replace h:=Aq h
  try cbv
  refine AB ?_
  try cbv
  refine AB ?_
  try cbv
  replace h:=Ae h
  obtain⟨x6,⟨hx0,hx⟩,h⟩:=h
  refine⟨x6,hx0,hx,?_⟩
  clear hx0 hx
  replace h:=FT h
  obtain⟨z7,s8,s9,l10,z11,s12,l13,z14,s15,l16,l17,l18,l19,l20,z21,rfl,h⟩:=h
  try cbv
  replace h:=AG h
  obtain⟨b22,hr,h⟩:=h
  refine AD rfl rfl ?_
  try cbv
  refine AE hM hI ((ih _ (by omega)).1 hr) rfl ?_
  clear hr
  try cbv
  replace h:=AL h
  obtain⟨b23,hz,h⟩:=h
  refine⟨b23,AU hz,?_⟩
  clear hz
  try cbv
  cases b23
  ·replace h:=Ar h
   try cbv
   replace h:=AN h
   obtain⟨z24,hz,h⟩:=h
   refine⟨z24,hz,?_⟩
   clear hz
   try cbv
   exact An (m2,z24) [0,1,4,5] [] 64 ⟨by omega,h⟩ (Nat.lt_succ_of_le (by omega)) (by cbv)
  replace h:=Aq h
  try cbv
  refine AB ?_
  try cbv
  obtain rfl:=Option.some.inj h
  refine AF ?_
  try cbv
  exact⟨[],by trivial⟩
 intro z1 s2 s3 l4 z5 s6 l7 z8 s9 l10 l11 l12 l13 l14 z15 z16 r1 h
 rw[YS]at h
 refine AW.of Ab AO Bp Tryz.func58 rfl (by kernel_rfl) rfl rfl rfl (fun M hM hI=>?_)
 try cbv
 refine AB ?_
 try cbv
 refine AB ?_
 try cbv
 replace h:=AG h
 obtain⟨s17,hr,h⟩:=h
 refine AD rfl rfl ?_
 try cbv
 refine AE hM hI (cC _ hr) rfl ?_
 clear hr
 try cbv
 refine AB ?_
 try cbv
 refine AH 25 [1,2,4,5,25] [.loc 0] 608 (fun m b=>m<=n/\Fo m l4 l11 l12 l13 l14 z16 s17 b=some r1) ?_ ?_
 ·try cbv
  refine Aa (fun e=>?_) (fun e=>?_)
  ·replace h:=AJ e h
   clear e
   try cbv
   exact AA (n,true) [1,2,4,5,25] [.loc 0] 608 ⟨by omega,h⟩ (by cbv)
  replace h:=AK (Int.not_lt.2 e) h
  clear e
  try cbv
  refine Bb (fun e=>?_) (fun e=>?_)
  ·replace h:=AJ (BC.1 e) h
   clear e
   try cbv
   exact AA (n,true) [1,2,4,5,25] [.loc 0] 608 ⟨by omega,h⟩ (by cbv)
  replace h:=AK (BI.1 e) h
  clear e
  try cbv
  replace h:=AG h
  obtain⟨b18,hr,h⟩:=h
  refine AD rfl rfl ?_
  try cbv
  refine AE hM hI (cD _ hr) rfl ?_
  clear hr
  try cbv
  replace h:=AL h
  obtain⟨b19,hz,h⟩:=h
  refine⟨b19,AU hz,?_⟩
  clear hz
  try cbv
  exact AA (n,b19) [1,2,4,5,25] [.loc 0] 608 ⟨by omega,h⟩ (by cbv)
 clear h
 rintro⟨m1,b20⟩ ⟨hm1,h⟩
 try cbv
 replace hm1:m1<=n:=hm1
 obtain _ | m1:=m1
 ·replace h:Fo 0 l4 l11 l12 l13 l14 z16 s17 b20=some r1:=h
  rw[Fo]at h
  cases h
 replace h:Fo (m1+1) l4 l11 l12 l13 l14 z16 s17 b20=some r1:=h
 rw[Fo]at h
 try cbv
 cases b20
 rotate_left
 ·replace h:=Aq h
  try cbv
  refine AB ?_
  try cbv
  obtain rfl:=Option.some.inj h
  refine AF ?_
  try cbv
  exact⟨[],by trivial⟩
 replace h:=Ar h
 try cbv
 refine AB ?_
 try cbv
 refine Aw (T:=Nat×Int) (fun t=>⟨[sI 1 z16,sL 2 0,sB 4 false,sS 5 s17,sI 6 t.2],[(.loc 0,.cells [.d (.int .u8 z1),.d (.str s2),.d (.str s3),.d (.list false 1 l4),.d (.int .u8 z5),.d (.str s6),.d (.list true 3 l7),.d (.int .i64 z8),.d (.str s9),.d (.list false 1 l10),.d (.list true 8 l11),.d (.list true 15 l12),.d (.list true 15 l13),.d (.list true 3 l14),.d (.int .i64 z15)])],1024⟩) (fun t=>t.1<=m1/\Hc t.1 l11 l12 l13 l14 z16 s17 t.2=some r1) ?_ ?_
 ·try cbv
  refine AH 31 [1,2,4,5,6,31] [.loc 0] 832 (fun m b=>m<=m1/\JB m l4 l11 l12 l13 l14 z16 s17 b=some r1) ?_ ?_
  ·try cbv
   replace h:=AG h
   obtain⟨b21,hr,h⟩:=h
   refine AD rfl rfl ?_
   try cbv
   refine AE hM hI (Dp _ hr) rfl ?_
   clear hr
   try cbv
   cases b21
   ·replace h:=Ar h
    try cbv
    replace h:=AG h
    obtain⟨b22,hr,h⟩:=h
    refine AD rfl rfl ?_
    try cbv
    refine AE hM hI (Dp _ hr) rfl ?_
    clear hr
    try cbv
    exact AA (m1,b22) [1,2,4,5,6,31] [.loc 0] 832 ⟨by omega,h⟩ (by cbv)
   replace h:=Aq h
   try cbv
   exact AA (m1,true) [1,2,4,5,6,31] [.loc 0] 832 ⟨by omega,h⟩ (by cbv)
  clear h
  rintro⟨m2,b23⟩ ⟨hm2,h⟩
  try cbv
  replace hm2:m2<=m1:=hm2
  obtain _ | m2:=m2
  ·replace h:JB 0 l4 l11 l12 l13 l14 z16 s17 b23=some r1:=h
   rw[JB]at h
   cases h
  replace h:JB (m2+1) l4 l11 l12 l13 l14 z16 s17 b23=some r1:=h
  rw[JB]at h
  try cbv
  cases b23
  rotate_left
  ·replace h:=Aq h
   try cbv
   exact AA (m2,(1:Int)) [1,2,4,5,6] [.loc 0] 1024 ⟨by omega,h⟩ (by cbv)
  replace h:=Ar h
  try cbv
  refine AB ?_
  try cbv
  replace h:=AG h
  obtain⟨b24,hr,h⟩:=h
  refine AD rfl rfl ?_
  try cbv
  refine AE hM hI (Dp _ hr) rfl ?_
  clear hr
  try cbv
  cases b24
  ·replace h:=Ar h
   try cbv
   exact AA (m2,(0:Int)) [1,2,4,5,6] [.loc 0] 1024 ⟨by omega,h⟩ (by cbv)
  replace h:=Aq h
  try cbv
  replace h:=AP M h
  obtain⟨z25,hz,h⟩:=h
  refine⟨z25,hz,?_⟩
  clear hz
  try cbv
  exact AA (m2,z25) [1,2,4,5,6] [.loc 0] 1024 ⟨by omega,h⟩ (by cbv)
 clear h
 rintro⟨m3,z26⟩ ⟨hm3,h⟩
 replace hm3:m3<=m1:=hm3
 obtain _ | m3:=m3
 ·replace h:Hc 0 l11 l12 l13 l14 z16 s17 z26=some r1:=h
  rw[Hc]at h
  cases h
 replace h:Hc (m3+1) l11 l12 l13 l14 z16 s17 z26=some r1:=h
 rw[Hc]at h
 try cbv
 refine AB ?_
 try cbv
 refine AH 80 [1,2,4,5,80] [.loc 0] 2432 (fun m b=>m<=m3/\B6 m l11 l12 l13 l14 z16 s17 b=some r1) ?_ ?_
 ·try cbv
  replace h:=AP M h
  obtain⟨z27,hz,h⟩:=h
  refine⟨z27,hz,?_⟩
  clear hz
  try cbv
  refine Ah (fun e=>?_) (fun e=>?_)
  rotate_left
  ·replace h:=AK e h
   clear e
   try cbv
   exact AA (m3,true) [1,2,4,5,80] [.loc 0] 2432 ⟨by omega,h⟩ (by cbv)
  replace h:=AJ e h
  clear e
  try cbv
  replace h:=AG h
  obtain⟨b28,hr,h⟩:=h
  refine AD rfl rfl ?_
  try cbv
  refine AE hM hI (Dp _ hr) rfl ?_
  clear hr
  try cbv
  replace h:=AL h
  obtain⟨b29,hz,h⟩:=h
  refine⟨b29,AU hz,?_⟩
  clear hz
  try cbv
  cases b29
  ·replace h:=Ar h
   try cbv
   replace h:=AG h
   obtain⟨b44,hr,h⟩:=h
   refine AD rfl rfl ?_
   try cbv
   refine AE hM hI (Dp _ hr) rfl ?_
   clear hr
   try cbv
   replace h:=AL h
   obtain⟨b45,hz,h⟩:=h
   refine⟨b45,AU hz,?_⟩
   clear hz
   try cbv
   cases b45
   ·replace h:=Ar h
    try cbv
    replace h:=AG h
    obtain⟨b52,hr,h⟩:=h
    refine AD rfl rfl ?_
    try cbv
    refine AE hM hI (Dp _ hr) rfl ?_
    clear hr
    try cbv
    replace h:=AL h
    obtain⟨b53,hz,h⟩:=h
    refine⟨b53,AU hz,?_⟩
    clear hz
    try cbv
    cases b53
    ·replace h:=Ar h
     try cbv
     replace h:=AP M h
     obtain⟨z56,hz,h⟩:=h
     refine⟨z56,hz,?_⟩
     clear hz
     try cbv
     refine Aa (fun e=>?_) (fun e=>?_)
     ·replace h:=AJ e h
      clear e
      try cbv
      exact AA (m3,true) [1,2,4,5,80] [.loc 0] 2432 ⟨by omega,h⟩ (by cbv)
     replace h:=AK (Int.not_lt.2 e) h
     clear e
     try cbv
     exact AA (m3,false) [1,2,4,5,80] [.loc 0] 2432 ⟨by omega,h⟩ (by cbv)
    replace h:=Aq h
    try cbv
    replace h:=AP M h
    obtain⟨z54,hz,h⟩:=h
    refine⟨z54,hz,?_⟩
    clear hz
    try cbv
    refine Aa (fun e=>?_) (fun e=>?_)
    ·replace h:=AJ e h
     clear e
     try cbv
     exact AA (m3,true) [1,2,4,5,80] [.loc 0] 2432 ⟨by omega,h⟩ (by cbv)
    replace h:=AK (Int.not_lt.2 e) h
    clear e
    try cbv
    replace h:=AP M h
    obtain⟨z55,hz,h⟩:=h
    refine⟨z55,hz,?_⟩
    clear hz
    try cbv
    refine Aa (fun e=>?_) (fun e=>?_)
    ·replace h:=AJ e h
     clear e
     try cbv
     exact AA (m3,true) [1,2,4,5,80] [.loc 0] 2432 ⟨by omega,h⟩ (by cbv)
    replace h:=AK (Int.not_lt.2 e) h
    clear e
    try cbv
    exact AA (m3,false) [1,2,4,5,80] [.loc 0] 2432 ⟨by omega,h⟩ (by cbv)
   replace h:=Aq h
   try cbv
   replace h:=AP M h
   obtain⟨z46,hz,h⟩:=h
   refine⟨z46,hz,?_⟩
   clear hz
   try cbv
   refine Aa (fun e=>?_) (fun e=>?_)
   ·replace h:=AJ e h
    clear e
    try cbv
    exact AA (m3,true) [1,2,4,5,80] [.loc 0] 2432 ⟨by omega,h⟩ (by cbv)
   replace h:=AK (Int.not_lt.2 e) h
   clear e
   try cbv
   replace h:=AG h
   obtain⟨b47,hr,h⟩:=h
   refine AD rfl rfl ?_
   try cbv
   refine AE hM hI (Dp _ hr) rfl ?_
   clear hr
   try cbv
   replace h:=AL h
   obtain⟨b48,hz,h⟩:=h
   refine⟨b48,AU hz,?_⟩
   clear hz
   try cbv
   cases b48
   ·replace h:=Ar h
    try cbv
    replace h:=AP M h
    obtain⟨z51,hz,h⟩:=h
    refine⟨z51,hz,?_⟩
    clear hz
    try cbv
    refine Aa (fun e=>?_) (fun e=>?_)
    ·replace h:=AJ e h
     clear e
     try cbv
     exact AA (m3,true) [1,2,4,5,80] [.loc 0] 2432 ⟨by omega,h⟩ (by cbv)
    replace h:=AK (Int.not_lt.2 e) h
    clear e
    try cbv
    exact AA (m3,false) [1,2,4,5,80] [.loc 0] 2432 ⟨by omega,h⟩ (by cbv)
   replace h:=Aq h
   try cbv
   replace h:=AP M h
   obtain⟨z49,hz,h⟩:=h
   refine⟨z49,hz,?_⟩
   clear hz
   try cbv
   refine Aa (fun e=>?_) (fun e=>?_)
   ·replace h:=AJ e h
    clear e
    try cbv
    exact AA (m3,true) [1,2,4,5,80] [.loc 0] 2432 ⟨by omega,h⟩ (by cbv)
   replace h:=AK (Int.not_lt.2 e) h
   clear e
   try cbv
   replace h:=AP M h
   obtain⟨z50,hz,h⟩:=h
   refine⟨z50,hz,?_⟩
   clear hz
   try cbv
   refine Aa (fun e=>?_) (fun e=>?_)
   ·replace h:=AJ e h
    clear e
    try cbv
    exact AA (m3,true) [1,2,4,5,80] [.loc 0] 2432 ⟨by omega,h⟩ (by cbv)
   replace h:=AK (Int.not_lt.2 e) h
   clear e
   try cbv
   exact AA (m3,false) [1,2,4,5,80] [.loc 0] 2432 ⟨by omega,h⟩ (by cbv)
  replace h:=Aq h
  try cbv
  replace h:=AP M h
  obtain⟨z30,hz,h⟩:=h
  refine⟨z30,hz,?_⟩
  clear hz
  try cbv
  refine Aa (fun e=>?_) (fun e=>?_)
  ·replace h:=AJ e h
   clear e
   try cbv
   exact AA (m3,true) [1,2,4,5,80] [.loc 0] 2432 ⟨by omega,h⟩ (by cbv)
  replace h:=AK (Int.not_lt.2 e) h
  clear e
  try cbv
  replace h:=AG h
  obtain⟨b31,hr,h⟩:=h
  refine AD rfl rfl ?_
  try cbv
  refine AE hM hI (Dp _ hr) rfl ?_
  clear hr
  try cbv
  replace h:=AL h
  obtain⟨b32,hz,h⟩:=h
  refine⟨b32,AU hz,?_⟩
  clear hz
  try cbv
  cases b32
  ·replace h:=Ar h
   try cbv
   replace h:=AG h
   obtain⟨b39,hr,h⟩:=h
   refine AD rfl rfl ?_
   try cbv
   refine AE hM hI (Dp _ hr) rfl ?_
   clear hr
   try cbv
   replace h:=AL h
   obtain⟨b40,hz,h⟩:=h
   refine⟨b40,AU hz,?_⟩
   clear hz
   try cbv
   cases b40
   ·replace h:=Ar h
    try cbv
    replace h:=AP M h
    obtain⟨z43,hz,h⟩:=h
    refine⟨z43,hz,?_⟩
    clear hz
    try cbv
    refine Aa (fun e=>?_) (fun e=>?_)
    ·replace h:=AJ e h
     clear e
     try cbv
     exact AA (m3,true) [1,2,4,5,80] [.loc 0] 2432 ⟨by omega,h⟩ (by cbv)
    replace h:=AK (Int.not_lt.2 e) h
    clear e
    try cbv
    exact AA (m3,false) [1,2,4,5,80] [.loc 0] 2432 ⟨by omega,h⟩ (by cbv)
   replace h:=Aq h
   try cbv
   replace h:=AP M h
   obtain⟨z41,hz,h⟩:=h
   refine⟨z41,hz,?_⟩
   clear hz
   try cbv
   refine Aa (fun e=>?_) (fun e=>?_)
   ·replace h:=AJ e h
    clear e
    try cbv
    exact AA (m3,true) [1,2,4,5,80] [.loc 0] 2432 ⟨by omega,h⟩ (by cbv)
   replace h:=AK (Int.not_lt.2 e) h
   clear e
   try cbv
   replace h:=AP M h
   obtain⟨z42,hz,h⟩:=h
   refine⟨z42,hz,?_⟩
   clear hz
   try cbv
   refine Aa (fun e=>?_) (fun e=>?_)
   ·replace h:=AJ e h
    clear e
    try cbv
    exact AA (m3,true) [1,2,4,5,80] [.loc 0] 2432 ⟨by omega,h⟩ (by cbv)
   replace h:=AK (Int.not_lt.2 e) h
   clear e
   try cbv
   exact AA (m3,false) [1,2,4,5,80] [.loc 0] 2432 ⟨by omega,h⟩ (by cbv)
  replace h:=Aq h
  try cbv
  replace h:=AP M h
  obtain⟨z33,hz,h⟩:=h
  refine⟨z33,hz,?_⟩
  clear hz
  try cbv
  refine Aa (fun e=>?_) (fun e=>?_)
  ·replace h:=AJ e h
   clear e
   try cbv
   exact AA (m3,true) [1,2,4,5,80] [.loc 0] 2432 ⟨by omega,h⟩ (by cbv)
  replace h:=AK (Int.not_lt.2 e) h
  clear e
  try cbv
  replace h:=AG h
  obtain⟨b34,hr,h⟩:=h
  refine AD rfl rfl ?_
  try cbv
  refine AE hM hI (Dp _ hr) rfl ?_
  clear hr
  try cbv
  replace h:=AL h
  obtain⟨b35,hz,h⟩:=h
  refine⟨b35,AU hz,?_⟩
  clear hz
  try cbv
  cases b35
  ·replace h:=Ar h
   try cbv
   replace h:=AP M h
   obtain⟨z38,hz,h⟩:=h
   refine⟨z38,hz,?_⟩
   clear hz
   try cbv
   refine Aa (fun e=>?_) (fun e=>?_)
   ·replace h:=AJ e h
    clear e
    try cbv
    exact AA (m3,true) [1,2,4,5,80] [.loc 0] 2432 ⟨by omega,h⟩ (by cbv)
   replace h:=AK (Int.not_lt.2 e) h
   clear e
   try cbv
   exact AA (m3,false) [1,2,4,5,80] [.loc 0] 2432 ⟨by omega,h⟩ (by cbv)
  replace h:=Aq h
  try cbv
  replace h:=AP M h
  obtain⟨z36,hz,h⟩:=h
  refine⟨z36,hz,?_⟩
  clear hz
  try cbv
  refine Aa (fun e=>?_) (fun e=>?_)
  ·replace h:=AJ e h
   clear e
   try cbv
   exact AA (m3,true) [1,2,4,5,80] [.loc 0] 2432 ⟨by omega,h⟩ (by cbv)
  replace h:=AK (Int.not_lt.2 e) h
  clear e
  try cbv
  replace h:=AP M h
  obtain⟨z37,hz,h⟩:=h
  refine⟨z37,hz,?_⟩
  clear hz
  try cbv
  refine Aa (fun e=>?_) (fun e=>?_)
  ·replace h:=AJ e h
   clear e
   try cbv
   exact AA (m3,true) [1,2,4,5,80] [.loc 0] 2432 ⟨by omega,h⟩ (by cbv)
  replace h:=AK (Int.not_lt.2 e) h
  clear e
  try cbv
  exact AA (m3,false) [1,2,4,5,80] [.loc 0] 2432 ⟨by omega,h⟩ (by cbv)
 clear h
 rintro⟨m4,b57⟩ ⟨hm4,h⟩
 try cbv
 replace hm4:m4<=m3:=hm4
 obtain _ | m4:=m4
 ·replace h:B6 0 l11 l12 l13 l14 z16 s17 b57=some r1:=h
  rw[B6]at h
  cases h
 replace h:B6 (m4+1) l11 l12 l13 l14 z16 s17 b57=some r1:=h
 rw[B6]at h
 try cbv
 cases b57
 rotate_left
 ·replace h:=Aq h
  try cbv
  refine AB ?_
  try cbv
  obtain rfl:=Option.some.inj h
  refine AF ?_
  try cbv
  exact⟨[],by trivial⟩
 replace h:=Ar h
 try cbv
 refine AB ?_
 try cbv
 refine AB ?_
 try cbv
 refine BF (T:=Nat×Int) [1,2,4,5,7] [.loc 0] 2464 (fun t=>⟨[sI 1 z16,sL 2 0,sB 4 false,sS 5 s17,sI 7 t.2],[(.loc 0,.cells [.d (.int .u8 z1),.d (.str s2),.d (.str s3),.d (.list false 1 l4),.d (.int .u8 z5),.d (.str s6),.d (.list true 3 l7),.d (.int .i64 z8),.d (.str s9),.d (.list false 1 l10),.d (.list true 8 l11),.d (.list true 15 l12),.d (.list true 15 l13),.d (.list true 3 l14),.d (.int .i64 z15)])],2464⟩)
   (fun t=>t.1<=m4/\Hd t.1 l11 l12 l13 l14 z16 s17 t.2=some r1) (fun t=>t.1) (m4,(0:Int)) ⟨Nat.le_refl _,h⟩ (by cbv) ?_
 clear h
 rintro⟨m5,z58⟩ ⟨hm5,h⟩
 replace hm5:m5<=m4:=hm5
 obtain _ | m5:=m5
 ·replace h:Hd 0 l11 l12 l13 l14 z16 s17 z58=some r1:=h
  rw[Hd]at h
  cases h
 replace h:Hd (m5+1) l11 l12 l13 l14 z16 s17 z58=some r1:=h
 rw[Hd]at h
 try cbv
 refine AB ?_
 try cbv
 refine AH 85 [1,2,4,5,7,85] [.loc 0] 2624 (fun m b=>m<=m5/\JC m l11 l12 l13 l14 z16 s17 z58 b=some r1) ?_ ?_
 ·try cbv
  replace h:=AP M h
  obtain⟨z59,hz,h⟩:=h
  refine⟨z59,hz,?_⟩
  clear hz
  try cbv
  refine Aa (fun e=>?_) (fun e=>?_)
  ·replace h:=AJ e h
   clear e
   try cbv
   exact AA (m5,true) [1,2,4,5,7,85] [.loc 0] 2624 ⟨by omega,h⟩ (by cbv)
  replace h:=AK (Int.not_lt.2 e) h
  clear e
  try cbv
  exact AA (m5,false) [1,2,4,5,7,85] [.loc 0] 2624 ⟨by omega,h⟩ (by cbv)
 clear h
 rintro⟨m6,b60⟩ ⟨hm6,h⟩
 try cbv
 replace hm6:m6<=m5:=hm6
 obtain _ | m6:=m6
 ·replace h:JC 0 l11 l12 l13 l14 z16 s17 z58 b60=some r1:=h
  rw[JC]at h
  cases h
 replace h:JC (m6+1) l11 l12 l13 l14 z16 s17 z58 b60=some r1:=h
 rw[JC]at h
 try cbv
 cases b60
 rotate_left
 ·replace h:=Aq h
  try cbv
  refine AB ?_
  try cbv
  refine AH 108 [1,2,4,5,7,108] [.loc 0] 3296 (fun m b=>m<=m6/\He m l11 l12 l13 l14 z16 s17 z58 b=some r1) ?_ ?_
  rotate_left
  ·clear h
   rintro⟨m7,b96⟩ ⟨hm7,h⟩
   try cbv
   replace hm7:m7<=m6:=hm7
   obtain _ | m7:=m7
   ·replace h:He 0 l11 l12 l13 l14 z16 s17 z58 b96=some r1:=h
    rw[He]at h
    cases h
   replace h:He (m7+1) l11 l12 l13 l14 z16 s17 z58 b96=some r1:=h
   rw[He]at h
   try cbv
   cases b96
   ·replace h:=Ar h
    try cbv
    replace h:=AN h
    obtain⟨z97,hz,h⟩:=h
    refine⟨z97,hz,?_⟩
    clear hz
    try cbv
    exact An (m7,z97) [1,2,4,5,7] [.loc 0] 2464 ⟨by omega,h⟩ (Nat.lt_succ_of_le (by omega)) (by cbv)
   replace h:=Aq h
   try cbv
   refine AB ?_
   try cbv
   obtain rfl:=Option.some.inj h
   refine AF ?_
   try cbv
   exact⟨[],by trivial⟩
  try cbv
  replace h:=Ae h
  obtain⟨x61,⟨hx0,hx⟩,h⟩:=h
  refine⟨x61,hx0,hx,?_⟩
  clear hx0 hx
  replace h:=CB h
  obtain⟨z62,z63,s64,s65,s66,l67,l68,z69,rfl,h⟩:=h
  try cbv
  replace h:=AG h
  obtain⟨b70,hr,h⟩:=h
  refine AD rfl rfl ?_
  try cbv
  refine AE hM hI (Zb _ hr) rfl ?_
  clear hr
  try cbv
  cases b70
  ·replace h:=Ar h
   try cbv
   replace h:=Ae h
   obtain⟨x84,⟨hx0,hx⟩,h⟩:=h
   refine⟨x84,hx0,hx,?_⟩
   clear hx0 hx
   replace h:=CB h
   obtain⟨z85,z86,s87,s88,s89,l90,l91,z92,rfl,h⟩:=h
   try cbv
   replace h:=AN h
   obtain⟨z93,hz,h⟩:=h
   refine⟨z93,hz,?_⟩
   clear hz
   try cbv
   replace h:=AG h
   obtain⟨b94,hr,h⟩:=h
   refine AD rfl rfl ?_
   try cbv
   refine AE hM hI (Zc _ hr) rfl ?_
   clear hr
   try cbv
   replace h:=AL h
   obtain⟨b95,hz,h⟩:=h
   refine⟨b95,AU hz,?_⟩
   clear hz
   try cbv
   exact AA (m6,b95) [1,2,4,5,7,108] [.loc 0] 3296 ⟨by omega,h⟩ (by cbv)
  replace h:=Aq h
  try cbv
  replace h:=AG h
  obtain⟨b71,hr,h⟩:=h
  refine AD rfl rfl ?_
  try cbv
  refine AE hM hI (Dp _ hr) rfl ?_
  clear hr
  try cbv
  cases b71
  rotate_left
  ·replace h:=Aq h
   try cbv
   exact AA (m6,true) [1,2,4,5,7,108] [.loc 0] 3296 ⟨by omega,h⟩ (by cbv)
  replace h:=Ar h
  try cbv
  replace h:=Ae h
  obtain⟨x72,⟨hx0,hx⟩,h⟩:=h
  refine⟨x72,hx0,hx,?_⟩
  clear hx0 hx
  replace h:=CB h
  obtain⟨z73,z74,s75,s76,s77,l78,l79,z80,rfl,h⟩:=h
  try cbv
  replace h:=AN h
  obtain⟨z81,hz,h⟩:=h
  refine⟨z81,hz,?_⟩
  clear hz
  try cbv
  replace h:=AG h
  obtain⟨b82,hr,h⟩:=h
  refine AD rfl rfl ?_
  try cbv
  refine AE hM hI (Zc _ hr) rfl ?_
  clear hr
  try cbv
  replace h:=AL h
  obtain⟨b83,hz,h⟩:=h
  refine⟨b83,AU hz,?_⟩
  clear hz
  try cbv
  exact AA (m6,b83) [1,2,4,5,7,108] [.loc 0] 3296 ⟨by omega,h⟩ (by cbv)
 replace h:=Ar h
 try cbv
 refine AB ?_
 try cbv
 refine AB ?_
 try cbv
 refine BF (T:=Nat×Int) [1,2,4,8] [.loc 0] 2656 (fun t=>⟨[sI 1 z16,sL 2 0,sB 4 false,sI 8 t.2],[(.loc 0,.cells [.d (.int .u8 z1),.d (.str s2),.d (.str s3),.d (.list false 1 l4),.d (.int .u8 z5),.d (.str s6),.d (.list true 3 l7),.d (.int .i64 z8),.d (.str s9),.d (.list false 1 l10),.d (.list true 8 l11),.d (.list true 15 l12),.d (.list true 15 l13),.d (.list true 3 l14),.d (.int .i64 z15)])],2656⟩)
   (fun t=>t.1<=m6/\Hf t.1 l12 l13 l14 z16 t.2=some r1) (fun t=>t.1) (m6,(0:Int)) ⟨Nat.le_refl _,h⟩ (by cbv) ?_
 clear h
 rintro⟨m8,z98⟩ ⟨hm8,h⟩
 replace hm8:m8<=m6:=hm8
 obtain _ | m8:=m8
 ·replace h:Hf 0 l12 l13 l14 z16 z98=some r1:=h
  rw[Hf]at h
  cases h
 replace h:Hf (m8+1) l12 l13 l14 z16 z98=some r1:=h
 rw[Hf]at h
 try cbv
 refine AB ?_
 try cbv
 refine AH 113 [1,2,4,8,113] [.loc 0] 2816 (fun m b=>m<=m8/\JD m l12 l13 l14 z16 z98 b=some r1) ?_ ?_
 ·try cbv
  replace h:=AP M h
  obtain⟨z99,hz,h⟩:=h
  refine⟨z99,hz,?_⟩
  clear hz
  try cbv
  refine Aa (fun e=>?_) (fun e=>?_)
  ·replace h:=AJ e h
   clear e
   try cbv
   exact AA (m8,true) [1,2,4,8,113] [.loc 0] 2816 ⟨by omega,h⟩ (by cbv)
  replace h:=AK (Int.not_lt.2 e) h
  clear e
  try cbv
  exact AA (m8,false) [1,2,4,8,113] [.loc 0] 2816 ⟨by omega,h⟩ (by cbv)
 clear h
 rintro⟨m9,b100⟩ ⟨hm9,h⟩
 try cbv
 replace hm9:m9<=m8:=hm9
 obtain _ | m9:=m9
 ·replace h:JD 0 l12 l13 l14 z16 z98 b100=some r1:=h
  rw[JD]at h
  cases h
 replace h:JD (m9+1) l12 l13 l14 z16 z98 b100=some r1:=h
 rw[JD]at h
 try cbv
 cases b100
 ·replace h:=Ar h
  try cbv
  refine AB ?_
  try cbv
  replace h:=AN h
  obtain⟨z117,hz,h⟩:=h
  refine⟨z117,hz,?_⟩
  clear hz
  try cbv
  replace h:=AG h
  obtain⟨b118,hr,h⟩:=h
  refine AD rfl rfl ?_
  try cbv
  refine AE hM hI ((ih _ (by omega)).2 hr) rfl ?_
  clear hr
  try cbv
  cases b118
  ·replace h:=Ar h
   try cbv
   obtain rfl:=Option.some.inj h
   refine AF ?_
   try cbv
   exact⟨[],by trivial⟩
  replace h:=Aq h
  try cbv
  replace h:=AN h
  obtain⟨z119,hz,h⟩:=h
  refine⟨z119,hz,?_⟩
  clear hz
  try cbv
  replace h:=AG h
  obtain⟨b120,hr,h⟩:=h
  refine AD rfl rfl ?_
  try cbv
  refine AE hM hI ((ih _ (by omega)).2 hr) rfl ?_
  clear hr
  try cbv
  obtain rfl:=Option.some.inj h
  refine AF ?_
  try cbv
  exact⟨[],by trivial⟩
 replace h:=Aq h
 try cbv
 refine AB ?_
 try cbv
 refine AB ?_
 try cbv
 replace h:=Ae h
 obtain⟨x101,⟨hx0,hx⟩,h⟩:=h
 refine⟨x101,hx0,hx,?_⟩
 clear hx0 hx
 replace h:=FU h
 obtain⟨s102,s103,l104,rfl,h⟩:=h
 try cbv
 refine AH 143 [1,2,4,8,143] [.loc 0] 3776 (fun m b=>m<=m9/\EM m l12 l13 l14 z16 z98 b=some r1) ?_ ?_
 rotate_left
 ·clear h
  rintro⟨m10,b115⟩ ⟨hm10,h⟩
  try cbv
  replace hm10:m10<=m9:=hm10
  obtain _ | m10:=m10
  ·replace h:EM 0 l12 l13 l14 z16 z98 b115=some r1:=h
   rw[EM]at h
   cases h
  replace h:EM (m10+1) l12 l13 l14 z16 z98 b115=some r1:=h
  rw[EM]at h
  try cbv
  cases b115
  ·replace h:=Ar h
   try cbv
   replace h:=AN h
   obtain⟨z116,hz,h⟩:=h
   refine⟨z116,hz,?_⟩
   clear hz
   try cbv
   exact An (m10,z116) [1,2,4,8] [.loc 0] 2656 ⟨by omega,h⟩ (Nat.lt_succ_of_le (by omega)) (by cbv)
  replace h:=Aq h
  try cbv
  refine AB ?_
  try cbv
  obtain rfl:=Option.some.inj h
  refine AF ?_
  try cbv
  exact⟨[],by trivial⟩
 try cbv
 replace h:=AG h
 obtain⟨b105,hr,h⟩:=h
 refine AD rfl rfl ?_
 try cbv
 refine AE hM hI (UA _ hr) rfl ?_
 clear hr
 try cbv
 replace h:=AL h
 obtain⟨b106,hz,h⟩:=h
 refine⟨b106,AU hz,?_⟩
 clear hz
 try cbv
 cases b106
 rotate_left
 ·replace h:=Aq h
  try cbv
  exact AA (m9,true) [1,2,4,8,143] [.loc 0] 3776 ⟨by omega,h⟩ (by cbv)
 replace h:=Ar h
 try cbv
 refine Bb (fun e=>?_) (fun e=>?_)
 ·replace h:=AJ (BC.1 e) h
  clear e
  try cbv
  replace h:=AN h
  obtain⟨z107,hz,h⟩:=h
  refine⟨z107,hz,?_⟩
  clear hz
  try cbv
  replace h:=AG h
  obtain⟨b108,hr,h⟩:=h
  refine AD rfl rfl ?_
  try cbv
  refine AE hM hI ((ih _ (by omega)).2 hr) rfl ?_
  clear hr
  try cbv
  replace h:=AL h
  obtain⟨b109,hz,h⟩:=h
  refine⟨b109,AU hz,?_⟩
  clear hz
  try cbv
  exact AA (m9,b109) [1,2,4,8,143] [.loc 0] 3776 ⟨by omega,h⟩ (by cbv)
 replace h:=AK (BI.1 e) h
 clear e
 try cbv
 replace h:=AG h
 obtain⟨b110,hr,h⟩:=h
 refine AD rfl rfl ?_
 try cbv
 refine AE hM hI (Uu _ hr) rfl ?_
 clear hr
 try cbv
 replace h:=AL h
 obtain⟨b111,hz,h⟩:=h
 refine⟨b111,AU hz,?_⟩
 clear hz
 try cbv
 cases b111
 rotate_left
 ·replace h:=Aq h
  try cbv
  exact AA (m9,true) [1,2,4,8,143] [.loc 0] 3776 ⟨by omega,h⟩ (by cbv)
 replace h:=Ar h
 try cbv
 replace h:=AN h
 obtain⟨z112,hz,h⟩:=h
 refine⟨z112,hz,?_⟩
 clear hz
 try cbv
 replace h:=AG h
 obtain⟨b113,hr,h⟩:=h
 refine AD rfl rfl ?_
 try cbv
 refine AE hM hI ((ih _ (by omega)).2 hr) rfl ?_
 clear hr
 try cbv
 replace h:=AL h
 obtain⟨b114,hz,h⟩:=h
 refine⟨b114,AU hz,?_⟩
 clear hz
 try cbv
 exact AA (m9,b114) [1,2,4,8,143] [.loc 0] 3776 ⟨by omega,h⟩ (by cbv)
theorem cF (n:Nat):∀⦃l1 z2 r1⦄,Rj n l1 z2=some r1->
  AW Tryz.prog inv 34 [.d (.list true 15 l1),.d (.int .i64 z2)] [] (.v (.d (.bool r1))) [] []:=(cE n).2
def Ed:Nat->BA->Int->BA->LD->LD->Int->Int->BA->BA->BA->LD->LD->Int->Int->Bool->Option (Bool)
 | 0,_,_,_,_,_,_,_,_,_,_,_,_,_,_,_=>none
 | n+1,s2,z4,s5,l6,l7,z8,z9,s10,s11,s12,l13,l14,z15,z17,b44=>
  (if b44=true then bO1 (Qk n s2) fun b45=>(if b45=true then bO1 (Rh n z4 s5 l6) fun b46=>(if b46=true then Ad l7 fun z47=>(if z47=(0:Int)then bO1 (WS n z8 z9 s10 s11 s12 l13 l14 z15) fun b48=>some b48 else some false)else some false)else some false)else bO1 (Ri n s2) fun b49=>(if b49=true then Al (IntKind.wrap .i64 (z17 - 1)) fun z50=>bO1 (F8 n z4 s5 l6 z50) fun b51=>(if b51=true then bO1 (XG n z8 z9 s10 s11 s12 l13 l14 z15) fun b52=>Ak (!b52) fun b53=>(if b53=true then Al (IntKind.wrap .i64 (z17 - 1)) fun z54=>bO1 (Uv n z8 z9 s10 s11 s12 l13 l14 z15 z54) fun b55=>(if b55=true then Al (IntKind.wrap .i64 (z17 - 1)) fun z56=>bO1 (Rj n l7 z56) fun b57=>some b57 else some false)else some false)else some false)else some false))
mutual
def Co:Nat->Int->BA->LD->Int->BA->LD->LD->Int->Int->BA->BA->BA->LD->LD->Int->Int->Int->Option (Bool)
 | 0,_,_,_,_,_,_,_,_,_,_,_,_,_,_,_,_,_=>none
 | n+1,z1,s2,l3,z4,s5,l6,l7,z8,z9,s10,s11,s12,l13,l14,z15,z17,z20=>
  Ad l3 fun z21=>(if z20<z21 then EN n z1 s2 l3 z4 s5 l6 l7 z8 z9 s10 s11 s12 l13 l14 z15 z17 z20 true else EN n z1 s2 l3 z4 s5 l6 l7 z8 z9 s10 s11 s12 l13 l14 z15 z17 z20 false)
def EN:Nat->Int->BA->LD->Int->BA->LD->LD->Int->Int->BA->BA->BA->LD->LD->Int->Int->Int->Bool->Option (Bool)
 | 0,_,_,_,_,_,_,_,_,_,_,_,_,_,_,_,_,_,_=>none
 | n+1,z1,s2,l3,z4,s5,l6,l7,z8,z9,s10,s11,s12,l13,l14,z15,z17,z20,b22=>
  (if b22=true then BT l3 z20 fun x23=>B5 x23 fun s24 z25 s26 l27=>(if z1=(2:Int)then DZ n z1 s2 l3 z4 s5 l6 l7 z8 z9 s10 s11 s12 l13 l14 z15 z17 z20 s24 z25 s26 l27 true else DZ n z1 s2 l3 z4 s5 l6 l7 z8 z9 s10 s11 s12 l13 l14 z15 z17 z20 s24 z25 s26 l27 false)else (if z1=(3:Int)then Ed n s2 z4 s5 l6 l7 z8 z9 s10 s11 s12 l13 l14 z15 z17 false else Ed n s2 z4 s5 l6 l7 z8 z9 s10 s11 s12 l13 l14 z15 z17 true))
def DZ:Nat->Int->BA->LD->Int->BA->LD->LD->Int->Int->BA->BA->BA->LD->LD->Int->Int->Int->BA->Int->BA->LD->Bool->Option (Bool)
 | 0,_,_,_,_,_,_,_,_,_,_,_,_,_,_,_,_,_,_,_,_,_,_=>none
 | n+1,z1,s2,l3,z4,s5,l6,l7,z8,z9,s10,s11,s12,l13,l14,z15,z17,z20,s24,z25,s26,l27,b28=>
  (if b28=true then bO1 (Qk n s24) fun b29=>Ak (!b29) fun b30=>(if b30=true then DU n z1 s2 l3 z4 s5 l6 l7 z8 z9 s10 s11 s12 l13 l14 z15 z17 z20 true else bO1 (Rh n z25 s26 l27) fun b31=>Ak (!b31) fun b32=>(if b32=true then Al (IntKind.wrap .i64 (z17 - 1)) fun z33=>bO1 (F8 n z25 s26 l27 z33) fun b34=>Ak (!b34) fun b35=>DU n z1 s2 l3 z4 s5 l6 l7 z8 z9 s10 s11 s12 l13 l14 z15 z17 z20 b35 else DU n z1 s2 l3 z4 s5 l6 l7 z8 z9 s10 s11 s12 l13 l14 z15 z17 z20 false))else bO1 (Ri n s24) fun b37=>Ak (!b37) fun b38=>(if b38=true then Dy n z1 s2 l3 z4 s5 l6 l7 z8 z9 s10 s11 s12 l13 l14 z15 z17 z20 true else Al (IntKind.wrap .i64 (z17 - 1)) fun z39=>bO1 (F8 n z25 s26 l27 z39) fun b40=>Ak (!b40) fun b41=>Dy n z1 s2 l3 z4 s5 l6 l7 z8 z9 s10 s11 s12 l13 l14 z15 z17 z20 b41))
def DU:Nat->Int->BA->LD->Int->BA->LD->LD->Int->Int->BA->BA->BA->LD->LD->Int->Int->Int->Bool->Option (Bool)
 | 0,_,_,_,_,_,_,_,_,_,_,_,_,_,_,_,_,_,_=>none
 | n+1,z1,s2,l3,z4,s5,l6,l7,z8,z9,s10,s11,s12,l13,l14,z15,z17,z20,b36=>
  (if b36=true then some false else FF n z1 s2 l3 z4 s5 l6 l7 z8 z9 s10 s11 s12 l13 l14 z15 z17 z20)
def Dy:Nat->Int->BA->LD->Int->BA->LD->LD->Int->Int->BA->BA->BA->LD->LD->Int->Int->Int->Bool->Option (Bool)
 | 0,_,_,_,_,_,_,_,_,_,_,_,_,_,_,_,_,_,_=>none
 | n+1,z1,s2,l3,z4,s5,l6,l7,z8,z9,s10,s11,s12,l13,l14,z15,z17,z20,b42=>
  (if b42=true then some false else FF n z1 s2 l3 z4 s5 l6 l7 z8 z9 s10 s11 s12 l13 l14 z15 z17 z20)
def FF:Nat->Int->BA->LD->Int->BA->LD->LD->Int->Int->BA->BA->BA->LD->LD->Int->Int->Int->Option (Bool)
 | 0,_,_,_,_,_,_,_,_,_,_,_,_,_,_,_,_,_=>none
 | n+1,z1,s2,l3,z4,s5,l6,l7,z8,z9,s10,s11,s12,l13,l14,z15,z17,z20=>
  Al (IntKind.wrap .i64 (z20+1)) fun z43=>Co n z1 s2 l3 z4 s5 l6 l7 z8 z9 s10 s11 s12 l13 l14 z15 z17 z43
end
def Ee:Nat->Int->BA->LD->Int->BA->LD->LD->Int->Int->BA->BA->BA->LD->LD->Int->Int->Bool->Option (Bool)
 | 0,_,_,_,_,_,_,_,_,_,_,_,_,_,_,_,_,_=>none
 | n+1,z1,s2,l3,z4,s5,l6,l7,z8,z9,s10,s11,s12,l13,l14,z15,z17,b19=>
  (if b19=true then some false else Co n z1 s2 l3 z4 s5 l6 l7 z8 z9 s10 s11 s12 l13 l14 z15 z17 (0:Int))
def XH (n:Nat) (z1:Int) (s2:BA) (l3:LD) (z4:Int) (s5:BA) (l6:LD) (l7:LD) (z8:Int) (z9:Int) (s10:BA) (s11:BA) (s12:BA) (l13:LD) (l14:LD) (z15:Int) (z16:Int) (z17:Int):Option (Bool):=
 (if z1<(1:Int)then Ee n z1 s2 l3 z4 s5 l6 l7 z8 z9 s10 s11 s12 l13 l14 z15 z17 true else (if (3:Int)<z1 then Ee n z1 s2 l3 z4 s5 l6 l7 z8 z9 s10 s11 s12 l13 l14 z15 z17 true else Ad l3 fun z18=>(if (6:Int)<z18 then Ee n z1 s2 l3 z4 s5 l6 l7 z8 z9 s10 s11 s12 l13 l14 z15 z17 true else Ee n z1 s2 l3 z4 s5 l6 l7 z8 z9 s10 s11 s12 l13 l14 z15 z17 false)))
theorem cG (n:Nat):∀⦃z1 s2 l3 z4 s5 l6 l7 z8 z9 s10 s11 s12 l13 l14 z15 z16 z17 r1⦄,XH n z1 s2 l3 z4 s5 l6 l7 z8 z9 s10 s11 s12 l13 l14 z15 z16 z17=some r1->
    AW Tryz.prog inv 19 [.d (.agg [.int .u8 z1,.str s2,.list true 4 l3,.int .u8 z4,.str s5,.list true 3 l6,.list true 15 l7,.int .u8 z8,.int .i64 z9,.str s10,.str s11,.str s12,.list false 1 l13,.list true 8 l14,.int .i64 z15,.int .i64 z16]),.d (.int .i64 z17)] [] (.v (.d (.bool r1))) [] []:=by
 intro z1 s2 l3 z4 s5 l6 l7 z8 z9 s10 s11 s12 l13 l14 z15 z16 z17 r1 h
 unfold XH at h
 refine AW.of Ab AO Bp Tryz.func19 rfl (by kernel_rfl) rfl rfl rfl (fun M hM hI=>?_)
 try cbv
 refine AB ?_
 try cbv
 refine AB ?_
 try cbv
 refine AH 20 [1,2,4,20] [.loc 0] 512 (fun m b=>m<=n/\Ee m z1 s2 l3 z4 s5 l6 l7 z8 z9 s10 s11 s12 l13 l14 z15 z17 b=some r1) ?_ ?_
 ·try cbv
  refine Aa (fun e=>?_) (fun e=>?_)
  ·replace h:=AJ e h
   clear e
   try cbv
   exact AA (n,true) [1,2,4,20] [.loc 0] 512 ⟨by omega,h⟩ (by cbv)
  replace h:=AK (Int.not_lt.2 e) h
  clear e
  try cbv
  refine Aa (fun e=>?_) (fun e=>?_)
  ·replace h:=AJ e h
   clear e
   try cbv
   exact AA (n,true) [1,2,4,20] [.loc 0] 512 ⟨by omega,h⟩ (by cbv)
  replace h:=AK (Int.not_lt.2 e) h
  clear e
  try cbv
  replace h:=AP M h
  obtain⟨z18,hz,h⟩:=h
  refine⟨z18,hz,?_⟩
  clear hz
  try cbv
  refine Aa (fun e=>?_) (fun e=>?_)
  ·replace h:=AJ e h
   clear e
   try cbv
   exact AA (n,true) [1,2,4,20] [.loc 0] 512 ⟨by omega,h⟩ (by cbv)
  replace h:=AK (Int.not_lt.2 e) h
  clear e
  try cbv
  exact AA (n,false) [1,2,4,20] [.loc 0] 512 ⟨by omega,h⟩ (by cbv)
 clear h
 rintro⟨m1,b19⟩ ⟨hm1,h⟩
 try cbv
 replace hm1:m1<=n:=hm1
 obtain _ | m1:=m1
 ·replace h:Ee 0 z1 s2 l3 z4 s5 l6 l7 z8 z9 s10 s11 s12 l13 l14 z15 z17 b19=some r1:=h
  rw[Ee]at h
  cases h
 replace h:Ee (m1+1) z1 s2 l3 z4 s5 l6 l7 z8 z9 s10 s11 s12 l13 l14 z15 z17 b19=some r1:=h
 rw[Ee]at h
 try cbv
 cases b19
 rotate_left
 ·replace h:=Aq h
  try cbv
  refine AB ?_
  try cbv
  obtain rfl:=Option.some.inj h
  refine AF ?_
  try cbv
  exact⟨[],by trivial⟩
 replace h:=Ar h
 try cbv
 refine AB ?_
 try cbv
 refine AB ?_
 try cbv
 refine BF (T:=Nat×Int) [1,2,4,5] [.loc 0] 544 (fun t=>⟨[sI 1 z17,sL 2 0,sB 4 false,sI 5 t.2],[(.loc 0,.cells [.d (.int .u8 z1),.d (.str s2),.d (.list true 4 l3),.d (.int .u8 z4),.d (.str s5),.d (.list true 3 l6),.d (.list true 15 l7),.d (.int .u8 z8),.d (.int .i64 z9),.d (.str s10),.d (.str s11),.d (.str s12),.d (.list false 1 l13),.d (.list true 8 l14),.d (.int .i64 z15),.d (.int .i64 z16)])],544⟩)
   (fun t=>t.1<=m1/\Co t.1 z1 s2 l3 z4 s5 l6 l7 z8 z9 s10 s11 s12 l13 l14 z15 z17 t.2=some r1) (fun t=>t.1) (m1,(0:Int)) ⟨Nat.le_refl _,h⟩ (by cbv) ?_
 clear h
 rintro⟨m2,z20⟩ ⟨hm2,h⟩
 replace hm2:m2<=m1:=hm2
 obtain _ | m2:=m2
 ·replace h:Co 0 z1 s2 l3 z4 s5 l6 l7 z8 z9 s10 s11 s12 l13 l14 z15 z17 z20=some r1:=h
  rw[Co]at h
  cases h
 replace h:Co (m2+1) z1 s2 l3 z4 s5 l6 l7 z8 z9 s10 s11 s12 l13 l14 z15 z17 z20=some r1:=h
 rw[Co]at h
 try cbv
 refine AB ?_
 try cbv
 refine AH 25 [1,2,4,5,25] [.loc 0] 704 (fun m b=>m<=m2/\EN m z1 s2 l3 z4 s5 l6 l7 z8 z9 s10 s11 s12 l13 l14 z15 z17 z20 b=some r1) ?_ ?_
 ·try cbv
  replace h:=AP M h
  obtain⟨z21,hz,h⟩:=h
  refine⟨z21,hz,?_⟩
  clear hz
  try cbv
  refine Aa (fun e=>?_) (fun e=>?_)
  ·replace h:=AJ e h
   clear e
   try cbv
   exact AA (m2,true) [1,2,4,5,25] [.loc 0] 704 ⟨by omega,h⟩ (by cbv)
  replace h:=AK (Int.not_lt.2 e) h
  clear e
  try cbv
  exact AA (m2,false) [1,2,4,5,25] [.loc 0] 704 ⟨by omega,h⟩ (by cbv)
 clear h
 rintro⟨m3,b22⟩ ⟨hm3,h⟩
 try cbv
 replace hm3:m3<=m2:=hm3
 obtain _ | m3:=m3
 ·replace h:EN 0 z1 s2 l3 z4 s5 l6 l7 z8 z9 s10 s11 s12 l13 l14 z15 z17 z20 b22=some r1:=h
  rw[EN]at h
  cases h
 replace h:EN (m3+1) z1 s2 l3 z4 s5 l6 l7 z8 z9 s10 s11 s12 l13 l14 z15 z17 z20 b22=some r1:=h
 rw[EN]at h
 try cbv
 cases b22
 ·replace h:=Ar h
  try cbv
  refine AB ?_
  try cbv
  refine AH 68 [1,2,4,68] [.loc 0] 800 (fun m b=>m<=m3/\Ed m s2 z4 s5 l6 l7 z8 z9 s10 s11 s12 l13 l14 z15 z17 b=some r1) ?_ ?_
  ·try cbv
   refine Ah (fun e=>?_) (fun e=>?_)
   ·replace h:=AJ e h
    clear e
    try cbv
    exact AA (m3,false) [1,2,4,68] [.loc 0] 800 ⟨by omega,h⟩ (by cbv)
   replace h:=AK e h
   clear e
   try cbv
   exact AA (m3,true) [1,2,4,68] [.loc 0] 800 ⟨by omega,h⟩ (by cbv)
  clear h
  rintro⟨m8,b44⟩ ⟨hm8,h⟩
  try cbv
  replace hm8:m8<=m3:=hm8
  obtain _ | m8:=m8
  ·replace h:Ed 0 s2 z4 s5 l6 l7 z8 z9 s10 s11 s12 l13 l14 z15 z17 b44=some r1:=h
   rw[Ed]at h
   cases h
  replace h:Ed (m8+1) s2 z4 s5 l6 l7 z8 z9 s10 s11 s12 l13 l14 z15 z17 b44=some r1:=h
  rw[Ed]at h
  try cbv
  cases b44
  rotate_left
  ·replace h:=Aq h
   try cbv
   refine AB ?_
   try cbv
   replace h:=AG h
   obtain⟨b45,hr,h⟩:=h
   refine AD rfl rfl ?_
   try cbv
   refine AE hM hI (UA _ hr) rfl ?_
   clear hr
   try cbv
   cases b45
   ·replace h:=Ar h
    try cbv
    obtain rfl:=Option.some.inj h
    refine AF ?_
    try cbv
    exact⟨[],by trivial⟩
   replace h:=Aq h
   try cbv
   replace h:=AG h
   obtain⟨b46,hr,h⟩:=h
   refine AD rfl rfl ?_
   try cbv
   refine AE hM hI (Za _ hr) rfl ?_
   clear hr
   try cbv
   cases b46
   ·replace h:=Ar h
    try cbv
    obtain rfl:=Option.some.inj h
    refine AF ?_
    try cbv
    exact⟨[],by trivial⟩
   replace h:=Aq h
   try cbv
   replace h:=AP M h
   obtain⟨z47,hz,h⟩:=h
   refine⟨z47,hz,?_⟩
   clear hz
   try cbv
   refine Ah (fun e=>?_) (fun e=>?_)
   ·replace h:=AJ e h
    clear e
    try cbv
    replace h:=AG h
    obtain⟨b48,hr,h⟩:=h
    refine AD rfl rfl ?_
    try cbv
    refine AE hM hI (bX _ hr) rfl ?_
    clear hr
    try cbv
    obtain rfl:=Option.some.inj h
    refine AF ?_
    try cbv
    exact⟨[],by trivial⟩
   replace h:=AK e h
   clear e
   try cbv
   obtain rfl:=Option.some.inj h
   refine AF ?_
   try cbv
   exact⟨[],by trivial⟩
  replace h:=Ar h
  try cbv
  refine AB ?_
  try cbv
  replace h:=AG h
  obtain⟨b49,hr,h⟩:=h
  refine AD rfl rfl ?_
  try cbv
  refine AE hM hI (Uu _ hr) rfl ?_
  clear hr
  try cbv
  cases b49
  ·replace h:=Ar h
   try cbv
   obtain rfl:=Option.some.inj h
   refine AF ?_
   try cbv
   exact⟨[],by trivial⟩
  replace h:=Aq h
  try cbv
  replace h:=AN h
  obtain⟨z50,hz,h⟩:=h
  refine⟨z50,hz,?_⟩
  clear hz
  try cbv
  replace h:=AG h
  obtain⟨b51,hr,h⟩:=h
  refine AD rfl rfl ?_
  try cbv
  refine AE hM hI (T8 _ hr) rfl ?_
  clear hr
  try cbv
  cases b51
  ·replace h:=Ar h
   try cbv
   obtain rfl:=Option.some.inj h
   refine AF ?_
   try cbv
   exact⟨[],by trivial⟩
  replace h:=Aq h
  try cbv
  replace h:=AG h
  obtain⟨b52,hr,h⟩:=h
  refine AD rfl rfl ?_
  try cbv
  refine AE hM hI (Zb _ hr) rfl ?_
  clear hr
  try cbv
  replace h:=AL h
  obtain⟨b53,hz,h⟩:=h
  refine⟨b53,AU hz,?_⟩
  clear hz
  try cbv
  cases b53
  ·replace h:=Ar h
   try cbv
   obtain rfl:=Option.some.inj h
   refine AF ?_
   try cbv
   exact⟨[],by trivial⟩
  replace h:=Aq h
  try cbv
  replace h:=AN h
  obtain⟨z54,hz,h⟩:=h
  refine⟨z54,hz,?_⟩
  clear hz
  try cbv
  replace h:=AG h
  obtain⟨b55,hr,h⟩:=h
  refine AD rfl rfl ?_
  try cbv
  refine AE hM hI (Zc _ hr) rfl ?_
  clear hr
  try cbv
  cases b55
  ·replace h:=Ar h
   try cbv
   obtain rfl:=Option.some.inj h
   refine AF ?_
   try cbv
   exact⟨[],by trivial⟩
  replace h:=Aq h
  try cbv
  replace h:=AN h
  obtain⟨z56,hz,h⟩:=h
  refine⟨z56,hz,?_⟩
  clear hz
  try cbv
  replace h:=AG h
  obtain⟨b57,hr,h⟩:=h
  refine AD rfl rfl ?_
  try cbv
  refine AE hM hI (cF _ hr) rfl ?_
  clear hr
  try cbv
  obtain rfl:=Option.some.inj h
  refine AF ?_
  try cbv
  exact⟨[],by trivial⟩
 replace h:=Aq h
 try cbv
 refine Aw (T:=Nat×Unit) (fun t=>⟨[sI 1 z17,sL 2 0,sB 4 false,sI 5 z20],[(.loc 0,.cells [.d (.int .u8 z1),.d (.str s2),.d (.list true 4 l3),.d (.int .u8 z4),.d (.str s5),.d (.list true 3 l6),.d (.list true 15 l7),.d (.int .u8 z8),.d (.int .i64 z9),.d (.str s10),.d (.str s11),.d (.str s12),.d (.list false 1 l13),.d (.list true 8 l14),.d (.int .i64 z15),.d (.int .i64 z16)])],1600⟩) (fun t=>t.1<=m3/\FF t.1 z1 s2 l3 z4 s5 l6 l7 z8 z9 s10 s11 s12 l13 l14 z15 z17 z20=some r1) ?_ ?_
 rotate_left
 ·clear h
  rintro⟨m7,_⟩ ⟨hm7,h⟩
  replace hm7:m7<=m3:=hm7
  obtain _ | m7:=m7
  ·replace h:FF 0 z1 s2 l3 z4 s5 l6 l7 z8 z9 s10 s11 s12 l13 l14 z15 z17 z20=some r1:=h
   rw[FF]at h
   cases h
  replace h:FF (m7+1) z1 s2 l3 z4 s5 l6 l7 z8 z9 s10 s11 s12 l13 l14 z15 z17 z20=some r1:=h
  rw[FF]at h
  try cbv
  replace h:=AN h
  obtain⟨z43,hz,h⟩:=h
  refine⟨z43,hz,?_⟩
  clear hz
  try cbv
  exact An (m7,z43) [1,2,4,5] [.loc 0] 544 ⟨by omega,h⟩ (Nat.lt_succ_of_le (by omega)) (by cbv)
 try cbv
 refine AB ?_
 try cbv
 replace h:=Ae h
 obtain⟨x23,⟨hx0,hx⟩,h⟩:=h
 refine⟨x23,hx0,hx,?_⟩
 clear hx0 hx
 replace h:=CQ h
 obtain⟨s24,z25,s26,l27,rfl,h⟩:=h
 try cbv
 refine AH 35 [1,2,4,5,6,35] [.loc 0,.loc 864] 1024 (fun m b=>m<=m3/\DZ m z1 s2 l3 z4 s5 l6 l7 z8 z9 s10 s11 s12 l13 l14 z15 z17 z20 s24 z25 s26 l27 b=some r1) ?_ ?_
 ·try cbv
  refine Ah (fun e=>?_) (fun e=>?_)
  ·replace h:=AJ e h
   clear e
   try cbv
   exact AA (m3,true) [1,2,4,5,6,35] [.loc 0,.loc 864] 1024 ⟨by omega,h⟩ (by cbv)
  replace h:=AK e h
  clear e
  try cbv
  exact AA (m3,false) [1,2,4,5,6,35] [.loc 0,.loc 864] 1024 ⟨by omega,h⟩ (by cbv)
 clear h
 rintro⟨m4,b28⟩ ⟨hm4,h⟩
 try cbv
 replace hm4:m4<=m3:=hm4
 obtain _ | m4:=m4
 ·replace h:DZ 0 z1 s2 l3 z4 s5 l6 l7 z8 z9 s10 s11 s12 l13 l14 z15 z17 z20 s24 z25 s26 l27 b28=some r1:=h
  rw[DZ]at h
  cases h
 replace h:DZ (m4+1) z1 s2 l3 z4 s5 l6 l7 z8 z9 s10 s11 s12 l13 l14 z15 z17 z20 s24 z25 s26 l27 b28=some r1:=h
 rw[DZ]at h
 try cbv
 cases b28
 ·replace h:=Ar h
  try cbv
  refine AH 65 [1,2,4,5,65] [.loc 0] 1408 (fun m b=>m<=m4/\Dy m z1 s2 l3 z4 s5 l6 l7 z8 z9 s10 s11 s12 l13 l14 z15 z17 z20 b=some r1) ?_ ?_
  rotate_left
  ·clear h
   rintro⟨m6,b42⟩ ⟨hm6,h⟩
   try cbv
   replace hm6:m6<=m4:=hm6
   obtain _ | m6:=m6
   ·replace h:Dy 0 z1 s2 l3 z4 s5 l6 l7 z8 z9 s10 s11 s12 l13 l14 z15 z17 z20 b42=some r1:=h
    rw[Dy]at h
    cases h
   replace h:Dy (m6+1) z1 s2 l3 z4 s5 l6 l7 z8 z9 s10 s11 s12 l13 l14 z15 z17 z20 b42=some r1:=h
   rw[Dy]at h
   try cbv
   cases b42
   ·replace h:=Ar h
    try cbv
    exact AA (m6,()) [1,2,4,5] [.loc 0] 1600 ⟨by omega,h⟩ (by cbv)
   replace h:=Aq h
   try cbv
   refine AB ?_
   try cbv
   obtain rfl:=Option.some.inj h
   refine AF ?_
   try cbv
   exact⟨[],by trivial⟩
  try cbv
  replace h:=AG h
  obtain⟨b37,hr,h⟩:=h
  refine AD rfl rfl ?_
  try cbv
  refine AE hM hI (Uu _ hr) rfl ?_
  clear hr
  try cbv
  replace h:=AL h
  obtain⟨b38,hz,h⟩:=h
  refine⟨b38,AU hz,?_⟩
  clear hz
  try cbv
  cases b38
  rotate_left
  ·replace h:=Aq h
   try cbv
   exact AA (m4,true) [1,2,4,5,65] [.loc 0] 1408 ⟨by omega,h⟩ (by cbv)
  replace h:=Ar h
  try cbv
  replace h:=AN h
  obtain⟨z39,hz,h⟩:=h
  refine⟨z39,hz,?_⟩
  clear hz
  try cbv
  replace h:=AG h
  obtain⟨b40,hr,h⟩:=h
  refine AD rfl rfl ?_
  try cbv
  refine AE hM hI (T8 _ hr) rfl ?_
  clear hr
  try cbv
  replace h:=AL h
  obtain⟨b41,hz,h⟩:=h
  refine⟨b41,AU hz,?_⟩
  clear hz
  try cbv
  exact AA (m4,b41) [1,2,4,5,65] [.loc 0] 1408 ⟨by omega,h⟩ (by cbv)
 replace h:=Aq h
 try cbv
 refine AH 53 [1,2,4,5,6,53] [.loc 0,.loc 864] 1600 (fun m b=>m<=m4/\DU m z1 s2 l3 z4 s5 l6 l7 z8 z9 s10 s11 s12 l13 l14 z15 z17 z20 b=some r1) ?_ ?_
 rotate_left
 ·clear h
  rintro⟨m5,b36⟩ ⟨hm5,h⟩
  try cbv
  replace hm5:m5<=m4:=hm5
  obtain _ | m5:=m5
  ·replace h:DU 0 z1 s2 l3 z4 s5 l6 l7 z8 z9 s10 s11 s12 l13 l14 z15 z17 z20 b36=some r1:=h
   rw[DU]at h
   cases h
  replace h:DU (m5+1) z1 s2 l3 z4 s5 l6 l7 z8 z9 s10 s11 s12 l13 l14 z15 z17 z20 b36=some r1:=h
  rw[DU]at h
  try cbv
  cases b36
  ·replace h:=Ar h
   try cbv
   exact AA (m5,()) [1,2,4,5] [.loc 0] 1600 ⟨by omega,h⟩ (by cbv)
  replace h:=Aq h
  try cbv
  refine AB ?_
  try cbv
  obtain rfl:=Option.some.inj h
  refine AF ?_
  try cbv
  exact⟨[],by trivial⟩
 try cbv
 replace h:=AG h
 obtain⟨b29,hr,h⟩:=h
 refine AD rfl rfl ?_
 try cbv
 refine AE hM hI (UA _ hr) rfl ?_
 clear hr
 try cbv
 replace h:=AL h
 obtain⟨b30,hz,h⟩:=h
 refine⟨b30,AU hz,?_⟩
 clear hz
 try cbv
 cases b30
 rotate_left
 ·replace h:=Aq h
  try cbv
  exact AA (m4,true) [1,2,4,5,6,53] [.loc 0,.loc 864] 1600 ⟨by omega,h⟩ (by cbv)
 replace h:=Ar h
 try cbv
 replace h:=AG h
 obtain⟨b31,hr,h⟩:=h
 refine AD rfl rfl ?_
 try cbv
 refine AE hM hI (Za _ hr) rfl ?_
 clear hr
 try cbv
 replace h:=AL h
 obtain⟨b32,hz,h⟩:=h
 refine⟨b32,AU hz,?_⟩
 clear hz
 try cbv
 cases b32
 ·replace h:=Ar h
  try cbv
  exact AA (m4,false) [1,2,4,5,6,53] [.loc 0,.loc 864] 1600 ⟨by omega,h⟩ (by cbv)
 replace h:=Aq h
 try cbv
 replace h:=AN h
 obtain⟨z33,hz,h⟩:=h
 refine⟨z33,hz,?_⟩
 clear hz
 try cbv
 replace h:=AG h
 obtain⟨b34,hr,h⟩:=h
 refine AD rfl rfl ?_
 try cbv
 refine AE hM hI (T8 _ hr) rfl ?_
 clear hr
 try cbv
 replace h:=AL h
 obtain⟨b35,hz,h⟩:=h
 refine⟨b35,AU hz,?_⟩
 clear hz
 try cbv
 exact AA (m4,b35) [1,2,4,5,6,53] [.loc 0,.loc 864] 1600 ⟨by omega,h⟩ (by cbv)
end Go.Proofs.YtmggjbjpklecgaaGreatDoor
end
