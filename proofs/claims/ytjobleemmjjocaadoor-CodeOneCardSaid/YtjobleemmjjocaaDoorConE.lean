/- CodeOne: a unit may be just if each instruction may be there, and all else of it may be, as it may without instructions. No condition. (Part 5: YtjobleemmjjocaaDoorX88, YtjobleemmjjocaaDoorX79, YtjobleemmjjocaaDoorX66, YtjobleemmjjocaaDoorX39, CdJa, AmR, YtjobleemmjjocaaDoorX15, CdK, CdKh.) -/
import Derived.Carry
import Derived.ChangeSame
import Derived.ChangeOld
import Derived.ChangeCalls
import Derived.WideShapes
import Derived.Test.YtjobleemmjjocaaDoorRows
import Derived.Test.YtjobleemmjjocaaDoorTie
import Derived.Test.YtjobleemmjjocaaDoorCards
import Derived.JoinedOf
import Derived.JoinedAt
import Derived.RowKit
import Derived.RowKit2
import Derived.ReadAgain
import Derived.ChangeAlike
import Derived.Lay
import Derived.Handed
import Derived.LaidSub
import Derived.LaidLaws
import Derived.LaidHandle
import Derived.MakeChecks
import Derived.SevenTiedAt
import Derived.Lib.LaidTab
import Derived.Lib.LaidU8
import Derived.Test.YtjobleemmjjocaaDoorConD
set_option linter.unusedVariables false
set_option linter.unusedSimpArgs false
/- Printed by lift.py: functional texts of functions, and their contracts. No condition. -/
set_option linter.unusedVariables false
noncomputable section
namespace Go.Proofs.YtjobleemmjjocaaDoor
open Go Go.AM
def L88_1 : Nat → (List D) → Int → Int → Int → ByteArray → (List D) → Int → ByteArray → (List D) → (List D) → Int → Int → ByteArray → ByteArray → ByteArray → (List D) → (List D) → Int → Int → Option (Int × Int × ByteArray × List D × Int × ByteArray × List D × List D × Int × Int × ByteArray × ByteArray × ByteArray × List D × List D × Int × Int)
  | 0, _, _, _, _, _, _, _, _, _, _, _, _, _, _, _, _, _, _, _ => none
  | n + 1, l1, z18, z19, z20, s21, l22, z23, s24, l25, l26, z27, z28, s29, s30, s31, l32, l33, z34, z35 =>
    (if z19 < z18 then getF l1 z19 fun x36 => ds_t82 x36 fun z37 s38 l39 z40 s41 l42 l43 z44 z45 s46 s47 s48 l49 l50 z51 z52 => bO17 (F78 n z37 s38 l39 z40 s41 l42 l43 z44 z45 s46 s47 s48 l49 l50 z51 z52 z20 s21 l22 z23 s24 l25 l26 z27 z28 s29 s30 s31 l32 l33 z34 z35) fun b53 z54 s55 l56 z57 s58 l59 l60 z61 z62 s63 s64 s65 l66 l67 z68 z69 => (if b53 = true then some (z19, z54, s55, l56, z57, s58, l59, l60, z61, z62, s63, s64, s65, l66, l67, z68, z69) else letF (IntKind.wrap .i64 (z19 + 1)) fun z70 => L88_1 n l1 z18 z70 z54 s55 l56 z57 s58 l59 l60 z61 z62 s63 s64 s65 l66 l67 z68 z69) else some ((-1 : Int), z20, s21, l22, z23, s24, l25, l26, z27, z28, s29, s30, s31, l32, l33, z34, z35))
def F88 (n : Nat) (l1 : List D) (z2 : Int) (s3 : ByteArray) (l4 : List D) (z5 : Int) (s6 : ByteArray) (l7 : List D) (l8 : List D) (z9 : Int) (z10 : Int) (s11 : ByteArray) (s12 : ByteArray) (s13 : ByteArray) (l14 : List D) (l15 : List D) (z16 : Int) (z17 : Int) : Option (Int × Int × ByteArray × List D × Int × ByteArray × List D × List D × Int × Int × ByteArray × ByteArray × ByteArray × List D × List D × Int × Int) :=
  lenF l1 fun z18 => L88_1 n l1 z18 (0 : Int) z2 s3 l4 z5 s6 l7 l8 z9 z10 s11 s12 s13 l14 l15 z16 z17
set_option maxRecDepth 100000 in
set_option maxHeartbeats 40000000 in
theorem T88 (n : Nat) : ∀ ⦃l1 : List D⦄ ⦃z2 : Int⦄ ⦃s3 : ByteArray⦄ ⦃l4 : List D⦄ ⦃z5 : Int⦄ ⦃s6 : ByteArray⦄ ⦃l7 : List D⦄ ⦃l8 : List D⦄ ⦃z9 : Int⦄ ⦃z10 : Int⦄ ⦃s11 : ByteArray⦄ ⦃s12 : ByteArray⦄ ⦃s13 : ByteArray⦄ ⦃l14 : List D⦄ ⦃l15 : List D⦄ ⦃z16 : Int⦄ ⦃z17 : Int⦄ ⦃r1 : Int⦄ ⦃r2 : Int⦄ ⦃r3 : ByteArray⦄ ⦃r4 : List D⦄ ⦃r5 : Int⦄ ⦃r6 : ByteArray⦄ ⦃r7 : List D⦄ ⦃r8 : List D⦄ ⦃r9 : Int⦄ ⦃r10 : Int⦄ ⦃r11 : ByteArray⦄ ⦃r12 : ByteArray⦄ ⦃r13 : ByteArray⦄ ⦃r14 : List D⦄ ⦃r15 : List D⦄ ⦃r16 : Int⦄ ⦃r17 : Int⦄, F88 n l1 z2 s3 l4 z5 s6 l7 l8 z9 z10 s11 s12 s13 l14 l15 z16 z17 = some (r1, r2, r3, r4, r5, r6, r7, r8, r9, r10, r11, r12, r13, r14, r15, r16, r17) →
    Trip Tryd.prog inv 88 [.d (.list true 16 l1), .c (.fn 78 [.ext 0])] [.cells [.d (.int .u8 z2), .d (.str s3), .d (.list true 4 l4), .d (.int .u8 z5), .d (.str s6), .d (.list true 3 l7), .d (.list true 15 l8), .d (.int .u8 z9), .d (.int .i64 z10), .d (.str s11), .d (.str s12), .d (.str s13), .d (.list false 1 l14), .d (.list true 8 l15), .d (.int .i64 z16), .d (.int .i64 z17)]] (.v (.d (.int .i64 r1))) [.cells [.d (.int .u8 r2), .d (.str r3), .d (.list true 4 r4), .d (.int .u8 r5), .d (.str r6), .d (.list true 3 r7), .d (.list true 15 r8), .d (.int .u8 r9), .d (.int .i64 r10), .d (.str r11), .d (.str r12), .d (.str r13), .d (.list false 1 r14), .d (.list true 8 r15), .d (.int .i64 r16), .d (.int .i64 r17)]] [] := by
  intro l1 z2 s3 l4 z5 s6 l7 l8 z9 z10 s11 s12 s13 l14 l15 z16 z17 r1 r2 r3 r4 r5 r6 r7 r8 r9 r10 r11 r12 r13 r14 r15 r16 r17 h
  unfold F88 at h
  refine Trip.of tab_ok tab_one fol Tryd.func88 rfl (by kernel_rfl) rfl rfl rfl (fun M hM hI => ?_)
  try cbv
  replace h := lenF_inv M h
  obtain ⟨z18, hz, h⟩ := h
  refine ⟨z18, hz, ?_⟩
  clear hz
  try cbv
  refine loop_inv (T := Nat × Int × Int × ByteArray × List D × Int × ByteArray × List D × List D × Int × Int × ByteArray × ByteArray × ByteArray × List D × List D × Int × Int) [0, 1, 4, 7, 8] [.ext 0] 128 (fun t => ⟨[(0, .v (.d (.list true 16 l1))), (1, .v (.c (.fn 78 [.ext 0]))), (4, .v (.d (.int .i64 0))), (7, .v (.d (.int .i64 z18))), (8, .v (.d (.int .i64 t.2.1)))], [(.ext 0, .cells [.d (.int .u8 t.2.2.1), .d (.str t.2.2.2.1), .d (.list true 4 t.2.2.2.2.1), .d (.int .u8 t.2.2.2.2.2.1), .d (.str t.2.2.2.2.2.2.1), .d (.list true 3 t.2.2.2.2.2.2.2.1), .d (.list true 15 t.2.2.2.2.2.2.2.2.1), .d (.int .u8 t.2.2.2.2.2.2.2.2.2.1), .d (.int .i64 t.2.2.2.2.2.2.2.2.2.2.1), .d (.str t.2.2.2.2.2.2.2.2.2.2.2.1), .d (.str t.2.2.2.2.2.2.2.2.2.2.2.2.1), .d (.str t.2.2.2.2.2.2.2.2.2.2.2.2.2.1), .d (.list false 1 t.2.2.2.2.2.2.2.2.2.2.2.2.2.2.1), .d (.list true 8 t.2.2.2.2.2.2.2.2.2.2.2.2.2.2.2.1), .d (.int .i64 t.2.2.2.2.2.2.2.2.2.2.2.2.2.2.2.2.1), .d (.int .i64 t.2.2.2.2.2.2.2.2.2.2.2.2.2.2.2.2.2)])], 128⟩)
    (fun t => t.1 ≤ n ∧ L88_1 t.1 l1 z18 t.2.1 t.2.2.1 t.2.2.2.1 t.2.2.2.2.1 t.2.2.2.2.2.1 t.2.2.2.2.2.2.1 t.2.2.2.2.2.2.2.1 t.2.2.2.2.2.2.2.2.1 t.2.2.2.2.2.2.2.2.2.1 t.2.2.2.2.2.2.2.2.2.2.1 t.2.2.2.2.2.2.2.2.2.2.2.1 t.2.2.2.2.2.2.2.2.2.2.2.2.1 t.2.2.2.2.2.2.2.2.2.2.2.2.2.1 t.2.2.2.2.2.2.2.2.2.2.2.2.2.2.1 t.2.2.2.2.2.2.2.2.2.2.2.2.2.2.2.1 t.2.2.2.2.2.2.2.2.2.2.2.2.2.2.2.2.1 t.2.2.2.2.2.2.2.2.2.2.2.2.2.2.2.2.2 = some (r1, r2, r3, r4, r5, r6, r7, r8, r9, r10, r11, r12, r13, r14, r15, r16, r17)) (fun t => t.1) (n, ((0 : Int), z2, s3, l4, z5, s6, l7, l8, z9, z10, s11, s12, s13, l14, l15, z16, z17)) ⟨Nat.le_refl _, h⟩ (by cbv) ?_
  clear h
  rintro ⟨m1, z19, z20, s21, l22, z23, s24, l25, l26, z27, z28, s29, s30, s31, l32, l33, z34, z35⟩ ⟨hm1, h⟩
  replace hm1 : m1 ≤ n := hm1
  cases m1 with
  | zero => cases (show (none : Option _) = some _ from h)
  | succ m1 =>
    replace h : L88_1 (m1 + 1) l1 z18 z19 z20 s21 l22 z23 s24 l25 l26 z27 z28 s29 s30 s31 l32 l33 z34 z35 = some (r1, r2, r3, r4, r5, r6, r7, r8, r9, r10, r11, r12, r13, r14, r15, r16, r17) := h
    rw [L88_1] at h
    try cbv
    refine splitL (fun e => ?_) (fun e => ?_)
    · replace h := ite_t e h
      clear e
      try cbv
      replace h := getF_inv h
      obtain ⟨x36, ⟨hx0, hx⟩, h⟩ := h
      refine ⟨x36, hx0, hx, ?_⟩
      clear hx0 hx
      replace h := ds_t82_inv h
      obtain ⟨z37, s38, l39, z40, s41, l42, l43, z44, z45, s46, s47, s48, l49, l50, z51, z52, rfl, h⟩ := h
      try cbv
      replace h := bO17_inv h
      obtain ⟨b53, z54, s55, l56, z57, s58, l59, l60, z61, z62, s63, s64, s65, l66, l67, z68, z69, hr, h⟩ := h
      refine call_go rfl rfl ?_
      try cbv
      refine call_with hM hI [.ext 0] (T78 _ hr) rfl (by simp) ⟨rfl, trivial⟩ ⟨trivial, trivial⟩ (by simp) ?_
      clear hr
      try cbv
      cases b53
      · replace h := ite_f Bool.false_ne_true h
        try cbv
        replace h := letF_inv h
        obtain ⟨z70, hz, h⟩ := h
        refine ⟨z70, hz, ?_⟩
        clear hz
        try cbv
        exact loop_next (m1, (z70, z54, s55, l56, z57, s58, l59, l60, z61, z62, s63, s64, s65, l66, l67, z68, z69)) [0, 1, 4, 7, 8] [.ext 0] 128 ⟨by omega, h⟩ (Nat.lt_succ_of_le (by omega)) (by cbv)
      · replace h := ite_t rfl h
        try cbv
        obtain ⟨rfl, rfl, rfl, rfl, rfl, rfl, rfl, rfl, rfl, rfl, rfl, rfl, rfl, rfl, rfl, rfl, rfl⟩ := inj17 h
        refine fin_go ?_
        try cbv
        exact ⟨[], rfl, rfl, ⟨rfl, trivial⟩, trivial, trivial⟩
    · replace h := ite_f (Int.not_lt.2 e) h
      clear e
      try cbv
      obtain ⟨rfl, rfl, rfl, rfl, rfl, rfl, rfl, rfl, rfl, rfl, rfl, rfl, rfl, rfl, rfl, rfl, rfl⟩ := inj17 h
      refine fin_go ?_
      try cbv
      exact ⟨[], rfl, rfl, ⟨rfl, trivial⟩, trivial, trivial⟩
end Go.Proofs.YtjobleemmjjocaaDoor
end

/- Printed by lift.py: functional texts of functions, and their contracts. No condition. -/
set_option linter.unusedVariables false
noncomputable section
namespace Go.Proofs.YtjobleemmjjocaaDoor
open Go Go.AM
def F79 (n : Nat) (l1 : List D) (z2 : Int) (s3 : ByteArray) (l4 : List D) (z5 : Int) (s6 : ByteArray) (l7 : List D) (l8 : List D) (z9 : Int) (z10 : Int) (s11 : ByteArray) (s12 : ByteArray) (s13 : ByteArray) (l14 : List D) (l15 : List D) (z16 : Int) (z17 : Int) : Option (Bool × Int × ByteArray × List D × Int × ByteArray × List D × List D × Int × Int × ByteArray × ByteArray × ByteArray × List D × List D × Int × Int) :=
  bO17 (F88 n l1 z2 s3 l4 z5 s6 l7 l8 z9 z10 s11 s12 s13 l14 l15 z16 z17) fun z18 z19 s20 l21 z22 s23 l24 l25 z26 z27 s28 s29 s30 l31 l32 z33 z34 => (if (0 : Int) ≤ z18 then some (true, z19, s20, l21, z22, s23, l24, l25, z26, z27, s28, s29, s30, l31, l32, z33, z34) else some (false, z19, s20, l21, z22, s23, l24, l25, z26, z27, s28, s29, s30, l31, l32, z33, z34))
set_option maxRecDepth 100000 in
set_option maxHeartbeats 40000000 in
theorem T79 (n : Nat) : ∀ ⦃l1 : List D⦄ ⦃z2 : Int⦄ ⦃s3 : ByteArray⦄ ⦃l4 : List D⦄ ⦃z5 : Int⦄ ⦃s6 : ByteArray⦄ ⦃l7 : List D⦄ ⦃l8 : List D⦄ ⦃z9 : Int⦄ ⦃z10 : Int⦄ ⦃s11 : ByteArray⦄ ⦃s12 : ByteArray⦄ ⦃s13 : ByteArray⦄ ⦃l14 : List D⦄ ⦃l15 : List D⦄ ⦃z16 : Int⦄ ⦃z17 : Int⦄ ⦃r1 : Bool⦄ ⦃r2 : Int⦄ ⦃r3 : ByteArray⦄ ⦃r4 : List D⦄ ⦃r5 : Int⦄ ⦃r6 : ByteArray⦄ ⦃r7 : List D⦄ ⦃r8 : List D⦄ ⦃r9 : Int⦄ ⦃r10 : Int⦄ ⦃r11 : ByteArray⦄ ⦃r12 : ByteArray⦄ ⦃r13 : ByteArray⦄ ⦃r14 : List D⦄ ⦃r15 : List D⦄ ⦃r16 : Int⦄ ⦃r17 : Int⦄, F79 n l1 z2 s3 l4 z5 s6 l7 l8 z9 z10 s11 s12 s13 l14 l15 z16 z17 = some (r1, r2, r3, r4, r5, r6, r7, r8, r9, r10, r11, r12, r13, r14, r15, r16, r17) →
    Trip Tryd.prog inv 79 [.d (.list true 16 l1), .c (.fn 78 [.ext 0])] [.cells [.d (.int .u8 z2), .d (.str s3), .d (.list true 4 l4), .d (.int .u8 z5), .d (.str s6), .d (.list true 3 l7), .d (.list true 15 l8), .d (.int .u8 z9), .d (.int .i64 z10), .d (.str s11), .d (.str s12), .d (.str s13), .d (.list false 1 l14), .d (.list true 8 l15), .d (.int .i64 z16), .d (.int .i64 z17)]] (.v (.d (.bool r1))) [.cells [.d (.int .u8 r2), .d (.str r3), .d (.list true 4 r4), .d (.int .u8 r5), .d (.str r6), .d (.list true 3 r7), .d (.list true 15 r8), .d (.int .u8 r9), .d (.int .i64 r10), .d (.str r11), .d (.str r12), .d (.str r13), .d (.list false 1 r14), .d (.list true 8 r15), .d (.int .i64 r16), .d (.int .i64 r17)]] [] := by
  intro l1 z2 s3 l4 z5 s6 l7 l8 z9 z10 s11 s12 s13 l14 l15 z16 z17 r1 r2 r3 r4 r5 r6 r7 r8 r9 r10 r11 r12 r13 r14 r15 r16 r17 h
  unfold F79 at h
  refine Trip.of tab_ok tab_one fol Tryd.func79 rfl (by kernel_rfl) rfl rfl rfl (fun M hM hI => ?_)
  try cbv
  replace h := bO17_inv h
  obtain ⟨z18, z19, s20, l21, z22, s23, l24, l25, z26, z27, s28, s29, s30, l31, l32, z33, z34, hr, h⟩ := h
  refine call_go rfl rfl ?_
  try cbv
  refine call_with hM hI [.ext 0] (T88 _ hr) rfl (by simp) ⟨rfl, trivial⟩ ⟨trivial, trivial⟩ (by simp) ?_
  clear hr
  try cbv
  refine splitLe (fun e => ?_) (fun e => ?_)
  · replace h := ite_t e h
    clear e
    try cbv
    obtain ⟨rfl, rfl, rfl, rfl, rfl, rfl, rfl, rfl, rfl, rfl, rfl, rfl, rfl, rfl, rfl, rfl, rfl⟩ := inj17 h
    refine fin_go ?_
    try cbv
    exact ⟨[], rfl, rfl, ⟨rfl, trivial⟩, trivial, trivial⟩
  · replace h := ite_f (Int.not_le.2 e) h
    clear e
    try cbv
    obtain ⟨rfl, rfl, rfl, rfl, rfl, rfl, rfl, rfl, rfl, rfl, rfl, rfl, rfl, rfl, rfl, rfl, rfl⟩ := inj17 h
    refine fin_go ?_
    try cbv
    exact ⟨[], rfl, rfl, ⟨rfl, trivial⟩, trivial, trivial⟩
end Go.Proofs.YtjobleemmjjocaaDoor
end

/- Printed by lift.py: functional texts of functions, and their contracts. No condition. -/
set_option linter.unusedVariables false
noncomputable section
namespace Go.Proofs.YtjobleemmjjocaaDoor
open Go Go.AM
def L66_1 : Nat → (List D) → Int → Int → Option (Bool)
  | 0, _, _, _ => none
  | n + 1, l1, z3, z4 =>
    (if z4 < z3 then getF l1 z4 fun x5 => ds_t82 x5 fun z6 s7 l8 z9 s10 l11 l12 z13 z14 s15 s16 s17 l18 l19 z20 z21 => (if z6 = (1 : Int) then lenF l8 fun z22 => (if (6 : Int) < z22 then some false else sliceF l1 (0 : Int) z4 fun l23 => bO17 (F79 n l23 z6 s7 l8 z9 s10 l11 l12 z13 z14 s15 s16 s17 l18 l19 z20 z21) fun b24 z25 s26 l27 z28 s29 l30 l31 z32 z33 s34 s35 s36 l37 l38 z39 z40 => (if b24 = true then some false else letF (IntKind.wrap .i64 (z4 + 1)) fun z41 => L66_1 n l1 z3 z41)) else (if z6 = (2 : Int) then lenF l8 fun z42 => (if (6 : Int) < z42 then some false else sliceF l1 (0 : Int) z4 fun l43 => bO17 (F79 n l43 z6 s7 l8 z9 s10 l11 l12 z13 z14 s15 s16 s17 l18 l19 z20 z21) fun b44 z45 s46 l47 z48 s49 l50 l51 z52 z53 s54 s55 s56 l57 l58 z59 z60 => (if b44 = true then some false else letF (IntKind.wrap .i64 (z4 + 1)) fun z61 => L66_1 n l1 z3 z61)) else some false)) else some true)
def F66 (n : Nat) (l1 : List D) : Option (Bool) :=
  lenF l1 fun z2 => (if (30 : Int) < z2 then some false else lenF l1 fun z3 => L66_1 n l1 z3 (0 : Int))
set_option maxRecDepth 100000 in
set_option maxHeartbeats 40000000 in
theorem T66 (n : Nat) : ∀ ⦃l1 : List D⦄ ⦃r1 : Bool⦄, F66 n l1 = some r1 →
    Trip Tryd.prog inv 66 [.d (.list true 16 l1)] [] (.v (.d (.bool r1))) [] [] := by
  intro l1 r1 h
  unfold F66 at h
  refine Trip.of tab_ok tab_one fol Tryd.func66 rfl (by kernel_rfl) rfl rfl rfl (fun M hM hI => ?_)
  try cbv
  replace h := lenF_inv M h
  obtain ⟨z2, hz, h⟩ := h
  refine ⟨z2, hz, ?_⟩
  clear hz
  try cbv
  refine splitL (fun e => ?_) (fun e => ?_)
  · replace h := ite_t e h
    clear e
    try cbv
    obtain rfl := Option.some.inj h
    refine fin_go ?_
    try cbv
    exact ⟨[], rfl, rfl, trivial, trivial, trivial⟩
  · replace h := ite_f (Int.not_lt.2 e) h
    clear e
    try cbv
    replace h := lenF_inv M h
    obtain ⟨z3, hz, h⟩ := h
    refine ⟨z3, hz, ?_⟩
    clear hz
    try cbv
    refine loop_inv (T := Nat × Int) [0, 2, 9, 10, 11] [] 224 (fun t => ⟨[(0, .v (.d (.list true 16 l1))), (2, .v (.d (.bool false))), (9, .v (.d (.list true 16 l1))), (10, .v (.d (.int .i64 z3))), (11, .v (.d (.int .i64 t.2)))], [], 224⟩)
      (fun t => t.1 ≤ n ∧ L66_1 t.1 l1 z3 t.2 = some r1) (fun t => t.1) (n, (0 : Int)) ⟨Nat.le_refl _, h⟩ (by cbv) ?_
    clear h
    rintro ⟨m1, z4⟩ ⟨hm1, h⟩
    replace hm1 : m1 ≤ n := hm1
    cases m1 with
    | zero => cases (show (none : Option _) = some _ from h)
    | succ m1 =>
      replace h : L66_1 (m1 + 1) l1 z3 z4 = some r1 := h
      rw [L66_1] at h
      try cbv
      refine splitL (fun e => ?_) (fun e => ?_)
      · replace h := ite_t e h
        clear e
        try cbv
        replace h := getF_inv h
        obtain ⟨x5, ⟨hx0, hx⟩, h⟩ := h
        refine ⟨x5, hx0, hx, ?_⟩
        clear hx0 hx
        replace h := ds_t82_inv h
        obtain ⟨z6, s7, l8, z9, s10, l11, l12, z13, z14, s15, s16, s17, l18, l19, z20, z21, rfl, h⟩ := h
        try cbv
        refine splitI (fun e => ?_) (fun e => ?_)
        · replace h := ite_t e h
          clear e
          try cbv
          replace h := lenF_inv M h
          obtain ⟨z22, hz, h⟩ := h
          refine ⟨z22, hz, ?_⟩
          clear hz
          try cbv
          refine splitL (fun e => ?_) (fun e => ?_)
          · replace h := ite_t e h
            clear e
            try cbv
            obtain rfl := Option.some.inj h
            refine fin_go ?_
            try cbv
            exact ⟨[], rfl, rfl, trivial, trivial, trivial⟩
          · replace h := ite_f (Int.not_lt.2 e) h
            clear e
            try cbv
            replace h := sliceF_inv M h
            obtain ⟨l23, hb, hz, h⟩ := h
            refine ⟨l23, hb, hz, ?_⟩
            clear hb hz
            try cbv
            replace h := bO17_inv h
            obtain ⟨b24, z25, s26, l27, z28, s29, l30, l31, z32, z33, s34, s35, s36, l37, l38, z39, z40, hr, h⟩ := h
            refine call_go rfl rfl ?_
            try cbv
            refine call_with hM hI [.loc 352] (T79 _ hr) rfl (by simp) ⟨rfl, trivial⟩ ⟨trivial, trivial⟩ (by simp) ?_
            clear hr
            try cbv
            cases b24
            · replace h := ite_f Bool.false_ne_true h
              try cbv
              replace h := letF_inv h
              obtain ⟨z41, hz, h⟩ := h
              refine ⟨z41, hz, ?_⟩
              clear hz
              try cbv
              exact loop_next (m1, z41) [0, 2, 9, 10, 11] [] 224 ⟨by omega, h⟩ (Nat.lt_succ_of_le (by omega)) (by cbv)
            · replace h := ite_t rfl h
              try cbv
              obtain rfl := Option.some.inj h
              refine fin_go ?_
              try cbv
              exact ⟨[], rfl, rfl, trivial, trivial, trivial⟩
        · replace h := ite_f e h
          clear e
          try cbv
          refine splitI (fun e => ?_) (fun e => ?_)
          · replace h := ite_t e h
            clear e
            try cbv
            replace h := lenF_inv M h
            obtain ⟨z42, hz, h⟩ := h
            refine ⟨z42, hz, ?_⟩
            clear hz
            try cbv
            refine splitL (fun e => ?_) (fun e => ?_)
            · replace h := ite_t e h
              clear e
              try cbv
              obtain rfl := Option.some.inj h
              refine fin_go ?_
              try cbv
              exact ⟨[], rfl, rfl, trivial, trivial, trivial⟩
            · replace h := ite_f (Int.not_lt.2 e) h
              clear e
              try cbv
              replace h := sliceF_inv M h
              obtain ⟨l43, hb, hz, h⟩ := h
              refine ⟨l43, hb, hz, ?_⟩
              clear hb hz
              try cbv
              replace h := bO17_inv h
              obtain ⟨b44, z45, s46, l47, z48, s49, l50, l51, z52, z53, s54, s55, s56, l57, l58, z59, z60, hr, h⟩ := h
              refine call_go rfl rfl ?_
              try cbv
              refine call_with hM hI [.loc 352] (T79 _ hr) rfl (by simp) ⟨rfl, trivial⟩ ⟨trivial, trivial⟩ (by simp) ?_
              clear hr
              try cbv
              cases b44
              · replace h := ite_f Bool.false_ne_true h
                try cbv
                replace h := letF_inv h
                obtain ⟨z61, hz, h⟩ := h
                refine ⟨z61, hz, ?_⟩
                clear hz
                try cbv
                exact loop_next (m1, z61) [0, 2, 9, 10, 11] [] 224 ⟨by omega, h⟩ (Nat.lt_succ_of_le (by omega)) (by cbv)
              · replace h := ite_t rfl h
                try cbv
                obtain rfl := Option.some.inj h
                refine fin_go ?_
                try cbv
                exact ⟨[], rfl, rfl, trivial, trivial, trivial⟩
          · replace h := ite_f e h
            clear e
            try cbv
            obtain rfl := Option.some.inj h
            refine fin_go ?_
            try cbv
            exact ⟨[], rfl, rfl, trivial, trivial, trivial⟩
      · replace h := ite_f (Int.not_lt.2 e) h
        clear e
        try cbv
        obtain rfl := Option.some.inj h
        refine fin_go ?_
        try cbv
        exact ⟨[], rfl, rfl, trivial, trivial, trivial⟩
end Go.Proofs.YtjobleemmjjocaaDoor
end

/- Printed by lift.py: functional texts of functions, and their contracts. No condition. -/
set_option linter.unusedVariables false
noncomputable section
namespace Go.Proofs.YtjobleemmjjocaaDoor
open Go Go.AM
mutual
def L39_1 : Nat → (List D) → Int → (List D) → Int → Int → Option (Int)
  | 0, _, _, _, _, _ => none
  | n + 1, l1, z2, l3, z12, z13 =>
    (if z13 < z12 then getF l1 z13 fun x14 => ds_t56 x14 fun s15 z16 z17 l18 => bO1 (F53 n s15) fun b19 => (if b19 = true then (if z16 < (0 : Int) then some (170 : Int) else (if z17 < z16 then some (170 : Int) else (if (60 : Int) < z17 then some (170 : Int) else lenF l18 fun z20 => (if (4000 : Int) < z20 then some (170 : Int) else lenF l18 fun z21 => L39_2 n l1 z2 l3 z12 z13 l18 z21 (0 : Int))))) else some (170 : Int)) else some (0 : Int))
def L39_2 : Nat → (List D) → Int → (List D) → Int → Int → (List D) → Int → Int → Option (Int)
  | 0, _, _, _, _, _, _, _, _ => none
  | n + 1, l1, z2, l3, z12, z13, l18, z21, z22 =>
    (if z22 < z21 then getF l18 z22 fun x23 => ds_t48 x23 fun z24 z25 z26 z27 l28 l29 z30 s31 l32 => bO1 (F33 n l1 z2 l3 z13 z24 z25 z26 z27 l28 l29 z30 s31 l32) fun z33 => (if z33 = (0 : Int) then letF (IntKind.wrap .i64 (z22 + 1)) fun z34 => L39_2 n l1 z2 l3 z12 z13 l18 z21 z34 else some z33) else letF (IntKind.wrap .i64 (z13 + 1)) fun z35 => L39_1 n l1 z2 l3 z12 z35)
end
def F39 (n : Nat) (l1 : List D) (z2 : Int) (l3 : List D) : Option (Int) :=
  lenF l1 fun z4 => (if (200 : Int) < z4 then some (170 : Int) else (if z2 < (0 : Int) then some (170 : Int) else lenF l1 fun z5 => (if z5 ≤ z2 then some (170 : Int) else getF l1 z2 fun x6 => ds_t56 x6 fun s7 z8 z9 l10 => (if z8 = (0 : Int) then bO1 (F66 n l3) fun b11 => (if b11 = true then lenF l1 fun z12 => L39_1 n l1 z2 l3 z12 (0 : Int) else some (170 : Int)) else some (170 : Int)))))
set_option maxRecDepth 100000 in
set_option maxHeartbeats 40000000 in
theorem T39 (n : Nat) : ∀ ⦃l1 : List D⦄ ⦃z2 : Int⦄ ⦃l3 : List D⦄ ⦃r1 : Int⦄, F39 n l1 z2 l3 = some r1 →
    Trip Tryd.prog inv 39 [.d (.agg [.list true 4 l1, .int .i64 z2, .list true 16 l3])] [] (.v (.d (.int .i64 r1))) [] [] := by
  intro l1 z2 l3 r1 h
  unfold F39 at h
  refine Trip.of tab_ok tab_one fol Tryd.func39 rfl (by kernel_rfl) rfl rfl rfl (fun M hM hI => ?_)
  try cbv
  replace h := lenF_inv M h
  obtain ⟨z4, hz, h⟩ := h
  refine ⟨z4, hz, ?_⟩
  clear hz
  try cbv
  refine splitL (fun e => ?_) (fun e => ?_)
  · replace h := ite_t e h
    clear e
    try cbv
    obtain rfl := Option.some.inj h
    refine fin_go ?_
    try cbv
    exact ⟨[], rfl, rfl, trivial, trivial, trivial⟩
  · replace h := ite_f (Int.not_lt.2 e) h
    clear e
    try cbv
    refine splitL (fun e => ?_) (fun e => ?_)
    · replace h := ite_t e h
      clear e
      try cbv
      obtain rfl := Option.some.inj h
      refine fin_go ?_
      try cbv
      exact ⟨[], rfl, rfl, trivial, trivial, trivial⟩
    · replace h := ite_f (Int.not_lt.2 e) h
      clear e
      try cbv
      replace h := lenF_inv M h
      obtain ⟨z5, hz, h⟩ := h
      refine ⟨z5, hz, ?_⟩
      clear hz
      try cbv
      refine splitLe (fun e => ?_) (fun e => ?_)
      · replace h := ite_t e h
        clear e
        try cbv
        obtain rfl := Option.some.inj h
        refine fin_go ?_
        try cbv
        exact ⟨[], rfl, rfl, trivial, trivial, trivial⟩
      · replace h := ite_f (Int.not_le.2 e) h
        clear e
        try cbv
        replace h := getF_inv h
        obtain ⟨x6, ⟨hx0, hx⟩, h⟩ := h
        refine ⟨x6, hx0, hx, ?_⟩
        clear hx0 hx
        replace h := ds_t56_inv h
        obtain ⟨s7, z8, z9, l10, rfl, h⟩ := h
        try cbv
        refine splitI (fun e => ?_) (fun e => ?_)
        · replace h := ite_t e h
          clear e
          try cbv
          replace h := bO1_inv h
          obtain ⟨b11, hr, h⟩ := h
          refine call_go rfl rfl ?_
          try cbv
          refine call_pure hM hI (T66 _ hr) rfl ?_
          clear hr
          try cbv
          cases b11
          · replace h := ite_f Bool.false_ne_true h
            try cbv
            obtain rfl := Option.some.inj h
            refine fin_go ?_
            try cbv
            exact ⟨[], rfl, rfl, trivial, trivial, trivial⟩
          · replace h := ite_t rfl h
            try cbv
            replace h := lenF_inv M h
            obtain ⟨z12, hz, h⟩ := h
            refine ⟨z12, hz, ?_⟩
            clear hz
            try cbv
            refine loop_inv (T := Nat × Int) [1, 2, 42, 43, 44] [.loc 0] 1248 (fun t => ⟨[(1, .v (.c (.ptr (.loc 0) 0))), (2, .v (.d (.int .i64 0))), (42, .v (.d (.list true 4 l1))), (43, .v (.d (.int .i64 z12))), (44, .v (.d (.int .i64 t.2)))], [(.loc 0, .cells [.d (.list true 4 l1), .d (.int .i64 z2), .d (.list true 16 l3)])], 1248⟩)
              (fun t => t.1 ≤ n ∧ L39_1 t.1 l1 z2 l3 z12 t.2 = some r1) (fun t => t.1) (n, (0 : Int)) ⟨Nat.le_refl _, h⟩ (by cbv) ?_
            clear h
            rintro ⟨m1, z13⟩ ⟨hm1, h⟩
            replace hm1 : m1 ≤ n := hm1
            cases m1 with
            | zero => cases (show (none : Option _) = some _ from h)
            | succ m1 =>
              replace h : L39_1 (m1 + 1) l1 z2 l3 z12 z13 = some r1 := h
              rw [L39_1] at h
              try cbv
              refine splitL (fun e => ?_) (fun e => ?_)
              · replace h := ite_t e h
                clear e
                try cbv
                replace h := getF_inv h
                obtain ⟨x14, ⟨hx0, hx⟩, h⟩ := h
                refine ⟨x14, hx0, hx, ?_⟩
                clear hx0 hx
                replace h := ds_t56_inv h
                obtain ⟨s15, z16, z17, l18, rfl, h⟩ := h
                try cbv
                replace h := bO1_inv h
                obtain ⟨b19, hr, h⟩ := h
                refine call_go rfl rfl ?_
                try cbv
                refine call_pure hM hI (T53 _ hr) rfl ?_
                clear hr
                try cbv
                cases b19
                · replace h := ite_f Bool.false_ne_true h
                  try cbv
                  obtain rfl := Option.some.inj h
                  refine fin_go ?_
                  try cbv
                  exact ⟨[], rfl, rfl, trivial, trivial, trivial⟩
                · replace h := ite_t rfl h
                  try cbv
                  refine splitL (fun e => ?_) (fun e => ?_)
                  · replace h := ite_t e h
                    clear e
                    try cbv
                    obtain rfl := Option.some.inj h
                    refine fin_go ?_
                    try cbv
                    exact ⟨[], rfl, rfl, trivial, trivial, trivial⟩
                  · replace h := ite_f (Int.not_lt.2 e) h
                    clear e
                    try cbv
                    refine splitL (fun e => ?_) (fun e => ?_)
                    · replace h := ite_t e h
                      clear e
                      try cbv
                      obtain rfl := Option.some.inj h
                      refine fin_go ?_
                      try cbv
                      exact ⟨[], rfl, rfl, trivial, trivial, trivial⟩
                    · replace h := ite_f (Int.not_lt.2 e) h
                      clear e
                      try cbv
                      refine splitL (fun e => ?_) (fun e => ?_)
                      · replace h := ite_t e h
                        clear e
                        try cbv
                        obtain rfl := Option.some.inj h
                        refine fin_go ?_
                        try cbv
                        exact ⟨[], rfl, rfl, trivial, trivial, trivial⟩
                      · replace h := ite_f (Int.not_lt.2 e) h
                        clear e
                        try cbv
                        replace h := lenF_inv M h
                        obtain ⟨z20, hz, h⟩ := h
                        refine ⟨z20, hz, ?_⟩
                        clear hz
                        try cbv
                        refine splitL (fun e => ?_) (fun e => ?_)
                        · replace h := ite_t e h
                          clear e
                          try cbv
                          obtain rfl := Option.some.inj h
                          refine fin_go ?_
                          try cbv
                          exact ⟨[], rfl, rfl, trivial, trivial, trivial⟩
                        · replace h := ite_f (Int.not_lt.2 e) h
                          clear e
                          try cbv
                          replace h := lenF_inv M h
                          obtain ⟨z21, hz, h⟩ := h
                          refine ⟨z21, hz, ?_⟩
                          clear hz
                          try cbv
                          refine loop_inv (T := Nat × Int) [1, 2, 3, 42, 43, 44, 77, 78, 79] [.loc 0] 2464 (fun t => ⟨[(1, .v (.c (.ptr (.loc 0) 0))), (2, .v (.d (.int .i64 0))), (3, .v (.d (.int .i64 z13))), (42, .v (.d (.list true 4 l1))), (43, .v (.d (.int .i64 z12))), (44, .v (.d (.int .i64 z13))), (77, .v (.d (.list true 9 l18))), (78, .v (.d (.int .i64 z21))), (79, .v (.d (.int .i64 t.2)))], [(.loc 0, .cells [.d (.list true 4 l1), .d (.int .i64 z2), .d (.list true 16 l3)])], 2464⟩)
                            (fun t => t.1 ≤ m1 ∧ L39_2 t.1 l1 z2 l3 z12 z13 l18 z21 t.2 = some r1) (fun t => t.1) (m1, (0 : Int)) ⟨Nat.le_refl _, h⟩ (by cbv) ?_
                          clear h
                          rintro ⟨m2, z22⟩ ⟨hm2, h⟩
                          replace hm2 : m2 ≤ m1 := hm2
                          cases m2 with
                          | zero => cases (show (none : Option _) = some _ from h)
                          | succ m2 =>
                            replace h : L39_2 (m2 + 1) l1 z2 l3 z12 z13 l18 z21 z22 = some r1 := h
                            rw [L39_2] at h
                            try cbv
                            refine splitL (fun e => ?_) (fun e => ?_)
                            · replace h := ite_t e h
                              clear e
                              try cbv
                              replace h := getF_inv h
                              obtain ⟨x23, ⟨hx0, hx⟩, h⟩ := h
                              refine ⟨x23, hx0, hx, ?_⟩
                              clear hx0 hx
                              replace h := ds_t48_inv h
                              obtain ⟨z24, z25, z26, z27, l28, l29, z30, s31, l32, rfl, h⟩ := h
                              try cbv
                              replace h := bO1_inv h
                              obtain ⟨z33, hr, h⟩ := h
                              refine call_go rfl rfl ?_
                              try cbv
                              refine call_pure hM hI (T33 _ hr) rfl ?_
                              clear hr
                              try cbv
                              refine splitI (fun e => ?_) (fun e => ?_)
                              · replace h := ite_t e h
                                clear e
                                try cbv
                                replace h := letF_inv h
                                obtain ⟨z34, hz, h⟩ := h
                                refine ⟨z34, hz, ?_⟩
                                clear hz
                                try cbv
                                exact loop_next (m2, z34) [1, 2, 3, 42, 43, 44, 77, 78, 79] [.loc 0] 2464 ⟨by omega, h⟩ (Nat.lt_succ_of_le (by omega)) (by cbv)
                              · replace h := ite_f e h
                                clear e
                                try cbv
                                obtain rfl := Option.some.inj h
                                refine fin_go ?_
                                try cbv
                                exact ⟨[], rfl, rfl, trivial, trivial, trivial⟩
                            · replace h := ite_f (Int.not_lt.2 e) h
                              clear e
                              try cbv
                              replace h := letF_inv h
                              obtain ⟨z35, hz, h⟩ := h
                              refine ⟨z35, hz, ?_⟩
                              clear hz
                              try cbv
                              exact loop_next (m2, z35) [1, 2, 42, 43, 44] [.loc 0] 1248 ⟨by omega, h⟩ (Nat.lt_succ_of_le (by omega)) (by cbv)
              · replace h := ite_f (Int.not_lt.2 e) h
                clear e
                try cbv
                obtain rfl := Option.some.inj h
                refine fin_go ?_
                try cbv
                exact ⟨[], rfl, rfl, trivial, trivial, trivial⟩
        · replace h := ite_f e h
          clear e
          try cbv
          obtain rfl := Option.some.inj h
          refine fin_go ?_
          try cbv
          exact ⟨[], rfl, rfl, trivial, trivial, trivial⟩
end Go.Proofs.YtjobleemmjjocaaDoor
end

/- Chapter 17, the plain law: the program's text on whether a unit may be. No condition. -/
set_option linter.unusedVariables false
noncomputable section
namespace Go.Proofs.YtjobleemmjjocaaDoor
open Go Go.AM

def nameIs (s : ByteArray) : D → Bool
  | .agg (_ :: .str t :: _) => decide (t = s)
  | _ => false
theorem take_listS {L : List D} {t : TypeId} (h : ListS tab t L) (i : Nat) : ListS tab t (L.take i) := ⟨by have := h.1; simp; omega, fun x hx => h.2 x (List.mem_of_mem_take hx)⟩

theorem ev88 {M : List D} (hM : ListS tab 82 M) (z2 : Int) (s3 : ByteArray) (l4 : List D) (z5 : Int) (s6 : ByteArray) (l7 : List D) (l8 : List D) (z9 : Int) (z10 : Int) (s11 : ByteArray) (s12 : ByteArray) (s13 : ByteArray) (l14 : List D) (l15 : List D) (z16 : Int) (z17 : Int) :
    ∃ r, Ev (fun n => F88 n M z2 s3 l4 z5 s6 l7 l8 z9 z10 s11 s12 s13 l14 l15 z16 z17) (r, z2, s3, l4, z5, s6, l7, l8, z9, z10, s11, s12, s13, l14, l15, z16, z17) ∧ decide (0 ≤ r) = M.any (nameIs s3) := by
  have loop : ∀ i, i ≤ M.length → ∃ r, Ev (fun n => L88_1 n M (M.length : Int) (i : Int) z2 s3 l4 z5 s6 l7 l8 z9 z10 s11 s12 s13 l14 l15 z16 z17) (r, z2, s3, l4, z5, s6, l7, l8, z9, z10, s11, s12, s13, l14, l15, z16, z17) ∧ decide (0 ≤ r) = (M.drop i).any (nameIs s3) := by
    refine down M.length ⟨-1, Ev.succ (by simp [L88_1, Ev.ret]), by simp⟩ (fun i hi ih => ?_)
    obtain ⟨x, hx, hm, hr⟩ := hM.get hi
    obtain ⟨a0, a1, a2, a3, a4, a5, a6, a7, a8, a9, a10, a11, a12, a13, a14, a15, rfl, _⟩ := rs82 hr
    obtain ⟨r, h1, h2⟩ := ih
    rw [any_drop hx]
    by_cases h : a1 = s3
    · refine ⟨i, Ev.succ ?_, by simp [nameIs, h]⟩
      simp only [L88_1, if_pos (ilt hi), getF_nat hx, ds_t82, F78, if_pos h, bO17, if_true]; exact Ev.ret
    · refine ⟨r, Ev.succ ?_, by simpa [nameIs, h] using h2⟩
      simpa only [L88_1, letF, if_pos (ilt hi), getF_nat hx, ds_t82, F78, if_neg h, bO17, if_neg Bool.false_ne_true, wrap_succ hi hM.1] using h1
  obtain ⟨r, h1, h2⟩ := loop 0 (Nat.zero_le _)
  exact ⟨r, by simp only [F88, lenF]; exact h1, by simpa using h2⟩
theorem ev79 {M : List D} (hM : ListS tab 82 M) (z2 : Int) (s3 : ByteArray) (l4 : List D) (z5 : Int) (s6 : ByteArray) (l7 : List D) (l8 : List D) (z9 : Int) (z10 : Int) (s11 : ByteArray) (s12 : ByteArray) (s13 : ByteArray) (l14 : List D) (l15 : List D) (z16 : Int) (z17 : Int) :
    Ev (fun n => F79 n M z2 s3 l4 z5 s6 l7 l8 z9 z10 s11 s12 s13 l14 l15 z16 z17) (M.any (nameIs s3), z2, s3, l4, z5, s6, l7, l8, z9, z10, s11, s12, s13, l14, l15, z16, z17) := by
  obtain ⟨r, ⟨N, h1⟩, h2⟩ := ev88 hM z2 s3 l4 z5 s6 l7 l8 z9 z10 s11 s12 s13 l14 l15 z16 z17
  refine ⟨N, fun n hn => ?_⟩
  replace h1 : F88 n M z2 s3 l4 z5 s6 l7 l8 z9 z10 s11 s12 s13 l14 l15 z16 z17 = _ := h1 n hn
  show F79 n M z2 s3 l4 z5 s6 l7 l8 z9 z10 s11 s12 s13 l14 l15 z16 z17 = _
  unfold F79
  rw [h1, ← h2]
  by_cases h : 0 ≤ r <;> simp [bO17, h]
theorem Ev.bO17 {A1 A2 A3 A4 A5 A6 A7 A8 A9 A10 A11 A12 A13 A14 A15 A16 A17 γ : Type} {A : Nat → Option (A1 × A2 × A3 × A4 × A5 × A6 × A7 × A8 × A9 × A10 × A11 × A12 × A13 × A14 × A15 × A16 × A17)} {p : A1 × A2 × A3 × A4 × A5 × A6 × A7 × A8 × A9 × A10 × A11 × A12 × A13 × A14 × A15 × A16 × A17} {k : Nat → A1 → A2 → A3 → A4 → A5 → A6 → A7 → A8 → A9 → A10 → A11 → A12 → A13 → A14 → A15 → A16 → A17 → Option γ} {r : γ} (ha : Ev A p)
    (hk : Ev (fun n => k n p.1 p.2.1 p.2.2.1 p.2.2.2.1 p.2.2.2.2.1 p.2.2.2.2.2.1 p.2.2.2.2.2.2.1 p.2.2.2.2.2.2.2.1 p.2.2.2.2.2.2.2.2.1 p.2.2.2.2.2.2.2.2.2.1 p.2.2.2.2.2.2.2.2.2.2.1 p.2.2.2.2.2.2.2.2.2.2.2.1 p.2.2.2.2.2.2.2.2.2.2.2.2.1 p.2.2.2.2.2.2.2.2.2.2.2.2.2.1 p.2.2.2.2.2.2.2.2.2.2.2.2.2.2.1 p.2.2.2.2.2.2.2.2.2.2.2.2.2.2.2.1 p.2.2.2.2.2.2.2.2.2.2.2.2.2.2.2.2) r) : Ev (fun n => AM.bO17 (A n) (k n)) r := by
  obtain ⟨N, ha⟩ := ha
  obtain ⟨M, hk⟩ := hk
  exact ⟨N + M, fun n hn => by simp only [ha n (by omega)]; exact hk n (by omega)⟩

/-- The program's text on a unit's types comes to an end. -/
theorem totTypes {l3 : List D} (hT : ListS tab 82 l3) : ∃ r, Ev (fun n => F66 n l3) r := by
  have loop : ∀ i, i ≤ l3.length → ∃ r, Ev (fun n => L66_1 n l3 (l3.length : Int) (i : Int)) r := by
    refine down l3.length ⟨true, Ev.succ (by simp [L66_1, Ev.ret])⟩ (fun i hi ih => ?_)
    obtain ⟨x, hx, hm, hr⟩ := hT.get hi
    obtain ⟨a0, a1, a2, a3, a4, a5, a6, a7, a8, a9, a10, a11, a12, a13, a14, a15, rfl, _⟩ := rs82 hr
    obtain ⟨r, h1⟩ := ih
    have e79 := ev79 (take_listS hT i) a0 a1 a2 a3 a4 a5 a6 a7 a8 a9 a10 a11 a12 a13 a14 a15
    have slice : ∀ {γ : Type} (k : List D → Option γ), sliceF l3 (0 : Int) (i : Int) k = k (l3.take i) := fun k => by
      unfold sliceF
      rw [if_pos ⟨Int.le_refl _, by omega, by omega⟩]
      simp
    have fwd : Ev (fun n => AM.bO17 (F79 n (l3.take i) a0 a1 a2 a3 a4 a5 a6 a7 a8 a9 a10 a11 a12 a13 a14 a15) fun b24 z25 s26 l27 z28 s29 l30 l31 z32 z33 s34 s35 s36 l37 l38 z39 z40 => (if b24 = true then some false else letF (IntKind.wrap .i64 ((i : Int) + 1)) fun z41 => L66_1 n l3 (l3.length : Int) z41)) (!(l3.take i).any (nameIs a1) && r) := by
      refine Ev.bO17 e79 ?_
      cases (l3.take i).any (nameIs a1)
      · simpa only [if_neg Bool.false_ne_true, letF, wrap_succ hi hT.1, Bool.not_false, Bool.true_and] using h1
      · simp only [if_true, Bool.not_true, Bool.false_and]; exact Ev.ret
    by_cases k1 : a0 = 1
    · by_cases g : 6 < (a2.length : Int)
      · refine ⟨false, Ev.succ ?_⟩
        simp only [L66_1, lenF, if_pos (ilt hi), getF_nat hx, ds_t82, if_pos k1, if_pos g]; exact Ev.ret
      · refine ⟨!(l3.take i).any (nameIs a1) && r, Ev.succ ?_⟩
        simp only [L66_1, lenF, if_pos (ilt hi), getF_nat hx, ds_t82, if_pos k1, if_neg g, slice]; exact fwd
    · by_cases k2 : a0 = 2
      · by_cases g : 6 < (a2.length : Int)
        · refine ⟨false, Ev.succ ?_⟩
          simp only [L66_1, lenF, if_pos (ilt hi), getF_nat hx, ds_t82, if_neg k1, if_pos k2, if_pos g]; exact Ev.ret
        · refine ⟨!(l3.take i).any (nameIs a1) && r, Ev.succ ?_⟩
          simp only [L66_1, lenF, if_pos (ilt hi), getF_nat hx, ds_t82, if_neg k1, if_pos k2, if_neg g, slice]; exact fwd
      · refine ⟨false, Ev.succ ?_⟩
        simp only [L66_1, lenF, if_pos (ilt hi), getF_nat hx, ds_t82, if_neg k1, if_neg k2]; exact Ev.ret
  obtain ⟨r, h1⟩ := loop 0 (Nat.zero_le _)
  by_cases g : 30 < (l3.length : Int)
  · exact ⟨false, by simp only [F66, lenF, if_pos g]; exact Ev.ret⟩
  · exact ⟨r, by simp only [F66, lenF, if_neg g]; exact h1⟩

/-- What a function's head may be. -/
def hdB : D → Bool
  | .agg [.str s, .int _ p, .int _ sl, .list _ _ cd] => okName s && !decide (p < 0) && !decide (sl < p) && !decide (60 < sl) && !decide (4000 < (cd.length : Int))
  | _ => false
def okI (l1 : List D) (k : Nat) : D → Bool
  | .agg [.int _ op, .int _ a, .int _ b, .int _ c, .list _ _ l9, .list _ _ l10, .int _ i, .str s12, .list _ _ l13] => okIns l1 k op a b c l9 l10 i s12 l13
  | _ => false
def codeOf : D → List D
  | .agg [_, _, _, .list _ _ cd] => cd
  | _ => []
def fnsB (l1 : List D) : Nat → List D → Bool
  | _, [] => true
  | k, x :: r => hdB x && (codeOf x).all (okI l1 k) && fnsB l1 (k + 1) r
theorem fnsB_drop (l1 : List D) {L : List D} {i : Nat} {x : D} (h : L[i]? = some x) : fnsB l1 i (L.drop i) = (hdB x && (codeOf x).all (okI l1 i) && fnsB l1 (i + 1) (L.drop (i + 1))) := by
  obtain ⟨hi, rfl⟩ := List.getElem?_eq_some_iff.1 h
  rw [List.drop_eq_getElem_cons hi]
  rfl

theorem rc_true : rc true = 0 := rfl
theorem rc_false : rc false = 170 := rfl
theorem ev39fns {l1 : List D} (hF : ListS tab 56 l1) (z2 : Int) (l3 : List D) : ∀ i, i ≤ l1.length → Ev (fun n => L39_1 n l1 z2 l3 (l1.length : Int) (i : Int)) (rc (fnsB l1 i (l1.drop i))) := by
  refine down l1.length (Ev.succ (by simp [L39_1, Ev.ret, fnsB, rc])) (fun i hi ih => ?_)
  obtain ⟨x, hx, hm, hr⟩ := hF.get hi
  obtain ⟨s, p, sl, cd, rfl, _, _, _, hc⟩ := rs56 hr
  rw [fnsB_drop l1 hx]
  have loop : ∀ j, j ≤ cd.length → Ev (fun n => L39_2 n l1 z2 l3 (l1.length : Int) (i : Int) cd (cd.length : Int) (j : Int)) (rc ((cd.drop j).all (okI l1 i) && fnsB l1 (i + 1) (l1.drop (i + 1)))) := by
    refine down cd.length (Ev.succ ?_) (fun j hj ihj => Ev.succ ?_)
    · simpa only [L39_2, Int.lt_irrefl, if_false, letF, wrap_succ hi hF.1, List.drop_length, List.all_nil, Bool.true_and] using ih
    · obtain ⟨y, hy, _, hry⟩ := hc.get hj
      obtain ⟨b0, b1, b2, b3, b4, b5, b6, b7, b8, rfl, w0, _, _, _, w4, w5, _⟩ := rs48 hry
      rw [all_drop hy]
      have e := ev33a hF (u8_range w0).1 (u8_range w0).2 w4 w5 (a := b1) (b := b2) (c := b3) (i := b6) (s12 := b7) (l13 := b8) z2 l3 (i : Int)
      have e2 : okI l1 i (.agg [.int .u8 b0, .int .i64 b1, .int .i64 b2, .int .i64 b3, .list false 1 b4, .list false 1 b5, .int .i64 b6, .str b7, .list false 1 b8]) = okIns l1 i b0 b1 b2 b3 b4 b5 b6 b7 b8 := rfl
      rw [e2]
      simp only [L39_2, letF, if_pos (ilt hj), getF_nat hy, ds_t48, wrap_succ hj hc.1]
      refine Ev.bO1 e ?_
      cases okIns l1 i b0 b1 b2 b3 b4 b5 b6 b7 b8
      · simp only [rc_false, if_neg (show ¬ (170 : Int) = 0 by decide), Bool.false_and]; exact Ev.ret
      · simpa only [rc_true, if_true, Bool.true_and] using ihj
  have l0 := loop 0 (Nat.zero_le _)
  rw [List.drop_zero] at l0
  refine Ev.succ ?_
  simp only [L39_1, lenF, if_pos (ilt hi), getF_nat hx, ds_t56, e53, bO1, hdB, codeOf]
  cases okName s
  · simp only [if_neg Bool.false_ne_true, Bool.false_and, rc_false]; exact Ev.ret
  by_cases g1 : p < 0
  · simp only [if_true, if_pos g1, g1, decide_true, Bool.not_true, Bool.and_false, Bool.false_and, rc_false]; exact Ev.ret
  by_cases g2 : sl < p
  · simp only [if_true, if_neg g1, if_pos g2, g2, decide_true, Bool.not_true, Bool.and_false, Bool.false_and, rc_false]; exact Ev.ret
  by_cases g3 : 60 < sl
  · simp only [if_true, if_neg g1, if_neg g2, if_pos g3, g3, decide_true, Bool.not_true, Bool.and_false, Bool.false_and, rc_false]; exact Ev.ret
  by_cases g4 : 4000 < (cd.length : Int)
  · simp only [if_true, if_neg g1, if_neg g2, if_neg g3, if_pos g4, g4, decide_true, Bool.not_true, Bool.and_false, Bool.false_and, rc_false]; exact Ev.ret
  simp only [if_true, if_neg g1, if_neg g2, if_neg g3, if_neg g4, g1, g2, g3, g4, decide_false, Bool.not_false, Bool.true_and]; exact l0

def par0 : Option D → Bool
  | some (.agg [_, .int _ p, _, _]) => decide (p = 0)
  | _ => false
/-- Whether a unit may be: with the types' answer T. -/
def mayB (l1 : List D) (z2 : Int) (T : Bool) : Bool := !decide (200 < (l1.length : Int)) && !decide (z2 < 0) && !decide ((l1.length : Int) ≤ z2) &&
  par0 l1[z2.toNat]? && T && fnsB l1 0 l1

theorem ev39 {l1 : List D} (hF : ListS tab 56 l1) (z2 : Int) {l3 : List D} {T : Bool} (hT : Ev (fun n => F66 n l3) T) : Ev (fun n => F39 n l1 z2 l3) (rc (mayB l1 z2 T)) := by
  simp only [F39, lenF]
  unfold mayB
  by_cases g1 : 200 < (l1.length : Int)
  · simp only [if_pos g1, g1, decide_true, Bool.not_true, Bool.false_and, rc_false]; exact Ev.ret
  by_cases g2 : z2 < 0
  · simp only [if_neg g1, if_pos g2, g2, decide_true, Bool.not_true, Bool.and_false, Bool.false_and, rc_false]; exact Ev.ret
  by_cases g3 : (l1.length : Int) ≤ z2
  · simp only [if_neg g1, if_neg g2, if_pos g3, g3, decide_true, Bool.not_true, Bool.and_false, Bool.false_and, rc_false]; exact Ev.ret
  obtain ⟨k, rfl⟩ : ∃ k : Nat, z2 = k := ⟨z2.toNat, by omega⟩
  obtain ⟨x, hx, hm, hr⟩ := hF.get (i := k) (by omega)
  obtain ⟨s, p, sl, cd, rfl, _⟩ := rs56 hr
  simp only [if_neg g1, if_neg g2, if_neg g3, getF_nat hx, ds_t56, Int.toNat_natCast, hx, par0, g1, g2, g3, decide_false, Bool.not_false, Bool.true_and]
  by_cases g4 : p = 0
  rotate_left
  · simp only [if_neg g4, g4, decide_false, Bool.false_and, rc_false]; exact Ev.ret
  simp only [if_pos g4, g4, decide_true, Bool.true_and]
  refine Ev.bO1 hT ?_
  cases T
  · simp only [if_neg Bool.false_ne_true, Bool.false_and, rc_false]; exact Ev.ret
  · simp only [if_true, Bool.true_and]
    have := ev39fns hF (k : Int) l3 0 (Nat.zero_le _)
    rw [List.drop_zero] at this
    exact this
end Go.Proofs.YtjobleemmjjocaaDoor
end

/- The abstract machine, part R: a law that returns true, out of its contract over typed data. No condition. -/
namespace Go.AM
open Go Go.RowKit Go.ChangeShapes Go.WideShapes

/-- Arguments of given types. -/
def Shapes (ti : Types) : List TypeId → List D → Prop
  | [], [] => True
  | t :: ts, x :: xs => Shape ti t x.cells ∧ (∀ y, ti t = some y → x.isAgg = rowD y.desc) ∧ Shapes ti ts xs
  | _, _ => False

theorem Shapes.length {ti : Types} : ∀ {ts : List TypeId} {xs : List D}, Shapes ti ts xs → xs.length = ts.length
  | [], [], _ => rfl
  | _ :: _, _ :: _, h => by simp [Shapes.length h.2.2]
  | [], _ :: _, h => h.elim
  | _ :: _, [], h => h.elim

theorem rowD_cases {d : TypeDesc} : (∃ fs, d = .struct fs) ∨ (∃ n e, d = .array n e) ∨ rowD d = false := by
  cases d <;> simp [rowD]

section
variable {H : Type} {enc : TypeId × Value → H} {P : Program} {ti : Types} {T : List TypeId} {w : World}

/-- One argument. -/
theorem conv_arg (hti : TIok P ti) (hT : plainB ti T = true) {Z : Zone} (hZ : ∀ b o, ¬ Z b o) {base base' : Nat} {spare : Nat → Bool} {held : Bool} {r : Reach} {t : TypeId} {v : Value} {d : DataW H} {ps : List MemPlace} (ht : t ∈ T)
    (hok : Value.okWide P w r base' t v) (h : DataW.Trod enc P w base spare held t v d ps) : ∃ x : D, Shape ti t x.cells ∧ (∀ y, ti t = some y → x.isAgg = rowD y.desc) ∧ RelD w Z x v := by
  obtain ⟨fuel, h⟩ := h
  obtain ⟨ds, hs, h1, h2, h3⟩ := conv hti hT (Z := Z) hZ fuel t _ _ _ ht h
  have hp := List.all_eq_true.1 hT t ht
  split at hp
  · rename_i y hy
    have hu := (hti t y hy).1
    have single : rowD y.desc = false → v.cells.toList = [v] → ∃ x : D, Shape ti t x.cells ∧ (∀ y, ti t = some y → x.isAgg = rowD y.desc) ∧ RelD w Z x v := by
      intro hr hv
      rw [hv] at h1 h3
      obtain ⟨c, rfl⟩ := List.length_eq_one_iff.1 h1
      have hc := h2 c (by simp)
      have e : c.cells = [c] := by cases c <;> first | rfl | simp [D.isAgg] at hc
      refine ⟨c, by rw [e]; exact hs, fun y' hy' => ?_, h3 0 c v rfl rfl⟩
      rw [hy] at hy'
      obtain rfl : y = y' := by simpa using hy'
      rw [hc, hr]
    split at hp
    · rename_i hd
      rw [hd] at hu
      obtain ⟨b, rfl⟩ := okWide_bool hu hok
      exact single (by rw [hd]; rfl) rfl
    · rename_i k hd
      rw [hd] at hu
      obtain ⟨b, rfl⟩ := okWide_int hu hok
      exact single (by rw [hd]; rfl) rfl
    · rename_i hd
      rw [hd] at hu
      obtain ⟨b, rfl⟩ := okWide_string hu hok
      exact single (by rw [hd]; rfl) rfl
    · rename_i e hd
      rw [hd] at hu
      obtain ⟨a, l, c, rfl⟩ := okWide_slice hu hok
      exact single (by rw [hd]; rfl) rfl
    · rename_i fs hd
      rw [hd] at hu
      obtain ⟨cs, rfl, _⟩ := okWide_struct hu hok
      refine ⟨.agg ds, hs, fun y' hy' => ?_, .agg ds cs (by simpa [Value.cells] using h1.symm) h2 (fun j c u hc hu' => h3 j c u hc (by simpa [Value.cells] using hu'))⟩
      rw [hy] at hy'
      obtain rfl : y = y' := by simpa using hy'
      rw [hd]; rfl
    · simp at hp
  · simp at hp

theorem conv_args (hti : TIok P ti) (hT : plainB ti T = true) {Z : Zone} (hZ : ∀ b o, ¬ Z b o) {base base' : Nat} {spare : Nat → Bool} {held : Bool} {r : Reach} :
    ∀ (ts : List TypeId) (vs : List Value) (ds : List (DataW H)) (ps : List MemPlace), (∀ t ∈ ts, t ∈ T) → DataW.TrodAll enc P w base spare held ts vs ds ps →
      (∀ (j : Nat) t v, ts[j]? = some t → vs[j]? = some v → Value.okWide P w r base' t v) →
      ∃ xs, Shapes ti ts xs ∧ ∀ (j : Nat) x v, xs[j]? = some x → vs[j]? = some v → RelD w Z x v
  | [], vs, ds, ps, _, h, _ => ⟨[], trivial, by simp⟩
  | t :: ts, vs, ds, ps, ht, h, hok => by
    obtain ⟨v, vs1, d, ds1, a, b, rfl, rfl, rfl, h1, h2⟩ := trodAll_cons h
    obtain ⟨x, k1, k2, k3⟩ := conv_arg hti hT hZ (ht t (by simp)) (hok 0 t v rfl rfl) h1
    obtain ⟨xs, k4, k5⟩ := conv_args hti hT hZ ts vs1 ds1 b (fun t ht' => ht t (by simp [ht'])) h2 (fun j t v h1 h2 => hok (j + 1) t v (by simpa using h1) (by simpa using h2))
    refine ⟨x :: xs, ⟨k1, k2, k4⟩, fun j x' v' hx hv => ?_⟩
    match j with
    | 0 => simp at hx hv; subst hx; subst hv; exact k3
    | j + 1 => simp at hx hv; exact k5 j x' v' hx hv

theorem again_all (hl : laidOutB P = true) {W W' : World} (hb : Below W.heap.size W W') : ∀ (ts : List TypeId) (vs : List Value) (ds : List (DataW H)) (ps : List MemPlace),
    (∀ t ∈ ts, P.readableRec t = true ∧ t < P.types.size) → DataW.TrodAll enc P W 0 (fun _ => true) true ts vs ds ps → (∀ x ∈ ps, x.block < W.heap.size) →
    DataW.TrodAll enc P W' 0 (fun b => decide (b < W.heap.size)) true ts vs ds ps
  | [], vs, ds, ps, _, h, _ => by
    obtain ⟨rfl, rfl, rfl⟩ := trodAll_nil h
    exact rfl
  | t :: ts, vs, ds, ps, ht, h, hlt => by
    obtain ⟨v, vs1, d, ds1, a, b, rfl, rfl, rfl, h1, h2⟩ := trodAll_cons h
    have ht1 := ht t (by simp)
    exact ⟨a, b, Below.trod hl ht1.1 ht1.2 h1 hb (fun x hx => hlt x (by simp [hx])), again_all hl hb ts vs1 ds1 b (fun t ht' => ht t (by simp [ht'])) h2 (fun x hx => hlt x (by simp [hx])), rfl⟩

/-- A law: its contract over every typed input makes its row. -/
theorem law_calls {I : Inv} (hti : TIok P ti) (hT : plainB ti T = true) {s : ChangeSpec} {fn : Func} {f : FuncId} {ts : List TypeId} {bt : TypeId}
    (hp : fn.params.toList = ts) (hv : s.vars = []) (hr : fn.resultTypes = #[bt]) (hb : P.underlying bt = some .bool) (htT : ∀ t ∈ ts, t ∈ T)
    (hs : ∀ ds : List (DataW H), ds.length = ts.length → (s.fn H ds).results = [.lit (.bool true)] ∧ (s.fn H ds).args = ds ∧ (s.fn H ds).vars = [])
    (hl : laidOutB P = true) (hrec : ∀ t ∈ ts, P.readableRec t = true ∧ t < P.types.size)
    (hc : ∀ xs : List D, Shapes ti ts xs → Trip P I f (xs.map V1.d) [] (.v (.d (.bool true))) [] [])
    {W : World} {base : Nat} {args : Array Value} {ds gs : List (DataW H)} {before : List MemPlace}
    (hI : I.at W fun _ _ => False) (hval : ∀ (j : Nat) t v, fn.params[j]? = some t → args[j]? = some v → Value.okWide P W .any base t v)
    (hW : DataW.Whole enc P fn.params.toList s.vars false W args.toList ds gs before) :
    Calls P f args W fun e W' => ∃ v, e = .returned v ∧ s.post enc P fn false true false false W args v W' := by
  have hW' := hW
  obtain ⟨p, q, hA, hV, rfl, _, _⟩ := hW
  rw [hv] at hV
  obtain ⟨rfl, rfl⟩ : gs = [] ∧ q = [] := by
    cases gs with
    | nil => exact ⟨rfl, hV⟩
    | cons _ _ => exact hV.elim
  rw [hp] at hA
  obtain ⟨hlen, hdl⟩ := trodAll_length hA
  obtain ⟨xs, hsh, hrel⟩ := conv_args hti hT (Z := fun _ _ => False) (fun _ _ h => h) (r := .any) (base' := base) ts args.toList ds p htT hA (fun j t v h1 h2 => hval j t v (by
    rw [← Array.getElem?_toList, hp]; exact h1) (by simpa using h2))
  have hxl := hsh.length
  have hcall := hc xs hsh
  have hheap : ∀ i o, heapOf [] i = some o → False := by
    intro i o h
    cases i <;> simp [heapOf] at h
  have hzone : ∀ (g : Ghost) b o, ¬ zone g (heapOf []) b o := by
    rintro g b o ⟨i, ob, h, _⟩
    exact hheap i ob h
  refine (hcall.calls (w := W) (X := fun _ _ => False) (g := fun _ => undef) (vals := args) (fun _ _ h => h.elim) (hI.mono fun b o hz => hz.elim (hzone _ b o) id) ⟨fun i o h => (hheap i o h).elim, fun i _ _ _ _ h => (hheap i _ h).elim, fun i _ _ _ h => (hheap i _ h).elim⟩ (fun _ => rfl)
    (by simp at hlen; simp; omega) (fun j x v hx hvv => ?_)).mono ?_
  · simp only [List.getElem?_map, Option.map_eq_some_iff] at hx
    obtain ⟨d, hd, rfl⟩ := hx
    exact (hrel j d v hd (by simpa using hvv)).mono (fun b o u hu _ => ⟨hu, fun hz => hz.elim (hzone _ b o) id⟩)
  · rintro e W' ⟨v, g', rfl, hpost⟩
    obtain rfl : v = .bool true := by cases (show RelD _ _ (.bool true) v from hpost.res); rfl
    have hbel : Below W.heap.size W W' := ⟨hpost.frame.os, hpost.frame.tape, hpost.frame.output, hpost.frame.size, fun k hk => hpost.frame.block k hk (fun o => hzone _ k o)⟩
    obtain ⟨s1, s2, s3⟩ := hs (ds ++ []) (by simp [hdl])
    refine ⟨_, rfl, ds, [], p ++ [], [], p, [], hW', ?_, ?_, ?_, hbel.frame _, fun h => by cases h⟩
    · rw [s1, hr]
      exact trodAll_mk1 (shut_bool hb true)
    · rw [s2, hp, List.append_nil]
      exact again_all hl hbel ts args.toList ds p hrec hA (fun x hx => hW'.lt x (by simp [hx]))
    · rw [s3, hv]; rfl
end
end Go.AM

/- Printed by lift.py: functional texts of functions, and their contracts. No condition. -/
set_option linter.unusedVariables false
noncomputable section
namespace Go.Proofs.YtjobleemmjjocaaDoor
open Go Go.AM
mutual
def L15_1 : Nat → (List D) → Int → (List D) → Bool → Int → (List D) → Option (Bool)
  | 0, _, _, _, _, _, _ => none
  | n + 1, l1, z2, l3, b6, z7, l8 =>
    lenF l1 fun z9 => (if z7 < z9 then getF l1 z7 fun x10 => ds_t56 x10 fun s11 z12 z13 l14 => L15_2 n l1 z2 l3 z7 l8 s11 z12 z13 l14 b6 (0 : Int) else bO1 (F39 n l1 z2 l3) fun z34 => (if z34 = (0 : Int) then (if b6 = true then bO1 (F39 n l8 z2 l3) fun z35 => (if z35 = (0 : Int) then bO1 (F35 n) fun b36 => some b36 else some false) else some false) else (if b6 = true then bO1 (F39 n l8 z2 l3) fun z37 => (if z37 = (0 : Int) then some false else bO1 (F35 n) fun b38 => some b38) else bO1 (F35 n) fun b39 => some b39)))
def L15_2 : Nat → (List D) → Int → (List D) → Int → (List D) → ByteArray → Int → Int → (List D) → Bool → Int → Option (Bool)
  | 0, _, _, _, _, _, _, _, _, _, _, _ => none
  | n + 1, l1, z2, l3, z7, l8, s11, z12, z13, l14, b15, z16 =>
    lenF l14 fun z17 => (if z16 < z17 then (if b15 = true then getF l14 z16 fun x18 => ds_t48 x18 fun z19 z20 z21 z22 l23 l24 z25 s26 l27 => bO1 (F33 n l1 z2 l3 z7 z19 z20 z21 z22 l23 l24 z25 s26 l27) fun z28 => (if z28 = (0 : Int) then letF (IntKind.wrap .i64 (z16 + 1)) fun z29 => L15_2 n l1 z2 l3 z7 l8 s11 z12 z13 l14 true z29 else letF (IntKind.wrap .i64 (z16 + 1)) fun z30 => L15_2 n l1 z2 l3 z7 l8 s11 z12 z13 l14 false z30) else letF (IntKind.wrap .i64 (z16 + 1)) fun z31 => L15_2 n l1 z2 l3 z7 l8 s11 z12 z13 l14 false z31) else appF 56 l8 ([.agg [.str s11, .int .i64 z12, .int .i64 z13, .list true 9 []]]) fun l32 => letF (IntKind.wrap .i64 (z7 + 1)) fun z33 => L15_1 n l1 z2 l3 b15 z33 l32)
end
def F15 (n : Nat) (l1 : List D) (z2 : Int) (l3 : List D) : Option (Bool) :=
  bO1 (F31 n l1 z2 l3) fun b4 => (if b4 = true then bO1 (F35 n) fun b5 => some b5 else L15_1 n l1 z2 l3 true (0 : Int) ([] : List D))
set_option maxRecDepth 100000 in
set_option maxHeartbeats 40000000 in
theorem T15 (n : Nat) : ∀ ⦃l1 : List D⦄ ⦃z2 : Int⦄ ⦃l3 : List D⦄ ⦃r1 : Bool⦄, F15 n l1 z2 l3 = some r1 →
    Trip Tryd.prog inv 15 [.d (.agg [.list true 4 l1, .int .i64 z2, .list true 16 l3])] [] (.v (.d (.bool r1))) [] [] := by
  intro l1 z2 l3 r1 h
  unfold F15 at h
  refine Trip.of tab_ok tab_one fol Tryd.func15 rfl (by kernel_rfl) rfl rfl rfl (fun M hM hI => ?_)
  try cbv
  replace h := bO1_inv h
  obtain ⟨b4, hr, h⟩ := h
  refine call_go rfl rfl ?_
  try cbv
  refine call_pure hM hI (T31 _ hr) rfl ?_
  clear hr
  try cbv
  cases b4
  · replace h := ite_f Bool.false_ne_true h
    try cbv
    refine loop_invT (T := Nat × Bool × Int × List D) [.cell (.loc 160) 0 true 4 56] [1, 2, 3, 4, 5] [.loc 0, .loc 160, .loc 352] 384 (fun t => ⟨[(1, .v (.c (.ptr (.loc 0) 0))), (2, .v (.d (.bool false))), (3, .v (.c (.ptr (.loc 160) 0))), (4, .v (.d (.bool t.2.1))), (5, .v (.d (.int .i64 t.2.2.1)))], [(.loc 0, .cells [.d (.list true 4 l1), .d (.int .i64 z2), .d (.list true 16 l3)]), (.loc 160, .cells [.lst (.loc 352) true 4 t.2.2.2, .d (.int .i64 z2), .d (.list true 16 l3)]), (.loc 352, .tok t.2.2.2.length 4 56)], 384⟩)
      (fun t => t.1 ≤ n ∧ L15_1 t.1 l1 z2 l3 t.2.1 t.2.2.1 t.2.2.2 = some r1) (fun t => t.1) (n, (true, (0 : Int), ([] : List D))) ⟨Nat.le_refl _, h⟩ (by cbv) ?_
    clear h
    rintro ⟨m1, b6, z7, l8⟩ ⟨hm1, h⟩
    replace hm1 : m1 ≤ n := hm1
    cases m1 with
    | zero => cases (show (none : Option _) = some _ from h)
    | succ m1 =>
      replace h : L15_1 (m1 + 1) l1 z2 l3 b6 z7 l8 = some r1 := h
      rw [L15_1] at h
      try cbv
      replace h := lenF_inv M h
      obtain ⟨z9, hz, h⟩ := h
      refine ⟨z9, hz, ?_⟩
      clear hz
      try cbv
      refine splitL (fun e => ?_) (fun e => ?_)
      · replace h := ite_t e h
        clear e
        try cbv
        replace h := getF_inv h
        obtain ⟨x10, ⟨hx0, hx⟩, h⟩ := h
        refine ⟨x10, hx0, hx, ?_⟩
        clear hx0 hx
        replace h := ds_t56_inv h
        obtain ⟨s11, z12, z13, l14, rfl, h⟩ := h
        try cbv
        refine loop_inv (T := Nat × Bool × Int) [1, 2, 3, 4, 5, 6, 7] [.loc 0, .loc 160, .loc 352, .loc 704] 800 (fun t => ⟨[(1, .v (.c (.ptr (.loc 0) 0))), (2, .v (.d (.bool false))), (3, .v (.c (.ptr (.loc 160) 0))), (4, .v (.d (.bool t.2.1))), (5, .v (.d (.int .i64 z7))), (6, .v (.c (.ptr (.loc 704) 0))), (7, .v (.d (.int .i64 t.2.2)))], [(.loc 0, .cells [.d (.list true 4 l1), .d (.int .i64 z2), .d (.list true 16 l3)]), (.loc 160, .cells [.lst (.loc 352) true 4 l8, .d (.int .i64 z2), .d (.list true 16 l3)]), (.loc 352, .tok l8.length 4 56), (.loc 704, .cells [.d (.str s11), .d (.int .i64 z12), .d (.int .i64 z13), .d (.list true 9 l14)])], 800⟩)
          (fun t => t.1 ≤ m1 ∧ L15_2 t.1 l1 z2 l3 z7 l8 s11 z12 z13 l14 t.2.1 t.2.2 = some r1) (fun t => t.1) (m1, (b6, (0 : Int))) ⟨Nat.le_refl _, h⟩ (by cbv) ?_
        clear h
        rintro ⟨m2, b15, z16⟩ ⟨hm2, h⟩
        replace hm2 : m2 ≤ m1 := hm2
        cases m2 with
        | zero => cases (show (none : Option _) = some _ from h)
        | succ m2 =>
          replace h : L15_2 (m2 + 1) l1 z2 l3 z7 l8 s11 z12 z13 l14 b15 z16 = some r1 := h
          rw [L15_2] at h
          try cbv
          replace h := lenF_inv M h
          obtain ⟨z17, hz, h⟩ := h
          refine ⟨z17, hz, ?_⟩
          clear hz
          try cbv
          refine splitL (fun e => ?_) (fun e => ?_)
          · replace h := ite_t e h
            clear e
            try cbv
            cases b15
            · replace h := ite_f Bool.false_ne_true h
              try cbv
              refine drawn ?_ ?_
              · show _ = true
                kernel_rfl
              try cbv
              replace h := letF_inv h
              obtain ⟨z31, hz, h⟩ := h
              refine ⟨z31, hz, ?_⟩
              clear hz
              try cbv
              exact loop_next (m2, (false, z31)) [1, 2, 3, 4, 5, 6, 7] [.loc 0, .loc 160, .loc 352, .loc 704] 800 ⟨by omega, h⟩ (Nat.lt_succ_of_le (by omega)) (by cbv)
            · replace h := ite_t rfl h
              try cbv
              replace h := getF_inv h
              obtain ⟨x18, ⟨hx0, hx⟩, h⟩ := h
              refine ⟨x18, hx0, hx, ?_⟩
              clear hx0 hx
              replace h := ds_t48_inv h
              obtain ⟨z19, z20, z21, z22, l23, l24, z25, s26, l27, rfl, h⟩ := h
              try cbv
              replace h := bO1_inv h
              obtain ⟨z28, hr, h⟩ := h
              refine ⟨[], ?_⟩
              try cbv
              refine call_pure hM hI (T33 _ hr) rfl ?_
              clear hr
              try cbv
              refine splitI (fun e => ?_) (fun e => ?_)
              · replace h := ite_t e h
                clear e
                try cbv
                refine drawn ?_ ?_
                · show _ = true
                  kernel_rfl
                try cbv
                replace h := letF_inv h
                obtain ⟨z29, hz, h⟩ := h
                refine ⟨z29, hz, ?_⟩
                clear hz
                try cbv
                exact loop_next (m2, (true, z29)) [1, 2, 3, 4, 5, 6, 7] [.loc 0, .loc 160, .loc 352, .loc 704] 800 ⟨by omega, h⟩ (Nat.lt_succ_of_le (by omega)) (by cbv)
              · replace h := ite_f e h
                clear e
                try cbv
                refine drawn ?_ ?_
                · show _ = true
                  kernel_rfl
                try cbv
                replace h := letF_inv h
                obtain ⟨z30, hz, h⟩ := h
                refine ⟨z30, hz, ?_⟩
                clear hz
                try cbv
                exact loop_next (m2, (false, z30)) [1, 2, 3, 4, 5, 6, 7] [.loc 0, .loc 160, .loc 352, .loc 704] 800 ⟨by omega, h⟩ (Nat.lt_succ_of_le (by omega)) (by cbv)
          · replace h := ite_f (Int.not_lt.2 e) h
            clear e
            try cbv
            refine ⟨false, ?_⟩
            try cbv
            refine ⟨true, ?_⟩
            try cbv
            replace h := appF_inv h
            obtain ⟨l32, hb, hz, h⟩ := h
            refine ⟨false, ?_⟩
            try cbv
            first | refine ⟨rfl, (M.lock_iff _).2 hb, l32, hz, ?_⟩ | refine ⟨(M.lock_iff _).2 hb, l32, hz, ?_⟩
            clear hb hz
            try cbv
            replace h := letF_inv h
            obtain ⟨z33, hz, h⟩ := h
            refine ⟨z33, hz, ?_⟩
            clear hz
            try cbv
            exact loop_next (m2, (b15, z33, l32)) [1, 2, 3, 4, 5] [.loc 0, .loc 160, .loc 352] 384 ⟨by omega, h⟩ (Nat.lt_succ_of_le (by omega)) (by cbv)
      · replace h := ite_f (Int.not_lt.2 e) h
        clear e
        try cbv
        replace h := bO1_inv h
        obtain ⟨z34, hr, h⟩ := h
        refine call_go rfl rfl ?_
        try cbv
        refine call_pure hM hI (T39 _ hr) rfl ?_
        clear hr
        try cbv
        refine splitI (fun e => ?_) (fun e => ?_)
        · replace h := ite_t e h
          clear e
          try cbv
          cases b6
          · replace h := ite_f Bool.false_ne_true h
            try cbv
            obtain rfl := Option.some.inj h
            refine fin_go ?_
            try cbv
            exact ⟨[], rfl, rfl, trivial, trivial, trivial⟩
          · replace h := ite_t rfl h
            try cbv
            replace h := bO1_inv h
            obtain ⟨z35, hr, h⟩ := h
            refine call_go rfl rfl ?_
            try cbv
            refine call_pure hM hI (T39 _ hr) rfl ?_
            clear hr
            try cbv
            refine splitI (fun e => ?_) (fun e => ?_)
            · replace h := ite_t e h
              clear e
              try cbv
              replace h := bO1_inv h
              obtain ⟨b36, hr, h⟩ := h
              refine call_go rfl rfl ?_
              try cbv
              refine call_pure hM hI (T35 _ hr) rfl ?_
              clear hr
              try cbv
              obtain rfl := Option.some.inj h
              refine fin_go ?_
              try cbv
              exact ⟨[], rfl, rfl, trivial, trivial, trivial⟩
            · replace h := ite_f e h
              clear e
              try cbv
              obtain rfl := Option.some.inj h
              refine fin_go ?_
              try cbv
              exact ⟨[], rfl, rfl, trivial, trivial, trivial⟩
        · replace h := ite_f e h
          clear e
          try cbv
          cases b6
          · replace h := ite_f Bool.false_ne_true h
            try cbv
            replace h := bO1_inv h
            obtain ⟨b39, hr, h⟩ := h
            refine call_go rfl rfl ?_
            try cbv
            refine call_pure hM hI (T35 _ hr) rfl ?_
            clear hr
            try cbv
            obtain rfl := Option.some.inj h
            refine fin_go ?_
            try cbv
            exact ⟨[], rfl, rfl, trivial, trivial, trivial⟩
          · replace h := ite_t rfl h
            try cbv
            replace h := bO1_inv h
            obtain ⟨z37, hr, h⟩ := h
            refine call_go rfl rfl ?_
            try cbv
            refine call_pure hM hI (T39 _ hr) rfl ?_
            clear hr
            try cbv
            refine splitI (fun e => ?_) (fun e => ?_)
            · replace h := ite_t e h
              clear e
              try cbv
              obtain rfl := Option.some.inj h
              refine fin_go ?_
              try cbv
              exact ⟨[], rfl, rfl, trivial, trivial, trivial⟩
            · replace h := ite_f e h
              clear e
              try cbv
              replace h := bO1_inv h
              obtain ⟨b38, hr, h⟩ := h
              refine call_go rfl rfl ?_
              try cbv
              refine call_pure hM hI (T35 _ hr) rfl ?_
              clear hr
              try cbv
              obtain rfl := Option.some.inj h
              refine fin_go ?_
              try cbv
              exact ⟨[], rfl, rfl, trivial, trivial, trivial⟩
  · replace h := ite_t rfl h
    try cbv
    replace h := bO1_inv h
    obtain ⟨b5, hr, h⟩ := h
    refine call_go rfl rfl ?_
    try cbv
    refine call_pure hM hI (T35 _ hr) rfl ?_
    clear hr
    try cbv
    obtain rfl := Option.some.inj h
    refine fin_go ?_
    try cbv
    exact ⟨[], rfl, rfl, trivial, trivial, trivial⟩
end Go.Proofs.YtjobleemmjjocaaDoor
end

/- Chapter 17, the plain law: CodeOne. No condition. -/
set_option linter.unusedVariables false
noncomputable section
namespace Go.Proofs.YtjobleemmjjocaaDoor
open Go Go.AM

/-- Large, and what is known where it is not. -/
theorem tot31b {l1 : List D} (hF : ListS tab 56 l1) (z2 : Int) {l3 : List D} (hT : ListS tab 82 l3) : ∃ r, Ev (fun n => F31 n l1 z2 l3) r ∧ (r = false → l1.length ≤ 30 ∧ ∀ x ∈ l1, (codeOf x).length ≤ 300) := by
  have loop3 : ∀ i, i ≤ l3.length → ∃ r, Ev (fun n => L31_3 n l3 (i : Int)) r := by
    refine down l3.length ⟨false, Ev.succ (by simp [L31_3, lenF, Ev.ret])⟩ (fun i hi ih => ?_)
    obtain ⟨x, hx, hm, hr⟩ := hT.get hi
    obtain ⟨a0, a1, a2, a3, a4, a5, a6, a7, a8, a9, a10, a11, a12, a13, a14, a15, rfl, _⟩ := rs82 hr
    obtain ⟨r, h⟩ := ih
    by_cases g1 : 20 < (a2.length : Int)
    · refine ⟨true, Ev.succ ?_⟩
      simp only [L31_3, lenF, if_pos (ilt hi), getF_nat hx, ds_t82, if_pos g1]; exact Ev.ret
    by_cases g2 : 1000 < (a1.size : Int)
    · refine ⟨true, Ev.succ ?_⟩
      simp only [L31_3, lenF, szF, if_pos (ilt hi), getF_nat hx, ds_t82, if_neg g1, if_pos g2]; exact Ev.ret
    · refine ⟨r, Ev.succ ?_⟩
      simpa only [L31_3, lenF, szF, letF, if_pos (ilt hi), getF_nat hx, ds_t82, if_neg g1, if_neg g2, wrap_succ hi hT.1] using h
  have loop1 : ∀ i, i ≤ l1.length → ∃ r, Ev (fun n => L31_1 n l1 l3 (i : Int)) r ∧ (r = false → ∀ x ∈ l1.drop i, (codeOf x).length ≤ 300) := by
    obtain ⟨r3, h3⟩ := loop3 0 (Nat.zero_le _)
    refine down l1.length ⟨r3, Ev.succ (by simp only [L31_1, lenF, Int.lt_irrefl, if_false]; exact h3), fun _ => by simp⟩ (fun i hi ih => ?_)
    obtain ⟨x, hx, hm, hr⟩ := hF.get hi
    obtain ⟨s, p, q, cd, rfl, _, _, _, hc⟩ := rs56 hr
    by_cases g1 : 300 < (cd.length : Int)
    · refine ⟨true, Ev.succ ?_, fun h => by cases h⟩
      simp only [L31_1, lenF, if_pos (ilt hi), getF_nat hx, ds_t56, if_pos g1]; exact Ev.ret
    by_cases g2 : 1000 < (s.size : Int)
    · refine ⟨true, Ev.succ ?_, fun h => by cases h⟩
      simp only [L31_1, lenF, szF, if_pos (ilt hi), getF_nat hx, ds_t56, if_neg g1, if_pos g2]; exact Ev.ret
    obtain ⟨r1, h1, k1⟩ := ih
    have kk : r1 = false → ∀ x ∈ l1.drop i, (codeOf x).length ≤ 300 := fun e x hx' => by
      obtain ⟨hi', e2⟩ := List.getElem?_eq_some_iff.1 hx
      rw [List.drop_eq_getElem_cons hi', e2] at hx'
      rcases List.mem_cons.1 hx' with rfl | hx'
      · show cd.length ≤ 300; omega
      · exact k1 e x hx'
    have loop2 : ∀ j, j ≤ cd.length → ∃ r, Ev (fun n => L31_2 n l1 l3 (i : Int) (j : Int)) r ∧ (r = false → r1 = false) := by
      refine down cd.length ⟨r1, Ev.succ (by simpa only [L31_2, lenF, letF, getF_nat hx, ds_t56, Int.lt_irrefl, if_false, wrap_succ hi hF.1] using h1), id⟩ (fun j hj ihj => ?_)
      obtain ⟨y, hy, _, hry⟩ := hc.get hj
      obtain ⟨b0, b1, b2, b3, b4, b5, b6, b7, b8, rfl, _, _, _, _, _, w5, _⟩ := rs48 hry
      obtain ⟨rl, hl⟩ := tot32 b0 b1 b2 b3 b4 w5 b6 b7 b8
      obtain ⟨r, h, k⟩ := ihj
      cases rl
      · refine ⟨r, Ev.succ ?_, k⟩
        simp only [L31_2, lenF, letF, getF_nat hx, getF_nat hy, ds_t56, ds_t48, if_pos (ilt hj), wrap_succ hj hc.1]
        exact Ev.bO1 hl (by simpa only [if_neg Bool.false_ne_true] using h)
      · refine ⟨true, Ev.succ ?_, fun h => by cases h⟩
        simp only [L31_2, lenF, letF, getF_nat hx, getF_nat hy, ds_t56, ds_t48, if_pos (ilt hj), wrap_succ hj hc.1]
        exact Ev.bO1 hl (by simp only [if_true]; exact Ev.ret)
    obtain ⟨r, h, k⟩ := loop2 0 (Nat.zero_le _)
    refine ⟨r, Ev.succ ?_, fun e => kk (k e)⟩
    simp only [L31_1, lenF, szF, if_pos (ilt hi), getF_nat hx, ds_t56, if_neg g1, if_neg g2]; exact h
  obtain ⟨r, h, k⟩ := loop1 0 (Nat.zero_le _)
  simp only [F31, lenF]
  by_cases g1 : 30 < (l1.length : Int)
  · exact ⟨true, by simp only [if_pos g1]; exact Ev.ret, fun h => by cases h⟩
  by_cases g2 : 40 < (l3.length : Int)
  · exact ⟨true, by simp only [if_neg g1, if_pos g2]; exact Ev.ret, fun h => by cases h⟩
  exact ⟨r, by simp only [if_neg g1, if_neg g2]; exact h, fun e => ⟨by omega, by simpa using k e⟩⟩

/-- A function without its code. -/
def bareOf : D → D
  | .agg [a, b, c, .list g n _] => .agg [a, b, c, .list g n []]
  | x => x
theorem row56_bare {s : ByteArray} {p q : Int} (hs : s.size ≤ maxLen) (hp : (Lit.int .i64 p).wf = true) (hq : (Lit.int .i64 q).wf = true) : RowS tab 56 (.agg [.str s, .int .i64 p, .int .i64 q, .list true 9 []]) := by
  have t56 : tab 56 = some (tyD tab 56) := by kernel_rfl
  obtain ⟨fs, hfs, hall⟩ : ∃ fs, (tyD tab 56).desc = .struct fs ∧ (fs.toList.all fun f => [(9, 0), (3, 1), (3, 2), (54, 3)].contains (f.type, f.offset)) = true := ⟨(match (tyD tab 56).desc with | .struct fs => fs | _ => #[]), by kernel_rfl, by kernel_rfl⟩
  have t9 : tab 9 = some (tyD tab 9) := by kernel_rfl
  have t3 : tab 3 = some (tyD tab 3) := by kernel_rfl
  have t54 : tab 54 = some (tyD tab 54) := by kernel_rfl
  have t48 : tab 48 = some (tyD tab 48) := by kernel_rfl
  have s9 : (tyD tab 9).size = 1 := by kernel_rfl
  have s3 : (tyD tab 3).size = 1 := by kernel_rfl
  have s54 : (tyD tab 54).size = 1 := by kernel_rfl
  have l54 : Shape tab 54 [.list true 9 []] := by
    have e : D.list (rowD (tyD tab 48).desc) (tyD tab 48).size [] = .list true 9 [] := by kernel_rfl
    rw [← e]
    exact .slice (x := tyD tab 54) (e := 48) [] t54 (by kernel_rfl) t48 (Nat.zero_le _) (by simp) (by simp)
  refine ⟨.struct (x := tyD tab 56) (fs := fs) [.str s, .int .i64 p, .int .i64 q, .list true 9 []] t56 hfs (by kernel_rfl) (by simp [D.isAgg]) (fun f hf y hy => ?_), fun y hy => ?_⟩
  · have := List.all_eq_true.1 hall f hf
    simp only [List.contains_cons, List.contains_nil, Bool.or_false, Bool.or_eq_true, beq_iff_eq, Prod.mk.injEq] at this
    rcases this with ⟨e1, e2⟩ | ⟨e1, e2⟩ | ⟨e1, e2⟩ | ⟨e1, e2⟩
    · rw [e1] at hy ⊢; rw [t9] at hy; cases hy; rw [e2, s9]; exact .str (x := tyD tab 9) s t9 (by kernel_rfl) hs
    · rw [e1] at hy ⊢; rw [t3] at hy; cases hy; rw [e2, s3]; exact .int (x := tyD tab 3) p t3 (by kernel_rfl) hp
    · rw [e1] at hy ⊢; rw [t3] at hy; cases hy; rw [e2, s3]; exact .int (x := tyD tab 3) q t3 (by kernel_rfl) hq
    · rw [e1] at hy ⊢; rw [t54] at hy; cases hy; rw [e2, s54]; exact l54
  · rw [t56] at hy; cases hy; kernel_rfl
theorem list56_bare {l : List D} (h : ListS tab 56 l) : ListS tab 56 (l.map bareOf) := ⟨by simpa using h.1, fun x hx => by
  obtain ⟨y, hy, rfl⟩ := List.mem_map.1 hx
  obtain ⟨s, p, q, cd, rfl, w0, w1, w2, _⟩ := rs56 (h.2 y hy)
  exact row56_bare w0 w1 w2⟩

/-- All instructions of all functions. -/
def insAll (l1 : List D) : Nat → List D → Bool
  | _, [] => true
  | k, x :: r => (codeOf x).all (okI l1 k) && insAll l1 (k + 1) r
theorem insAll_drop (l1 : List D) {L : List D} {i : Nat} {x : D} (h : L[i]? = some x) : insAll l1 i (L.drop i) = ((codeOf x).all (okI l1 i) && insAll l1 (i + 1) (L.drop (i + 1))) := by
  obtain ⟨hi, rfl⟩ := List.getElem?_eq_some_iff.1 h
  rw [List.drop_eq_getElem_cons hi]
  rfl
theorem fnsB_eq (l1 : List D) : ∀ (k : Nat) (L : List D), fnsB l1 k L = (L.all hdB && insAll l1 k L)
  | _, [] => rfl
  | k, x :: r => by
    simp only [fnsB, insAll, List.all_cons, fnsB_eq l1 (k + 1) r]
    cases hdB x <;> cases (codeOf x).all (okI l1 k) <;> cases r.all hdB <;> cases insAll l1 (k + 1) r <;> rfl
theorem bare_row {x : D} (h : RowS tab 56 x) (hc : (codeOf x).length ≤ 300) : hdB (bareOf x) = hdB x ∧ codeOf (bareOf x) = [] ∧ ∃ s p q cd, x = .agg [.str s, .int .i64 p, .int .i64 q, .list true 9 cd] ∧ bareOf x = .agg [.str s, .int .i64 p, .int .i64 q, .list true 9 []] := by
  obtain ⟨s, p, q, cd, rfl, _⟩ := rs56 h
  have e : ¬ 4000 < (cd.length : Int) := by
    have : cd.length ≤ 300 := hc
    omega
  refine ⟨?_, rfl, s, p, q, cd, rfl, rfl⟩
  simp only [bareOf, hdB, e]
  simp
theorem bare_fns (l8 : List D) : ∀ (L : List D) (k : Nat), (∀ x ∈ L, RowS tab 56 x ∧ (codeOf x).length ≤ 300) → fnsB l8 k (L.map bareOf) = L.all hdB
  | [], _, _ => rfl
  | x :: r, k, h => by
    obtain ⟨a, b, _⟩ := bare_row (h x (by simp)).1 (h x (by simp)).2
    simp only [List.map_cons, fnsB, List.all_cons, a, b, List.all_nil, Bool.and_true, bare_fns l8 r (k + 1) (fun y hy => h y (by simp [hy]))]
theorem may_bare {l1 : List D} (hF : ListS tab 56 l1) (hc : ∀ x ∈ l1, (codeOf x).length ≤ 300) (z2 : Int) (T : Bool) : mayB l1 z2 T = (insAll l1 0 l1 && mayB (l1.map bareOf) z2 T) := by
  unfold mayB
  rw [fnsB_eq, bare_fns _ l1 0 (fun x hx => ⟨hF.2 x hx, hc x hx⟩), List.length_map]
  have e : par0 (l1.map bareOf)[z2.toNat]? = par0 l1[z2.toNat]? := by
    rw [List.getElem?_map]
    cases hx : l1[z2.toNat]? with
    | none => rfl
    | some x =>
      obtain ⟨s, p, q, cd, rfl, _⟩ := rs56 (hF.2 x (List.mem_of_getElem? hx))
      rfl
  rw [e]
  generalize l1.all hdB = u1
  generalize insAll l1 0 l1 = u2
  generalize par0 l1[z2.toNat]? = u3
  generalize (!decide (200 < (l1.length : Int)) && !decide (z2 < 0) && !decide ((l1.length : Int) ≤ z2)) = u4
  cases u1 <;> cases u2 <;> cases u3 <;> cases u4 <;> cases T <;> rfl

theorem code_one_law {l1 : List D} (hF : ListS tab 56 l1) (z2 : Int) {l3 : List D} (hT : ListS tab 82 l3) : Ev (fun n => F15 n l1 z2 l3) true := by
  obtain ⟨r, hr, hsm⟩ := tot31b hF z2 hT
  obtain ⟨T, t1⟩ := totTypes hT
  have aw : Ev (fun n => bO1 (F35 n) fun b => some b) true := Ev.bO1 ev35 Ev.ret
  unfold F15
  refine Ev.bO1 hr ?_
  cases r
  rotate_left
  · simp only [if_true]; exact aw
  obtain ⟨h30, h300⟩ := hsm rfl
  simp only [if_neg Bool.false_ne_true]
  have hB := list56_bare hF
  have e1 := ev39 hF z2 t1
  have e2 := ev39 hB z2 t1
  rw [may_bare hF h300 z2 T] at e1
  have z0 : ¬ (170 : Int) = 0 := by decide
  have loop : ∀ i, i ≤ l1.length → ∀ b, (b && insAll l1 i (l1.drop i)) = insAll l1 0 l1 → Ev (fun n => L15_1 n l1 z2 l3 b (i : Int) ((l1.take i).map bareOf)) true := by
    refine down l1.length ?_ (fun i hi ih => ?_)
    · intro b hb
      rw [List.drop_length, show insAll l1 l1.length [] = true from rfl, Bool.and_true] at hb
      subst hb
      refine Ev.succ ?_
      simp only [L15_1, lenF, Int.lt_irrefl, if_false, List.take_length]
      refine Ev.bO1 e1 ?_
      cases hA : insAll l1 0 l1
      · simp only [Bool.false_and, rc_false, if_neg z0, if_neg Bool.false_ne_true]; exact aw
      · simp only [Bool.true_and]
        cases hM : mayB (l1.map bareOf) z2 T
        · rw [hM] at e2
          simp only [rc_false, if_neg z0, if_true]
          refine Ev.bO1 e2 ?_
          simp only [rc_false, if_neg z0]; exact aw
        · rw [hM] at e2
          simp only [rc_true, if_true]
          refine Ev.bO1 e2 ?_
          simp only [rc_true, if_true]; exact aw
    · obtain ⟨x, hx, hm, hrx⟩ := hF.get hi
      obtain ⟨_, _, s, p, q, cd, rfl, hbx⟩ := bare_row hrx (h300 x hm)
      obtain ⟨_, _, _, _, hx4, _, _, _, hc⟩ := rs56 hrx
      cases hx4
      have app : ∀ {γ : Type} (k : List D → Option γ), appF 56 ((l1.take i).map bareOf) [.agg [.str s, .int .i64 p, .int .i64 q, .list true 9 []]] k = k ((l1.take (i + 1)).map bareOf) := fun k => by
        unfold appF
        have hl : (l1.take i).length = i := by simp; omega
        have mx : maxLen = 9223372036854775807 := rfl
        rw [if_pos (by simp only [List.length_map, hl, List.length_cons, List.length_nil]; omega), ← hbx]
        congr 1
        obtain ⟨hi', e⟩ := List.getElem?_eq_some_iff.1 hx
        rw [← e, List.take_succ_eq_append_getElem hi', List.map_append]; rfl
      intro b hb
      rw [insAll_drop l1 hx] at hb
      have inner : ∀ j, j ≤ cd.length → ∀ b, (b && ((cd.drop j).all (okI l1 i) && insAll l1 (i + 1) (l1.drop (i + 1)))) = insAll l1 0 l1 →
          Ev (fun n => L15_2 n l1 z2 l3 (i : Int) ((l1.take i).map bareOf) s p q cd b (j : Int)) true := by
        refine down cd.length ?_ (fun j hj ihj => ?_)
        · intro b hb
          rw [List.drop_length, List.all_nil, Bool.true_and] at hb
          refine Ev.succ ?_
          simp only [L15_2, lenF, letF, Int.lt_irrefl, if_false, app, wrap_succ hi hF.1]
          exact ih b hb
        · obtain ⟨y, hy, _, hry⟩ := hc.get hj
          obtain ⟨b0, b1, b2, b3, b4, b5, b6, b7, b8, rfl, w0, _, _, _, w4, w5, _⟩ := rs48 hry
          intro b hb
          rw [all_drop hy] at hb
          have e := ev33a hF (u8_range w0).1 (u8_range w0).2 w4 w5 (a := b1) (b := b2) (c := b3) (i := b6) (s12 := b7) (l13 := b8) z2 l3 (i : Int)
          have e2 : okI l1 i (.agg [.int .u8 b0, .int .i64 b1, .int .i64 b2, .int .i64 b3, .list false 1 b4, .list false 1 b5, .int .i64 b6, .str b7, .list false 1 b8]) = okIns l1 i b0 b1 b2 b3 b4 b5 b6 b7 b8 := rfl
          rw [e2] at hb
          refine Ev.succ ?_
          cases b
          · simp only [L15_2, lenF, letF, if_pos (ilt hj), if_neg Bool.false_ne_true, wrap_succ hj hc.1]
            exact ihj false (by rw [Bool.false_and] at hb ⊢; exact hb)
          · simp only [L15_2, lenF, letF, if_pos (ilt hj), if_true, getF_nat hy, ds_t48, wrap_succ hj hc.1]
            refine Ev.bO1 e ?_
            cases hk : okIns l1 i b0 b1 b2 b3 b4 b5 b6 b7 b8
            · rw [hk] at hb
              simp only [rc_false, if_neg z0]
              exact ihj false (by rw [← hb]; simp)
            · rw [hk] at hb
              simp only [rc_true, if_true]
              exact ihj true (by rw [← hb]; simp)
      refine Ev.succ ?_
      simp only [L15_1, lenF, if_pos (ilt hi), getF_nat hx, ds_t56]
      exact inner 0 (Nat.zero_le _) b hb
  exact loop 0 (Nat.zero_le _) true (by rw [List.drop_zero, Bool.true_and])
theorem code_one_trip : ∀ xs : List D, Shapes tab [45] xs → Trip Tryd.prog inv 15 (xs.map V1.d) [] (.v (.d (.bool true))) [] [] := by
  intro xs h
  match xs, h with
  | [u], ⟨u1, u2, _⟩ =>
    obtain ⟨l1, z2, l3, rfl, hF, _, hT⟩ := rs45 ⟨u1, u2⟩
    obtain ⟨n, hn⟩ := (code_one_law hF z2 hT).run
    exact T15 n hn
end Go.Proofs.YtjobleemmjjocaaDoor
end

/- CodeOne holds: a unit may be just if each instruction may be there, and all else of it may be. No condition. -/
namespace Go.Proofs.YtjobleemmjjocaaDoor
open Go Go.ChangeShapes Go.WideShapes Go.ChangeAt Go.RowKit Go.AM

theorem code_one_reads : ∀ t ∈ [45], Tryd.prog.readableRec t = true ∧ t < Tryd.prog.types.size := by
  have h : ([45].all fun t => Tryd.prog.readableRec t && decide (t < Tryd.prog.types.size)) = true := by kernel_rfl
  intro t ht
  have := List.all_eq_true.1 h t ht
  simpa using this

/-- What the row knows of the library's table. -/
theorem code_one_inv {W : World} (h : laidMet Tryd.prog Rows.codeOneRow.laid W) : inv.at W fun _ _ => False := by
  have e : (Rows.codeOneRow.laid.filter fun x => x.1 == "internal/strconv.uint64pow10") = [("internal/strconv.uint64pow10", Lib.tabData .u64 Lib.pow10Tab)] := by kernel_rfl
  have h2 := laidMet.filter (fun x => x.1 == "internal/strconv.uint64pow10") h
  rw [e] at h2
  have ht : Lib.TabIs Tryd.prog W "internal/strconv.uint64pow10" .u64 Lib.pow10Tab := by
    exact Lib.tabIs_of_head (g := 0) (t := 138) (e := 35) (n := 20) (by kernel_rfl) (by kernel_rfl) (by kernel_rfl) (by kernel_rfl) (by kernel_rfl) (by kernel_rfl) h2
  refine ⟨ht, fun b hb => ⟨?_, fun _ h => h⟩⟩
  have hb : Tryd.prog.globalNamed "internal/strconv.uint64pow10" = some b := hb
  unfold Lib.TabIs World.var? at ht
  rw [hb] at ht
  simp only [Option.bind_some] at ht
  cases hx : W.heap[b]? with
  | none => rw [hx] at ht; simp at ht
  | some o => exact (Array.getElem?_eq_some_iff.1 hx).1

set_option maxRecDepth 100000 in
theorem code_one_lifted (os : Os) (started : os.Started) (H : Type) (enc : TypeId × Value → H) :
    ReturnsInHanded {} Tryd.checked os 15 .any (fun w args => (Rows.codeOneSpec.pre enc Tryd.prog Tryd.f15 Rows.codeOneRow.domain false w args ∧ laidMetH Tryd.prog Rows.codeOneRow.laid w) ∧ sizedMet enc Tryd.prog Tryd.f15 (OpenSpec.ofChange Rows.codeOneSpec) false w args)
      (Rows.codeOneSpec.post enc Tryd.prog Tryd.f15 false true false false) := by
  refine returnsInHanded_of_change_and (C := Tryd.checked) (X := fun w _ => laidMetH Tryd.prog Rows.codeOneRow.laid w) (fun _ _ _ hh h => h.of_heap hh) (by kernel_rfl) started (by kernel_rfl) Tryd.func15
    (ChangeSpec.witness_shaped (enc := enc) (C := Tryd.checked) (os := os) (X := fun w _ => laidMetH Tryd.prog Rows.codeOneRow.laid w) false (World.laidAll Tryd.prog os Rows.codeOneRow.laid) #[.agg #[.slice none 0 0, .int .i64 0, .slice none 0 0]] 8 (World.laidAll_os _ _ _)
      (World.shaped_of_ZipB (by kernel_rfl) (by kernel_rfl)) (by kernel_rfl) (by kernel_rfl) (by kernel_rfl)
      (by rw [MakeChecks.laidMetH_plain _ _ _ (by kernel_rfl)]; exact laidMet_laidAll _ (by kernel_rfl) (by kernel_rfl))) ?_
  intro W base args ds gs before hval0 hW _ _ hL _
  rw [MakeChecks.laidMetH_plain _ _ _ (by kernel_rfl)] at hL
  refine law_calls (ti := tab) (T := [2, 3, 5, 9, 30, 42, 43, 45, 46, 48, 54, 56, 71, 72, 74, 75, 77, 78, 80, 82, 98, 162, 164, 166]) tab_ok (by kernel_rfl) (ts := [45]) (bt := 4) rfl rfl rfl (by kernel_rfl) (by decide) ?_ (by kernel_rfl) code_one_reads code_one_trip (code_one_inv hL) hval0 hW
  intro ds h
  match ds, h with
  | [_], _ => exact ⟨rfl, rfl, rfl⟩
theorem code_one_row : Rows.CodeOneSaid :=
  OpenClaim.holds_of_wide 15 Tryd.f15 rfl rfl rfl rfl rfl rfl rfl ⟨rfl, rfl, rfl, rfl, rfl⟩ rfl rfl rfl rfl rfl (by kernel_rfl) Tryd.func15 (by kernel_rfl)
    (of_decide_eq_true (by kernel_rfl)) (by unfold Func.isWrapper; first | (rw [if_pos (by decide +kernel)]; kernel_rfl) | (rw [if_neg (by decide +kernel)]; exact ⟨rfl, rfl⟩))
    (fun os started H enc _ => code_one_lifted os started H enc)
theorem code_one : Rows.CodeOneCardSaid :=
  Claim7.holds_tied_plain_at .later [] [.data, .data, .data] true Rows.codeOneCard.stood.harness false code_one_row (fun _ h => by cases h) (by kernel_rfl) (fun _ h => by cases h) codeOne_row_tie rfl ⟨rfl, rfl⟩ (by kernel_rfl) rfl
    (fun f fn hf hfn => by
      obtain rfl : f = 15 := Option.some.inj ((show Tryd.prog.funcNamed "weftway/weftwaylaw17.CodeOne" = some 15 by kernel_rfl).symm.trans hf) |>.symm
      obtain rfl : fn = Tryd.f15 := (Option.some.inj (Tryd.func15.symm.trans hfn)).symm
      exact ⟨by kernel_rfl, fun j t ht => by
        have hm : t ∈ [45] := by
          have hp : Tryd.f15.params.toList = [45] := rfl
          rw [← hp]; simpa using Array.mem_of_getElem? ht
        have hall : ([45].all fun u => !Tryd.prog.wantsStandIn u) = true := by kernel_rfl
        exact (show Tryd.prog.wantsStandIn t = false by simpa using List.all_eq_true.1 hall t hm)⟩)
    (by kernel_rfl)
end Go.Proofs.YtjobleemmjjocaaDoor
