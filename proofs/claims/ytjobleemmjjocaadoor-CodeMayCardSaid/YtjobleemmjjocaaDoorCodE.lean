/- Part of a proof. No condition. (Part 5: YtjobleemmjjocaaDoorX34, CdC, YtjobleemmjjocaaDoorX63, YtjobleemmjjocaaDoorX36, YtjobleemmjjocaaDoorX75, YtjobleemmjjocaaDoorX62, YtjobleemmjjocaaDoorX35, CdD, CdE.) -/
import Derived.Test.YtjobleemmjjocaaDoorCodD
set_option linter.unusedVariables false
set_option linter.unusedSimpArgs false
/- Printed by lift.py: functional texts of functions, and their contracts. No condition. -/
set_option linter.unusedVariables false
noncomputable section
namespace Go.Proofs.YtjobleemmjjocaaDoor
open Go Go.AM
def L34_1 : Nat → Int → Int → Int → Int → (List D) → (List D) → Int → (List D) → Int → Bool → Int → Option (Int)
  | 0, _, _, _, _, _, _, _, _, _, _, _ => none
  | n + 1, z5, z6, z7, z8, l9, l10, z11, l13, z25, b73, z74 =>
    lenF l9 fun z75 => (if z74 < z75 then (if b73 = true then getF l9 z74 fun x76 => ds_i64 x76 fun z77 => (if (0 : Int) ≤ z77 then getF l9 z74 fun x78 => ds_i64 x78 fun z79 => (if z79 ≤ z25 then letF (IntKind.wrap .i64 (z74 + 1)) fun z80 => L34_1 n z5 z6 z7 z8 l9 l10 z11 l13 z25 true z80 else letF (IntKind.wrap .i64 (z74 + 1)) fun z81 => L34_1 n z5 z6 z7 z8 l9 l10 z11 l13 z25 false z81) else letF (IntKind.wrap .i64 (z74 + 1)) fun z82 => L34_1 n z5 z6 z7 z8 l9 l10 z11 l13 z25 false z82) else some (170 : Int)) else (if b73 = true then bO1 (F61 n z5 z6 z7 z8 ([] : List D) l10 z11 ByteArray.empty l13) fun b83 => (if b83 = true then some (0 : Int) else some (170 : Int)) else some (170 : Int)))
def L34_2 : Nat → Int → Int → Int → Int → (List D) → (List D) → Int → (List D) → Int → Bool → Int → Option (Int)
  | 0, _, _, _, _, _, _, _, _, _, _, _ => none
  | n + 1, z5, z6, z7, z8, l9, l10, z11, l13, z25, b84, z85 =>
    lenF l9 fun z86 => (if z85 < z86 then (if b84 = true then getF l9 z85 fun x87 => ds_i64 x87 fun z88 => (if (0 : Int) ≤ z88 then getF l9 z85 fun x89 => ds_i64 x89 fun z90 => (if z90 ≤ z25 then letF (IntKind.wrap .i64 (z85 + 1)) fun z91 => L34_2 n z5 z6 z7 z8 l9 l10 z11 l13 z25 true z91 else letF (IntKind.wrap .i64 (z85 + 1)) fun z92 => L34_2 n z5 z6 z7 z8 l9 l10 z11 l13 z25 false z92) else letF (IntKind.wrap .i64 (z85 + 1)) fun z93 => L34_2 n z5 z6 z7 z8 l9 l10 z11 l13 z25 false z93) else some (170 : Int)) else (if b84 = true then bO1 (F61 n z5 z6 z7 z8 ([] : List D) l10 z11 ByteArray.empty l13) fun b94 => (if b94 = true then some (0 : Int) else some (170 : Int)) else some (170 : Int)))
def L34_3 : Nat → Int → Int → Int → Int → (List D) → (List D) → Int → (List D) → Int → Bool → Int → Option (Int)
  | 0, _, _, _, _, _, _, _, _, _, _, _ => none
  | n + 1, z5, z6, z7, z8, l9, l10, z11, l13, z25, b95, z96 =>
    lenF l9 fun z97 => (if z96 < z97 then (if b95 = true then getF l9 z96 fun x98 => ds_i64 x98 fun z99 => (if (0 : Int) ≤ z99 then getF l9 z96 fun x100 => ds_i64 x100 fun z101 => (if z101 ≤ z25 then letF (IntKind.wrap .i64 (z96 + 1)) fun z102 => L34_3 n z5 z6 z7 z8 l9 l10 z11 l13 z25 true z102 else letF (IntKind.wrap .i64 (z96 + 1)) fun z103 => L34_3 n z5 z6 z7 z8 l9 l10 z11 l13 z25 false z103) else letF (IntKind.wrap .i64 (z96 + 1)) fun z104 => L34_3 n z5 z6 z7 z8 l9 l10 z11 l13 z25 false z104) else some (170 : Int)) else (if b95 = true then bO1 (F61 n z5 z6 z7 z8 ([] : List D) l10 z11 ByteArray.empty l13) fun b105 => (if b105 = true then some (0 : Int) else some (170 : Int)) else some (170 : Int)))
def F34 (n : Nat) (l1 : List D) (z2 : Int) (l3 : List D) (z4 : Int) (z5 : Int) (z6 : Int) (z7 : Int) (z8 : Int) (l9 : List D) (l10 : List D) (z11 : Int) (s12 : ByteArray) (l13 : List D) : Option (Int) :=
  (if z4 < (0 : Int) then some (170 : Int) else lenF l1 fun z14 => (if z14 ≤ z4 then some (170 : Int) else getF l1 z4 fun x15 => ds_t56 x15 fun s16 z17 z18 l19 => getF l1 z4 fun x20 => ds_t56 x20 fun s21 z22 z23 l24 => lenF l24 fun z25 => (if z5 = (1 : Int) then (if (0 : Int) ≤ z6 then (if z6 < z18 then bO1 (F61 n z5 (0 : Int) z7 z8 l9 l10 z11 s12 l13) fun b26 => (if b26 = true then some (0 : Int) else some (170 : Int)) else some (170 : Int)) else some (170 : Int)) else (if z5 = (2 : Int) then (if (0 : Int) ≤ z6 then (if z6 < z18 then bO1 (F61 n z5 (0 : Int) z7 z8 l9 l10 z11 s12 l13) fun b27 => (if b27 = true then some (0 : Int) else some (170 : Int)) else some (170 : Int)) else some (170 : Int)) else (if z5 = (3 : Int) then (if z6 = (1 : Int) then bO1 (F61 n z5 (0 : Int) z7 z8 l9 l10 (0 : Int) s12 l13) fun b28 => (if b28 = true then some (0 : Int) else some (170 : Int)) else (if z6 = (2 : Int) then (if z11 = (0 : Int) then bO1 (F61 n z5 (0 : Int) z7 z8 l9 l10 (0 : Int) s12 l13) fun b29 => (if b29 = true then some (0 : Int) else some (170 : Int)) else (if z11 = (1 : Int) then bO1 (F61 n z5 (0 : Int) z7 z8 l9 l10 (0 : Int) s12 l13) fun b30 => (if b30 = true then some (0 : Int) else some (170 : Int)) else (if z6 = (3 : Int) then (if z11 = (0 : Int) then bO1 (F61 n z5 (0 : Int) z7 z8 l9 l10 (0 : Int) s12 l13) fun b31 => (if b31 = true then some (0 : Int) else some (170 : Int)) else some (170 : Int)) else some (170 : Int)))) else (if z6 = (3 : Int) then (if z11 = (0 : Int) then bO1 (F61 n z5 (0 : Int) z7 z8 l9 l10 (0 : Int) s12 l13) fun b32 => (if b32 = true then some (0 : Int) else some (170 : Int)) else some (170 : Int)) else some (170 : Int)))) else (if z5 = (4 : Int) then (if (0 : Int) ≤ z6 then (if z6 < z18 then bO1 (F59 n l10) fun b33 => (if b33 = true then bO1 (F61 n z5 (0 : Int) z7 z8 l9 ([] : List D) z11 s12 l13) fun b34 => (if b34 = true then some (0 : Int) else some (170 : Int)) else some (170 : Int)) else some (170 : Int)) else some (170 : Int)) else (if z5 = (5 : Int) then (if (0 : Int) ≤ z6 then (if z6 < z18 then bO1 (F59 n l10) fun b35 => (if b35 = true then bO1 (F61 n z5 (0 : Int) z7 z8 l9 ([] : List D) z11 s12 l13) fun b36 => (if b36 = true then some (0 : Int) else some (170 : Int)) else some (170 : Int)) else some (170 : Int)) else some (170 : Int)) else (if z5 = (6 : Int) then (if (0 : Int) ≤ z6 then (if z6 < z18 then bO1 (F59 n l10) fun b37 => (if b37 = true then bO1 (F61 n z5 (0 : Int) z7 z8 l9 ([] : List D) z11 s12 l13) fun b38 => (if b38 = true then some (0 : Int) else some (170 : Int)) else some (170 : Int)) else some (170 : Int)) else some (170 : Int)) else (if z5 = (7 : Int) then (if (0 : Int) ≤ z6 then (if z6 < z18 then bO1 (F59 n l10) fun b39 => (if b39 = true then bO1 (F61 n z5 (0 : Int) z7 z8 l9 ([] : List D) z11 s12 l13) fun b40 => (if b40 = true then some (0 : Int) else some (170 : Int)) else some (170 : Int)) else some (170 : Int)) else some (170 : Int)) else (if z5 = (8 : Int) then (if (0 : Int) ≤ z6 then (if z6 < z18 then bO1 (F59 n l10) fun b41 => (if b41 = true then bO1 (F61 n z5 (0 : Int) z7 z8 l9 ([] : List D) z11 s12 l13) fun b42 => (if b42 = true then some (0 : Int) else some (170 : Int)) else some (170 : Int)) else some (170 : Int)) else some (170 : Int)) else (if z5 = (21 : Int) then (if (0 : Int) ≤ z6 then (if z6 < z18 then bO1 (F59 n l10) fun b43 => (if b43 = true then bO1 (F61 n z5 (0 : Int) z7 z8 l9 ([] : List D) z11 s12 l13) fun b44 => (if b44 = true then some (0 : Int) else some (170 : Int)) else some (170 : Int)) else some (170 : Int)) else some (170 : Int)) else (if z5 = (22 : Int) then (if (0 : Int) ≤ z6 then (if z6 < z18 then bO1 (F59 n l10) fun b45 => (if b45 = true then bO1 (F61 n z5 (0 : Int) z7 z8 l9 ([] : List D) z11 s12 l13) fun b46 => (if b46 = true then some (0 : Int) else some (170 : Int)) else some (170 : Int)) else some (170 : Int)) else some (170 : Int)) else (if z5 = (23 : Int) then (if (0 : Int) ≤ z6 then (if z6 < z18 then bO1 (F59 n l10) fun b47 => (if b47 = true then bO1 (F61 n z5 (0 : Int) z7 z8 l9 ([] : List D) z11 s12 l13) fun b48 => (if b48 = true then some (0 : Int) else some (170 : Int)) else some (170 : Int)) else some (170 : Int)) else some (170 : Int)) else (if z5 = (24 : Int) then (if (0 : Int) ≤ z6 then (if z6 < z18 then bO1 (F59 n l10) fun b49 => (if b49 = true then bO1 (F61 n z5 (0 : Int) z7 z8 l9 ([] : List D) z11 s12 l13) fun b50 => (if b50 = true then some (0 : Int) else some (170 : Int)) else some (170 : Int)) else some (170 : Int)) else some (170 : Int)) else (if z5 = (25 : Int) then (if (0 : Int) ≤ z6 then (if z6 < z18 then bO1 (F59 n l10) fun b51 => (if b51 = true then bO1 (F61 n z5 (0 : Int) z7 z8 l9 ([] : List D) z11 s12 l13) fun b52 => (if b52 = true then some (0 : Int) else some (170 : Int)) else some (170 : Int)) else some (170 : Int)) else some (170 : Int)) else (if z5 = (26 : Int) then (if (0 : Int) ≤ z6 then (if z6 < z18 then bO1 (F59 n l10) fun b53 => (if b53 = true then bO1 (F61 n z5 (0 : Int) z7 z8 l9 ([] : List D) z11 s12 l13) fun b54 => (if b54 = true then some (0 : Int) else some (170 : Int)) else some (170 : Int)) else some (170 : Int)) else some (170 : Int)) else (if z5 = (28 : Int) then (if (0 : Int) ≤ z6 then (if z6 < z18 then bO1 (F59 n l10) fun b55 => (if b55 = true then bO1 (F61 n z5 (0 : Int) z7 z8 l9 ([] : List D) z11 s12 l13) fun b56 => (if b56 = true then some (0 : Int) else some (170 : Int)) else some (170 : Int)) else some (170 : Int)) else some (170 : Int)) else (if z5 = (29 : Int) then (if (0 : Int) ≤ z6 then (if z6 < z18 then bO1 (F59 n l10) fun b57 => (if b57 = true then bO1 (F61 n z5 (0 : Int) z7 z8 l9 ([] : List D) z11 s12 l13) fun b58 => (if b58 = true then some (0 : Int) else some (170 : Int)) else some (170 : Int)) else some (170 : Int)) else some (170 : Int)) else (if z5 = (9 : Int) then (if z6 = (7 : Int) then bO1 (F61 n z5 (0 : Int) z7 z8 l9 l10 z11 s12 l13) fun b59 => (if b59 = true then some (0 : Int) else some (170 : Int)) else (if z6 = (8 : Int) then bO1 (F61 n z5 (0 : Int) z7 z8 l9 l10 z11 s12 l13) fun b60 => (if b60 = true then some (0 : Int) else some (170 : Int)) else some (170 : Int))) else (if z5 = (10 : Int) then (if (9 : Int) ≤ z6 then (if z6 ≤ (17 : Int) then bO1 (F61 n z5 (0 : Int) z7 z8 l9 l10 z11 s12 l13) fun b61 => (if b61 = true then some (0 : Int) else some (170 : Int)) else some (170 : Int)) else some (170 : Int)) else (if z5 = (11 : Int) then bO1 (F60 n s12) fun b62 => (if b62 = true then (if (0 : Int) ≤ z7 then (if z7 ≤ (6 : Int) then bO1 (F61 n z5 z6 (0 : Int) z8 l9 l10 z11 ByteArray.empty l13) fun b63 => (if b63 = true then some (0 : Int) else some (170 : Int)) else some (170 : Int)) else some (170 : Int)) else some (170 : Int)) else (if z5 = (13 : Int) then bO1 (F60 n s12) fun b64 => (if b64 = true then (if (0 : Int) ≤ z7 then (if z7 ≤ (6 : Int) then bO1 (F61 n z5 z6 (0 : Int) z8 l9 l10 z11 ByteArray.empty l13) fun b65 => (if b65 = true then some (0 : Int) else some (170 : Int)) else some (170 : Int)) else some (170 : Int)) else some (170 : Int)) else (if z5 = (12 : Int) then bO1 (F60 n s12) fun b66 => (if b66 = true then (if (0 : Int) ≤ z6 then (if z6 ≤ (5 : Int) then (if z7 = (0 : Int) then bO1 (F61 n z5 (0 : Int) (0 : Int) z8 l9 l10 z11 ByteArray.empty l13) fun b67 => (if b67 = true then some (0 : Int) else some (170 : Int)) else (if z7 = (1 : Int) then bO1 (F61 n z5 (0 : Int) (0 : Int) z8 l9 l10 z11 ByteArray.empty l13) fun b68 => (if b68 = true then some (0 : Int) else some (170 : Int)) else some (170 : Int))) else some (170 : Int)) else some (170 : Int)) else some (170 : Int)) else (if z5 = (14 : Int) then (if (0 : Int) ≤ z6 then (if z6 ≤ z25 then bO1 (F61 n z5 (0 : Int) z7 z8 l9 l10 z11 s12 l13) fun b69 => (if b69 = true then some (0 : Int) else some (170 : Int)) else some (170 : Int)) else some (170 : Int)) else (if z5 = (15 : Int) then (if (0 : Int) ≤ z6 then (if z6 ≤ z25 then bO1 (F61 n z5 (0 : Int) z7 z8 l9 l10 z11 s12 l13) fun b70 => (if b70 = true then some (0 : Int) else some (170 : Int)) else some (170 : Int)) else some (170 : Int)) else (if z5 = (16 : Int) then bO1 (F60 n s12) fun b71 => (if b71 = true then lenF l9 fun z72 => (if z72 ≤ (6 : Int) then L34_1 n z5 z6 z7 z8 l9 l10 z11 l13 z25 true (0 : Int) else L34_2 n z5 z6 z7 z8 l9 l10 z11 l13 z25 false (0 : Int)) else L34_3 n z5 z6 z7 z8 l9 l10 z11 l13 z25 false (0 : Int)) else (if z5 = (17 : Int) then (if (0 : Int) ≤ z6 then lenF l1 fun z106 => (if z6 < z106 then getF l1 z6 fun x107 => ds_t56 x107 fun s108 z109 z110 l111 => (if z7 = z109 then bO1 (F61 n z5 (0 : Int) (0 : Int) z8 l9 l10 z11 s12 l13) fun b112 => (if b112 = true then some (0 : Int) else some (170 : Int)) else some (170 : Int)) else some (170 : Int)) else some (170 : Int)) else (if z5 = (33 : Int) then (if (0 : Int) ≤ z6 then lenF l1 fun z113 => (if z6 < z113 then getF l1 z6 fun x114 => ds_t56 x114 fun s115 z116 z117 l118 => (if z7 = z116 then bO1 (F61 n z5 (0 : Int) (0 : Int) z8 l9 l10 z11 s12 l13) fun b119 => (if b119 = true then some (0 : Int) else some (170 : Int)) else some (170 : Int)) else some (170 : Int)) else some (170 : Int)) else (if z5 = (18 : Int) then bO1 (F61 n z5 z6 z7 z8 l9 l10 z11 s12 l13) fun b120 => (if b120 = true then some (0 : Int) else some (170 : Int)) else (if z5 = (31 : Int) then bO1 (F61 n z5 z6 z7 z8 l9 l10 z11 s12 l13) fun b121 => (if b121 = true then some (0 : Int) else some (170 : Int)) else (if z5 = (32 : Int) then bO1 (F61 n z5 z6 z7 z8 l9 l10 z11 s12 l13) fun b122 => (if b122 = true then some (0 : Int) else some (170 : Int)) else (if z5 = (34 : Int) then bO1 (F61 n z5 z6 z7 z8 l9 l10 z11 s12 l13) fun b123 => (if b123 = true then some (0 : Int) else some (170 : Int)) else (if z5 = (19 : Int) then (if (6 : Int) ≤ z6 then (if z6 ≤ (11 : Int) then bO1 (F61 n z5 (0 : Int) z7 z8 l9 l10 z11 s12 l13) fun b124 => (if b124 = true then some (0 : Int) else some (170 : Int)) else some (170 : Int)) else some (170 : Int)) else (if z5 = (20 : Int) then (if z6 = (6 : Int) then bO1 (F61 n z5 (0 : Int) z7 z8 l9 l10 z11 s12 l13) fun b125 => (if b125 = true then some (0 : Int) else some (170 : Int)) else (if z6 = (10 : Int) then bO1 (F61 n z5 (0 : Int) z7 z8 l9 l10 z11 s12 l13) fun b126 => (if b126 = true then some (0 : Int) else some (170 : Int)) else some (170 : Int))) else (if z5 = (27 : Int) then (if (1 : Int) ≤ z11 then (if z11 ≤ (8 : Int) then bO1 (F61 n z5 z6 z7 z8 l9 l10 (0 : Int) s12 l13) fun b127 => (if b127 = true then some (0 : Int) else some (170 : Int)) else some (170 : Int)) else some (170 : Int)) else (if z5 = (30 : Int) then (if (0 : Int) ≤ z6 then (if z6 < z18 then (if (0 : Int) ≤ z7 then (if z7 < z18 then bO1 (F59 n l10) fun b128 => (if b128 = true then bO1 (F61 n z5 (0 : Int) (0 : Int) z8 l9 ([] : List D) z11 s12 l13) fun b129 => (if b129 = true then some (0 : Int) else some (170 : Int)) else some (170 : Int)) else some (170 : Int)) else some (170 : Int)) else some (170 : Int)) else some (170 : Int)) else some (170 : Int)))))))))))))))))))))))))))))))))))))
set_option maxRecDepth 100000 in
set_option maxHeartbeats 40000000 in
theorem T34 (n : Nat) : ∀ ⦃l1 : List D⦄ ⦃z2 : Int⦄ ⦃l3 : List D⦄ ⦃z4 : Int⦄ ⦃z5 : Int⦄ ⦃z6 : Int⦄ ⦃z7 : Int⦄ ⦃z8 : Int⦄ ⦃l9 : List D⦄ ⦃l10 : List D⦄ ⦃z11 : Int⦄ ⦃s12 : ByteArray⦄ ⦃l13 : List D⦄ ⦃r1 : Int⦄, F34 n l1 z2 l3 z4 z5 z6 z7 z8 l9 l10 z11 s12 l13 = some r1 →
    Trip Tryd.prog inv 34 [.d (.agg [.list true 4 l1, .int .i64 z2, .list true 16 l3]), .d (.int .i64 z4), .d (.agg [.int .u8 z5, .int .i64 z6, .int .i64 z7, .int .i64 z8, .list false 1 l9, .list false 1 l10, .int .i64 z11, .str s12, .list false 1 l13])] [] (.v (.d (.int .i64 r1))) [] [] := by
  intro l1 z2 l3 z4 z5 z6 z7 z8 l9 l10 z11 s12 l13 r1 h
  unfold F34 at h
  refine Trip.of tab_ok tab_one fol Tryd.func34 rfl (by kernel_rfl) rfl rfl rfl (fun M hM hI => ?_)
  try cbv
  refine splitL (fun e => ?_) (fun e => ?_)
  · replace h := ite_t e h
    clear e
    try cbv
    obtain rfl := Option.some.inj h
    refine fin_go ?_
    try cbv
    exact ⟨[], rfl, rfl, trivial, trivial, trivial⟩
  · replace h := ite_f (Int.not_lt.2 e) h
    clear e
    try cbv
    replace h := lenF_inv M h
    obtain ⟨z14, hz, h⟩ := h
    refine ⟨z14, hz, ?_⟩
    clear hz
    try cbv
    refine splitLe (fun e => ?_) (fun e => ?_)
    · replace h := ite_t e h
      clear e
      try cbv
      obtain rfl := Option.some.inj h
      refine fin_go ?_
      try cbv
      exact ⟨[], rfl, rfl, trivial, trivial, trivial⟩
    · replace h := ite_f (Int.not_le.2 e) h
      clear e
      try cbv
      replace h := getF_inv h
      obtain ⟨x15, ⟨hx0, hx⟩, h⟩ := h
      refine ⟨x15, hx0, hx, ?_⟩
      clear hx0 hx
      replace h := ds_t56_inv h
      obtain ⟨s16, z17, z18, l19, rfl, h⟩ := h
      try cbv
      replace h := getF_inv h
      obtain ⟨x20, ⟨hx0, hx⟩, h⟩ := h
      refine ⟨x20, hx0, hx, ?_⟩
      clear hx0 hx
      replace h := ds_t56_inv h
      obtain ⟨s21, z22, z23, l24, rfl, h⟩ := h
      try cbv
      replace h := lenF_inv M h
      obtain ⟨z25, hz, h⟩ := h
      refine ⟨z25, hz, ?_⟩
      clear hz
      try cbv
      refine drawn ?_ ?_
      · show _ = true
        kernel_rfl
      try cbv
      refine splitI (fun e => ?_) (fun e => ?_)
      · replace h := ite_t e h
        clear e
        try cbv
        refine splitLe (fun e => ?_) (fun e => ?_)
        · replace h := ite_t e h
          clear e
          try cbv
          refine splitL (fun e => ?_) (fun e => ?_)
          · replace h := ite_t e h
            clear e
            try cbv
            replace h := bO1_inv h
            obtain ⟨b26, hr, h⟩ := h
            refine call_go rfl rfl ?_
            try cbv
            refine call_pure hM hI (T61 _ hr) rfl ?_
            clear hr
            try cbv
            cases b26
            · replace h := ite_f Bool.false_ne_true h
              try cbv
              obtain rfl := Option.some.inj h
              refine fin_go ?_
              try cbv
              exact ⟨[], rfl, rfl, trivial, trivial, trivial⟩
            · replace h := ite_t rfl h
              try cbv
              obtain rfl := Option.some.inj h
              refine fin_go ?_
              try cbv
              exact ⟨[], rfl, rfl, trivial, trivial, trivial⟩
          · replace h := ite_f (Int.not_lt.2 e) h
            clear e
            try cbv
            obtain rfl := Option.some.inj h
            refine fin_go ?_
            try cbv
            exact ⟨[], rfl, rfl, trivial, trivial, trivial⟩
        · replace h := ite_f (Int.not_le.2 e) h
          clear e
          try cbv
          obtain rfl := Option.some.inj h
          refine fin_go ?_
          try cbv
          exact ⟨[], rfl, rfl, trivial, trivial, trivial⟩
      · replace h := ite_f e h
        clear e
        try cbv
        refine splitI (fun e => ?_) (fun e => ?_)
        · replace h := ite_t e h
          clear e
          try cbv
          refine splitLe (fun e => ?_) (fun e => ?_)
          · replace h := ite_t e h
            clear e
            try cbv
            refine splitL (fun e => ?_) (fun e => ?_)
            · replace h := ite_t e h
              clear e
              try cbv
              replace h := bO1_inv h
              obtain ⟨b27, hr, h⟩ := h
              refine call_go rfl rfl ?_
              try cbv
              refine call_pure hM hI (T61 _ hr) rfl ?_
              clear hr
              try cbv
              cases b27
              · replace h := ite_f Bool.false_ne_true h
                try cbv
                obtain rfl := Option.some.inj h
                refine fin_go ?_
                try cbv
                exact ⟨[], rfl, rfl, trivial, trivial, trivial⟩
              · replace h := ite_t rfl h
                try cbv
                obtain rfl := Option.some.inj h
                refine fin_go ?_
                try cbv
                exact ⟨[], rfl, rfl, trivial, trivial, trivial⟩
            · replace h := ite_f (Int.not_lt.2 e) h
              clear e
              try cbv
              obtain rfl := Option.some.inj h
              refine fin_go ?_
              try cbv
              exact ⟨[], rfl, rfl, trivial, trivial, trivial⟩
          · replace h := ite_f (Int.not_le.2 e) h
            clear e
            try cbv
            obtain rfl := Option.some.inj h
            refine fin_go ?_
            try cbv
            exact ⟨[], rfl, rfl, trivial, trivial, trivial⟩
        · replace h := ite_f e h
          clear e
          try cbv
          refine splitI (fun e => ?_) (fun e => ?_)
          · replace h := ite_t e h
            clear e
            try cbv
            refine splitI (fun e => ?_) (fun e => ?_)
            · replace h := ite_t e h
              clear e
              try cbv
              replace h := bO1_inv h
              obtain ⟨b28, hr, h⟩ := h
              refine call_go rfl rfl ?_
              try cbv
              refine call_pure hM hI (T61 _ hr) rfl ?_
              clear hr
              try cbv
              cases b28
              · replace h := ite_f Bool.false_ne_true h
                try cbv
                obtain rfl := Option.some.inj h
                refine fin_go ?_
                try cbv
                exact ⟨[], rfl, rfl, trivial, trivial, trivial⟩
              · replace h := ite_t rfl h
                try cbv
                obtain rfl := Option.some.inj h
                refine fin_go ?_
                try cbv
                exact ⟨[], rfl, rfl, trivial, trivial, trivial⟩
            · replace h := ite_f e h
              clear e
              try cbv
              refine splitI (fun e => ?_) (fun e => ?_)
              · replace h := ite_t e h
                clear e
                try cbv
                refine splitI (fun e => ?_) (fun e => ?_)
                · replace h := ite_t e h
                  clear e
                  try cbv
                  replace h := bO1_inv h
                  obtain ⟨b29, hr, h⟩ := h
                  refine call_go rfl rfl ?_
                  try cbv
                  refine call_pure hM hI (T61 _ hr) rfl ?_
                  clear hr
                  try cbv
                  cases b29
                  · replace h := ite_f Bool.false_ne_true h
                    try cbv
                    obtain rfl := Option.some.inj h
                    refine fin_go ?_
                    try cbv
                    exact ⟨[], rfl, rfl, trivial, trivial, trivial⟩
                  · replace h := ite_t rfl h
                    try cbv
                    obtain rfl := Option.some.inj h
                    refine fin_go ?_
                    try cbv
                    exact ⟨[], rfl, rfl, trivial, trivial, trivial⟩
                · replace h := ite_f e h
                  clear e
                  try cbv
                  refine splitI (fun e => ?_) (fun e => ?_)
                  · replace h := ite_t e h
                    clear e
                    try cbv
                    replace h := bO1_inv h
                    obtain ⟨b30, hr, h⟩ := h
                    refine call_go rfl rfl ?_
                    try cbv
                    refine call_pure hM hI (T61 _ hr) rfl ?_
                    clear hr
                    try cbv
                    cases b30
                    · replace h := ite_f Bool.false_ne_true h
                      try cbv
                      obtain rfl := Option.some.inj h
                      refine fin_go ?_
                      try cbv
                      exact ⟨[], rfl, rfl, trivial, trivial, trivial⟩
                    · replace h := ite_t rfl h
                      try cbv
                      obtain rfl := Option.some.inj h
                      refine fin_go ?_
                      try cbv
                      exact ⟨[], rfl, rfl, trivial, trivial, trivial⟩
                  · replace h := ite_f e h
                    clear e
                    try cbv
                    refine splitI (fun e => ?_) (fun e => ?_)
                    · replace h := ite_t e h
                      clear e
                      try cbv
                      refine splitI (fun e => ?_) (fun e => ?_)
                      · replace h := ite_t e h
                        clear e
                        try cbv
                        replace h := bO1_inv h
                        obtain ⟨b31, hr, h⟩ := h
                        refine call_go rfl rfl ?_
                        try cbv
                        refine call_pure hM hI (T61 _ hr) rfl ?_
                        clear hr
                        try cbv
                        cases b31
                        · replace h := ite_f Bool.false_ne_true h
                          try cbv
                          obtain rfl := Option.some.inj h
                          refine fin_go ?_
                          try cbv
                          exact ⟨[], rfl, rfl, trivial, trivial, trivial⟩
                        · replace h := ite_t rfl h
                          try cbv
                          obtain rfl := Option.some.inj h
                          refine fin_go ?_
                          try cbv
                          exact ⟨[], rfl, rfl, trivial, trivial, trivial⟩
                      · replace h := ite_f e h
                        clear e
                        try cbv
                        obtain rfl := Option.some.inj h
                        refine fin_go ?_
                        try cbv
                        exact ⟨[], rfl, rfl, trivial, trivial, trivial⟩
                    · replace h := ite_f e h
                      clear e
                      try cbv
                      obtain rfl := Option.some.inj h
                      refine fin_go ?_
                      try cbv
                      exact ⟨[], rfl, rfl, trivial, trivial, trivial⟩
              · replace h := ite_f e h
                clear e
                try cbv
                refine splitI (fun e => ?_) (fun e => ?_)
                · replace h := ite_t e h
                  clear e
                  try cbv
                  refine splitI (fun e => ?_) (fun e => ?_)
                  · replace h := ite_t e h
                    clear e
                    try cbv
                    replace h := bO1_inv h
                    obtain ⟨b32, hr, h⟩ := h
                    refine call_go rfl rfl ?_
                    try cbv
                    refine call_pure hM hI (T61 _ hr) rfl ?_
                    clear hr
                    try cbv
                    cases b32
                    · replace h := ite_f Bool.false_ne_true h
                      try cbv
                      obtain rfl := Option.some.inj h
                      refine fin_go ?_
                      try cbv
                      exact ⟨[], rfl, rfl, trivial, trivial, trivial⟩
                    · replace h := ite_t rfl h
                      try cbv
                      obtain rfl := Option.some.inj h
                      refine fin_go ?_
                      try cbv
                      exact ⟨[], rfl, rfl, trivial, trivial, trivial⟩
                  · replace h := ite_f e h
                    clear e
                    try cbv
                    obtain rfl := Option.some.inj h
                    refine fin_go ?_
                    try cbv
                    exact ⟨[], rfl, rfl, trivial, trivial, trivial⟩
                · replace h := ite_f e h
                  clear e
                  try cbv
                  obtain rfl := Option.some.inj h
                  refine fin_go ?_
                  try cbv
                  exact ⟨[], rfl, rfl, trivial, trivial, trivial⟩
          · replace h := ite_f e h
            clear e
            try cbv
            refine splitI (fun e => ?_) (fun e => ?_)
            · replace h := ite_t e h
              clear e
              try cbv
              refine splitLe (fun e => ?_) (fun e => ?_)
              · replace h := ite_t e h
                clear e
                try cbv
                refine splitL (fun e => ?_) (fun e => ?_)
                · replace h := ite_t e h
                  clear e
                  try cbv
                  replace h := bO1_inv h
                  obtain ⟨b33, hr, h⟩ := h
                  refine call_go rfl rfl ?_
                  try cbv
                  refine call_pure hM hI (T59 _ hr) rfl ?_
                  clear hr
                  try cbv
                  cases b33
                  · replace h := ite_f Bool.false_ne_true h
                    try cbv
                    obtain rfl := Option.some.inj h
                    refine fin_go ?_
                    try cbv
                    exact ⟨[], rfl, rfl, trivial, trivial, trivial⟩
                  · replace h := ite_t rfl h
                    try cbv
                    replace h := bO1_inv h
                    obtain ⟨b34, hr, h⟩ := h
                    refine call_go rfl rfl ?_
                    try cbv
                    refine call_pure hM hI (T61 _ hr) rfl ?_
                    clear hr
                    try cbv
                    cases b34
                    · replace h := ite_f Bool.false_ne_true h
                      try cbv
                      obtain rfl := Option.some.inj h
                      refine fin_go ?_
                      try cbv
                      exact ⟨[], rfl, rfl, trivial, trivial, trivial⟩
                    · replace h := ite_t rfl h
                      try cbv
                      obtain rfl := Option.some.inj h
                      refine fin_go ?_
                      try cbv
                      exact ⟨[], rfl, rfl, trivial, trivial, trivial⟩
                · replace h := ite_f (Int.not_lt.2 e) h
                  clear e
                  try cbv
                  obtain rfl := Option.some.inj h
                  refine fin_go ?_
                  try cbv
                  exact ⟨[], rfl, rfl, trivial, trivial, trivial⟩
              · replace h := ite_f (Int.not_le.2 e) h
                clear e
                try cbv
                obtain rfl := Option.some.inj h
                refine fin_go ?_
                try cbv
                exact ⟨[], rfl, rfl, trivial, trivial, trivial⟩
            · replace h := ite_f e h
              clear e
              try cbv
              refine splitI (fun e => ?_) (fun e => ?_)
              · replace h := ite_t e h
                clear e
                try cbv
                refine splitLe (fun e => ?_) (fun e => ?_)
                · replace h := ite_t e h
                  clear e
                  try cbv
                  refine splitL (fun e => ?_) (fun e => ?_)
                  · replace h := ite_t e h
                    clear e
                    try cbv
                    replace h := bO1_inv h
                    obtain ⟨b35, hr, h⟩ := h
                    refine call_go rfl rfl ?_
                    try cbv
                    refine call_pure hM hI (T59 _ hr) rfl ?_
                    clear hr
                    try cbv
                    cases b35
                    · replace h := ite_f Bool.false_ne_true h
                      try cbv
                      obtain rfl := Option.some.inj h
                      refine fin_go ?_
                      try cbv
                      exact ⟨[], rfl, rfl, trivial, trivial, trivial⟩
                    · replace h := ite_t rfl h
                      try cbv
                      replace h := bO1_inv h
                      obtain ⟨b36, hr, h⟩ := h
                      refine call_go rfl rfl ?_
                      try cbv
                      refine call_pure hM hI (T61 _ hr) rfl ?_
                      clear hr
                      try cbv
                      cases b36
                      · replace h := ite_f Bool.false_ne_true h
                        try cbv
                        obtain rfl := Option.some.inj h
                        refine fin_go ?_
                        try cbv
                        exact ⟨[], rfl, rfl, trivial, trivial, trivial⟩
                      · replace h := ite_t rfl h
                        try cbv
                        obtain rfl := Option.some.inj h
                        refine fin_go ?_
                        try cbv
                        exact ⟨[], rfl, rfl, trivial, trivial, trivial⟩
                  · replace h := ite_f (Int.not_lt.2 e) h
                    clear e
                    try cbv
                    obtain rfl := Option.some.inj h
                    refine fin_go ?_
                    try cbv
                    exact ⟨[], rfl, rfl, trivial, trivial, trivial⟩
                · replace h := ite_f (Int.not_le.2 e) h
                  clear e
                  try cbv
                  obtain rfl := Option.some.inj h
                  refine fin_go ?_
                  try cbv
                  exact ⟨[], rfl, rfl, trivial, trivial, trivial⟩
              · replace h := ite_f e h
                clear e
                try cbv
                refine splitI (fun e => ?_) (fun e => ?_)
                · replace h := ite_t e h
                  clear e
                  try cbv
                  refine splitLe (fun e => ?_) (fun e => ?_)
                  · replace h := ite_t e h
                    clear e
                    try cbv
                    refine splitL (fun e => ?_) (fun e => ?_)
                    · replace h := ite_t e h
                      clear e
                      try cbv
                      replace h := bO1_inv h
                      obtain ⟨b37, hr, h⟩ := h
                      refine call_go rfl rfl ?_
                      try cbv
                      refine call_pure hM hI (T59 _ hr) rfl ?_
                      clear hr
                      try cbv
                      cases b37
                      · replace h := ite_f Bool.false_ne_true h
                        try cbv
                        obtain rfl := Option.some.inj h
                        refine fin_go ?_
                        try cbv
                        exact ⟨[], rfl, rfl, trivial, trivial, trivial⟩
                      · replace h := ite_t rfl h
                        try cbv
                        replace h := bO1_inv h
                        obtain ⟨b38, hr, h⟩ := h
                        refine call_go rfl rfl ?_
                        try cbv
                        refine call_pure hM hI (T61 _ hr) rfl ?_
                        clear hr
                        try cbv
                        cases b38
                        · replace h := ite_f Bool.false_ne_true h
                          try cbv
                          obtain rfl := Option.some.inj h
                          refine fin_go ?_
                          try cbv
                          exact ⟨[], rfl, rfl, trivial, trivial, trivial⟩
                        · replace h := ite_t rfl h
                          try cbv
                          obtain rfl := Option.some.inj h
                          refine fin_go ?_
                          try cbv
                          exact ⟨[], rfl, rfl, trivial, trivial, trivial⟩
                    · replace h := ite_f (Int.not_lt.2 e) h
                      clear e
                      try cbv
                      obtain rfl := Option.some.inj h
                      refine fin_go ?_
                      try cbv
                      exact ⟨[], rfl, rfl, trivial, trivial, trivial⟩
                  · replace h := ite_f (Int.not_le.2 e) h
                    clear e
                    try cbv
                    obtain rfl := Option.some.inj h
                    refine fin_go ?_
                    try cbv
                    exact ⟨[], rfl, rfl, trivial, trivial, trivial⟩
                · replace h := ite_f e h
                  clear e
                  try cbv
                  refine splitI (fun e => ?_) (fun e => ?_)
                  · replace h := ite_t e h
                    clear e
                    try cbv
                    refine splitLe (fun e => ?_) (fun e => ?_)
                    · replace h := ite_t e h
                      clear e
                      try cbv
                      refine splitL (fun e => ?_) (fun e => ?_)
                      · replace h := ite_t e h
                        clear e
                        try cbv
                        replace h := bO1_inv h
                        obtain ⟨b39, hr, h⟩ := h
                        refine call_go rfl rfl ?_
                        try cbv
                        refine call_pure hM hI (T59 _ hr) rfl ?_
                        clear hr
                        try cbv
                        cases b39
                        · replace h := ite_f Bool.false_ne_true h
                          try cbv
                          obtain rfl := Option.some.inj h
                          refine fin_go ?_
                          try cbv
                          exact ⟨[], rfl, rfl, trivial, trivial, trivial⟩
                        · replace h := ite_t rfl h
                          try cbv
                          replace h := bO1_inv h
                          obtain ⟨b40, hr, h⟩ := h
                          refine call_go rfl rfl ?_
                          try cbv
                          refine call_pure hM hI (T61 _ hr) rfl ?_
                          clear hr
                          try cbv
                          cases b40
                          · replace h := ite_f Bool.false_ne_true h
                            try cbv
                            obtain rfl := Option.some.inj h
                            refine fin_go ?_
                            try cbv
                            exact ⟨[], rfl, rfl, trivial, trivial, trivial⟩
                          · replace h := ite_t rfl h
                            try cbv
                            obtain rfl := Option.some.inj h
                            refine fin_go ?_
                            try cbv
                            exact ⟨[], rfl, rfl, trivial, trivial, trivial⟩
                      · replace h := ite_f (Int.not_lt.2 e) h
                        clear e
                        try cbv
                        obtain rfl := Option.some.inj h
                        refine fin_go ?_
                        try cbv
                        exact ⟨[], rfl, rfl, trivial, trivial, trivial⟩
                    · replace h := ite_f (Int.not_le.2 e) h
                      clear e
                      try cbv
                      obtain rfl := Option.some.inj h
                      refine fin_go ?_
                      try cbv
                      exact ⟨[], rfl, rfl, trivial, trivial, trivial⟩
                  · replace h := ite_f e h
                    clear e
                    try cbv
                    refine splitI (fun e => ?_) (fun e => ?_)
                    · replace h := ite_t e h
                      clear e
                      try cbv
                      refine splitLe (fun e => ?_) (fun e => ?_)
                      · replace h := ite_t e h
                        clear e
                        try cbv
                        refine splitL (fun e => ?_) (fun e => ?_)
                        · replace h := ite_t e h
                          clear e
                          try cbv
                          replace h := bO1_inv h
                          obtain ⟨b41, hr, h⟩ := h
                          refine call_go rfl rfl ?_
                          try cbv
                          refine call_pure hM hI (T59 _ hr) rfl ?_
                          clear hr
                          try cbv
                          cases b41
                          · replace h := ite_f Bool.false_ne_true h
                            try cbv
                            obtain rfl := Option.some.inj h
                            refine fin_go ?_
                            try cbv
                            exact ⟨[], rfl, rfl, trivial, trivial, trivial⟩
                          · replace h := ite_t rfl h
                            try cbv
                            replace h := bO1_inv h
                            obtain ⟨b42, hr, h⟩ := h
                            refine call_go rfl rfl ?_
                            try cbv
                            refine call_pure hM hI (T61 _ hr) rfl ?_
                            clear hr
                            try cbv
                            cases b42
                            · replace h := ite_f Bool.false_ne_true h
                              try cbv
                              obtain rfl := Option.some.inj h
                              refine fin_go ?_
                              try cbv
                              exact ⟨[], rfl, rfl, trivial, trivial, trivial⟩
                            · replace h := ite_t rfl h
                              try cbv
                              obtain rfl := Option.some.inj h
                              refine fin_go ?_
                              try cbv
                              exact ⟨[], rfl, rfl, trivial, trivial, trivial⟩
                        · replace h := ite_f (Int.not_lt.2 e) h
                          clear e
                          try cbv
                          obtain rfl := Option.some.inj h
                          refine fin_go ?_
                          try cbv
                          exact ⟨[], rfl, rfl, trivial, trivial, trivial⟩
                      · replace h := ite_f (Int.not_le.2 e) h
                        clear e
                        try cbv
                        obtain rfl := Option.some.inj h
                        refine fin_go ?_
                        try cbv
                        exact ⟨[], rfl, rfl, trivial, trivial, trivial⟩
                    · replace h := ite_f e h
                      clear e
                      try cbv
                      refine splitI (fun e => ?_) (fun e => ?_)
                      · replace h := ite_t e h
                        clear e
                        try cbv
                        refine splitLe (fun e => ?_) (fun e => ?_)
                        · replace h := ite_t e h
                          clear e
                          try cbv
                          refine splitL (fun e => ?_) (fun e => ?_)
                          · replace h := ite_t e h
                            clear e
                            try cbv
                            replace h := bO1_inv h
                            obtain ⟨b43, hr, h⟩ := h
                            refine call_go rfl rfl ?_
                            try cbv
                            refine call_pure hM hI (T59 _ hr) rfl ?_
                            clear hr
                            try cbv
                            cases b43
                            · replace h := ite_f Bool.false_ne_true h
                              try cbv
                              obtain rfl := Option.some.inj h
                              refine fin_go ?_
                              try cbv
                              exact ⟨[], rfl, rfl, trivial, trivial, trivial⟩
                            · replace h := ite_t rfl h
                              try cbv
                              replace h := bO1_inv h
                              obtain ⟨b44, hr, h⟩ := h
                              refine call_go rfl rfl ?_
                              try cbv
                              refine call_pure hM hI (T61 _ hr) rfl ?_
                              clear hr
                              try cbv
                              cases b44
                              · replace h := ite_f Bool.false_ne_true h
                                try cbv
                                obtain rfl := Option.some.inj h
                                refine fin_go ?_
                                try cbv
                                exact ⟨[], rfl, rfl, trivial, trivial, trivial⟩
                              · replace h := ite_t rfl h
                                try cbv
                                obtain rfl := Option.some.inj h
                                refine fin_go ?_
                                try cbv
                                exact ⟨[], rfl, rfl, trivial, trivial, trivial⟩
                          · replace h := ite_f (Int.not_lt.2 e) h
                            clear e
                            try cbv
                            obtain rfl := Option.some.inj h
                            refine fin_go ?_
                            try cbv
                            exact ⟨[], rfl, rfl, trivial, trivial, trivial⟩
                        · replace h := ite_f (Int.not_le.2 e) h
                          clear e
                          try cbv
                          obtain rfl := Option.some.inj h
                          refine fin_go ?_
                          try cbv
                          exact ⟨[], rfl, rfl, trivial, trivial, trivial⟩
                      · replace h := ite_f e h
                        clear e
                        try cbv
                        refine splitI (fun e => ?_) (fun e => ?_)
                        · replace h := ite_t e h
                          clear e
                          try cbv
                          refine splitLe (fun e => ?_) (fun e => ?_)
                          · replace h := ite_t e h
                            clear e
                            try cbv
                            refine splitL (fun e => ?_) (fun e => ?_)
                            · replace h := ite_t e h
                              clear e
                              try cbv
                              replace h := bO1_inv h
                              obtain ⟨b45, hr, h⟩ := h
                              refine call_go rfl rfl ?_
                              try cbv
                              refine call_pure hM hI (T59 _ hr) rfl ?_
                              clear hr
                              try cbv
                              cases b45
                              · replace h := ite_f Bool.false_ne_true h
                                try cbv
                                obtain rfl := Option.some.inj h
                                refine fin_go ?_
                                try cbv
                                exact ⟨[], rfl, rfl, trivial, trivial, trivial⟩
                              · replace h := ite_t rfl h
                                try cbv
                                replace h := bO1_inv h
                                obtain ⟨b46, hr, h⟩ := h
                                refine call_go rfl rfl ?_
                                try cbv
                                refine call_pure hM hI (T61 _ hr) rfl ?_
                                clear hr
                                try cbv
                                cases b46
                                · replace h := ite_f Bool.false_ne_true h
                                  try cbv
                                  obtain rfl := Option.some.inj h
                                  refine fin_go ?_
                                  try cbv
                                  exact ⟨[], rfl, rfl, trivial, trivial, trivial⟩
                                · replace h := ite_t rfl h
                                  try cbv
                                  obtain rfl := Option.some.inj h
                                  refine fin_go ?_
                                  try cbv
                                  exact ⟨[], rfl, rfl, trivial, trivial, trivial⟩
                            · replace h := ite_f (Int.not_lt.2 e) h
                              clear e
                              try cbv
                              obtain rfl := Option.some.inj h
                              refine fin_go ?_
                              try cbv
                              exact ⟨[], rfl, rfl, trivial, trivial, trivial⟩
                          · replace h := ite_f (Int.not_le.2 e) h
                            clear e
                            try cbv
                            obtain rfl := Option.some.inj h
                            refine fin_go ?_
                            try cbv
                            exact ⟨[], rfl, rfl, trivial, trivial, trivial⟩
                        · replace h := ite_f e h
                          clear e
                          try cbv
                          refine splitI (fun e => ?_) (fun e => ?_)
                          · replace h := ite_t e h
                            clear e
                            try cbv
                            refine splitLe (fun e => ?_) (fun e => ?_)
                            · replace h := ite_t e h
                              clear e
                              try cbv
                              refine splitL (fun e => ?_) (fun e => ?_)
                              · replace h := ite_t e h
                                clear e
                                try cbv
                                replace h := bO1_inv h
                                obtain ⟨b47, hr, h⟩ := h
                                refine call_go rfl rfl ?_
                                try cbv
                                refine call_pure hM hI (T59 _ hr) rfl ?_
                                clear hr
                                try cbv
                                cases b47
                                · replace h := ite_f Bool.false_ne_true h
                                  try cbv
                                  obtain rfl := Option.some.inj h
                                  refine fin_go ?_
                                  try cbv
                                  exact ⟨[], rfl, rfl, trivial, trivial, trivial⟩
                                · replace h := ite_t rfl h
                                  try cbv
                                  replace h := bO1_inv h
                                  obtain ⟨b48, hr, h⟩ := h
                                  refine call_go rfl rfl ?_
                                  try cbv
                                  refine call_pure hM hI (T61 _ hr) rfl ?_
                                  clear hr
                                  try cbv
                                  cases b48
                                  · replace h := ite_f Bool.false_ne_true h
                                    try cbv
                                    obtain rfl := Option.some.inj h
                                    refine fin_go ?_
                                    try cbv
                                    exact ⟨[], rfl, rfl, trivial, trivial, trivial⟩
                                  · replace h := ite_t rfl h
                                    try cbv
                                    obtain rfl := Option.some.inj h
                                    refine fin_go ?_
                                    try cbv
                                    exact ⟨[], rfl, rfl, trivial, trivial, trivial⟩
                              · replace h := ite_f (Int.not_lt.2 e) h
                                clear e
                                try cbv
                                obtain rfl := Option.some.inj h
                                refine fin_go ?_
                                try cbv
                                exact ⟨[], rfl, rfl, trivial, trivial, trivial⟩
                            · replace h := ite_f (Int.not_le.2 e) h
                              clear e
                              try cbv
                              obtain rfl := Option.some.inj h
                              refine fin_go ?_
                              try cbv
                              exact ⟨[], rfl, rfl, trivial, trivial, trivial⟩
                          · replace h := ite_f e h
                            clear e
                            try cbv
                            refine splitI (fun e => ?_) (fun e => ?_)
                            · replace h := ite_t e h
                              clear e
                              try cbv
                              refine splitLe (fun e => ?_) (fun e => ?_)
                              · replace h := ite_t e h
                                clear e
                                try cbv
                                refine splitL (fun e => ?_) (fun e => ?_)
                                · replace h := ite_t e h
                                  clear e
                                  try cbv
                                  replace h := bO1_inv h
                                  obtain ⟨b49, hr, h⟩ := h
                                  refine call_go rfl rfl ?_
                                  try cbv
                                  refine call_pure hM hI (T59 _ hr) rfl ?_
                                  clear hr
                                  try cbv
                                  cases b49
                                  · replace h := ite_f Bool.false_ne_true h
                                    try cbv
                                    obtain rfl := Option.some.inj h
                                    refine fin_go ?_
                                    try cbv
                                    exact ⟨[], rfl, rfl, trivial, trivial, trivial⟩
                                  · replace h := ite_t rfl h
                                    try cbv
                                    replace h := bO1_inv h
                                    obtain ⟨b50, hr, h⟩ := h
                                    refine call_go rfl rfl ?_
                                    try cbv
                                    refine call_pure hM hI (T61 _ hr) rfl ?_
                                    clear hr
                                    try cbv
                                    cases b50
                                    · replace h := ite_f Bool.false_ne_true h
                                      try cbv
                                      obtain rfl := Option.some.inj h
                                      refine fin_go ?_
                                      try cbv
                                      exact ⟨[], rfl, rfl, trivial, trivial, trivial⟩
                                    · replace h := ite_t rfl h
                                      try cbv
                                      obtain rfl := Option.some.inj h
                                      refine fin_go ?_
                                      try cbv
                                      exact ⟨[], rfl, rfl, trivial, trivial, trivial⟩
                                · replace h := ite_f (Int.not_lt.2 e) h
                                  clear e
                                  try cbv
                                  obtain rfl := Option.some.inj h
                                  refine fin_go ?_
                                  try cbv
                                  exact ⟨[], rfl, rfl, trivial, trivial, trivial⟩
                              · replace h := ite_f (Int.not_le.2 e) h
                                clear e
                                try cbv
                                obtain rfl := Option.some.inj h
                                refine fin_go ?_
                                try cbv
                                exact ⟨[], rfl, rfl, trivial, trivial, trivial⟩
                            · replace h := ite_f e h
                              clear e
                              try cbv
                              refine splitI (fun e => ?_) (fun e => ?_)
                              · replace h := ite_t e h
                                clear e
                                try cbv
                                refine splitLe (fun e => ?_) (fun e => ?_)
                                · replace h := ite_t e h
                                  clear e
                                  try cbv
                                  refine splitL (fun e => ?_) (fun e => ?_)
                                  · replace h := ite_t e h
                                    clear e
                                    try cbv
                                    replace h := bO1_inv h
                                    obtain ⟨b51, hr, h⟩ := h
                                    refine call_go rfl rfl ?_
                                    try cbv
                                    refine call_pure hM hI (T59 _ hr) rfl ?_
                                    clear hr
                                    try cbv
                                    cases b51
                                    · replace h := ite_f Bool.false_ne_true h
                                      try cbv
                                      obtain rfl := Option.some.inj h
                                      refine fin_go ?_
                                      try cbv
                                      exact ⟨[], rfl, rfl, trivial, trivial, trivial⟩
                                    · replace h := ite_t rfl h
                                      try cbv
                                      replace h := bO1_inv h
                                      obtain ⟨b52, hr, h⟩ := h
                                      refine call_go rfl rfl ?_
                                      try cbv
                                      refine call_pure hM hI (T61 _ hr) rfl ?_
                                      clear hr
                                      try cbv
                                      cases b52
                                      · replace h := ite_f Bool.false_ne_true h
                                        try cbv
                                        obtain rfl := Option.some.inj h
                                        refine fin_go ?_
                                        try cbv
                                        exact ⟨[], rfl, rfl, trivial, trivial, trivial⟩
                                      · replace h := ite_t rfl h
                                        try cbv
                                        obtain rfl := Option.some.inj h
                                        refine fin_go ?_
                                        try cbv
                                        exact ⟨[], rfl, rfl, trivial, trivial, trivial⟩
                                  · replace h := ite_f (Int.not_lt.2 e) h
                                    clear e
                                    try cbv
                                    obtain rfl := Option.some.inj h
                                    refine fin_go ?_
                                    try cbv
                                    exact ⟨[], rfl, rfl, trivial, trivial, trivial⟩
                                · replace h := ite_f (Int.not_le.2 e) h
                                  clear e
                                  try cbv
                                  obtain rfl := Option.some.inj h
                                  refine fin_go ?_
                                  try cbv
                                  exact ⟨[], rfl, rfl, trivial, trivial, trivial⟩
                              · replace h := ite_f e h
                                clear e
                                try cbv
                                refine splitI (fun e => ?_) (fun e => ?_)
                                · replace h := ite_t e h
                                  clear e
                                  try cbv
                                  refine splitLe (fun e => ?_) (fun e => ?_)
                                  · replace h := ite_t e h
                                    clear e
                                    try cbv
                                    refine splitL (fun e => ?_) (fun e => ?_)
                                    · replace h := ite_t e h
                                      clear e
                                      try cbv
                                      replace h := bO1_inv h
                                      obtain ⟨b53, hr, h⟩ := h
                                      refine call_go rfl rfl ?_
                                      try cbv
                                      refine call_pure hM hI (T59 _ hr) rfl ?_
                                      clear hr
                                      try cbv
                                      cases b53
                                      · replace h := ite_f Bool.false_ne_true h
                                        try cbv
                                        obtain rfl := Option.some.inj h
                                        refine fin_go ?_
                                        try cbv
                                        exact ⟨[], rfl, rfl, trivial, trivial, trivial⟩
                                      · replace h := ite_t rfl h
                                        try cbv
                                        replace h := bO1_inv h
                                        obtain ⟨b54, hr, h⟩ := h
                                        refine call_go rfl rfl ?_
                                        try cbv
                                        refine call_pure hM hI (T61 _ hr) rfl ?_
                                        clear hr
                                        try cbv
                                        cases b54
                                        · replace h := ite_f Bool.false_ne_true h
                                          try cbv
                                          obtain rfl := Option.some.inj h
                                          refine fin_go ?_
                                          try cbv
                                          exact ⟨[], rfl, rfl, trivial, trivial, trivial⟩
                                        · replace h := ite_t rfl h
                                          try cbv
                                          obtain rfl := Option.some.inj h
                                          refine fin_go ?_
                                          try cbv
                                          exact ⟨[], rfl, rfl, trivial, trivial, trivial⟩
                                    · replace h := ite_f (Int.not_lt.2 e) h
                                      clear e
                                      try cbv
                                      obtain rfl := Option.some.inj h
                                      refine fin_go ?_
                                      try cbv
                                      exact ⟨[], rfl, rfl, trivial, trivial, trivial⟩
                                  · replace h := ite_f (Int.not_le.2 e) h
                                    clear e
                                    try cbv
                                    obtain rfl := Option.some.inj h
                                    refine fin_go ?_
                                    try cbv
                                    exact ⟨[], rfl, rfl, trivial, trivial, trivial⟩
                                · replace h := ite_f e h
                                  clear e
                                  try cbv
                                  refine splitI (fun e => ?_) (fun e => ?_)
                                  · replace h := ite_t e h
                                    clear e
                                    try cbv
                                    refine splitLe (fun e => ?_) (fun e => ?_)
                                    · replace h := ite_t e h
                                      clear e
                                      try cbv
                                      refine splitL (fun e => ?_) (fun e => ?_)
                                      · replace h := ite_t e h
                                        clear e
                                        try cbv
                                        replace h := bO1_inv h
                                        obtain ⟨b55, hr, h⟩ := h
                                        refine call_go rfl rfl ?_
                                        try cbv
                                        refine call_pure hM hI (T59 _ hr) rfl ?_
                                        clear hr
                                        try cbv
                                        cases b55
                                        · replace h := ite_f Bool.false_ne_true h
                                          try cbv
                                          obtain rfl := Option.some.inj h
                                          refine fin_go ?_
                                          try cbv
                                          exact ⟨[], rfl, rfl, trivial, trivial, trivial⟩
                                        · replace h := ite_t rfl h
                                          try cbv
                                          replace h := bO1_inv h
                                          obtain ⟨b56, hr, h⟩ := h
                                          refine call_go rfl rfl ?_
                                          try cbv
                                          refine call_pure hM hI (T61 _ hr) rfl ?_
                                          clear hr
                                          try cbv
                                          cases b56
                                          · replace h := ite_f Bool.false_ne_true h
                                            try cbv
                                            obtain rfl := Option.some.inj h
                                            refine fin_go ?_
                                            try cbv
                                            exact ⟨[], rfl, rfl, trivial, trivial, trivial⟩
                                          · replace h := ite_t rfl h
                                            try cbv
                                            obtain rfl := Option.some.inj h
                                            refine fin_go ?_
                                            try cbv
                                            exact ⟨[], rfl, rfl, trivial, trivial, trivial⟩
                                      · replace h := ite_f (Int.not_lt.2 e) h
                                        clear e
                                        try cbv
                                        obtain rfl := Option.some.inj h
                                        refine fin_go ?_
                                        try cbv
                                        exact ⟨[], rfl, rfl, trivial, trivial, trivial⟩
                                    · replace h := ite_f (Int.not_le.2 e) h
                                      clear e
                                      try cbv
                                      obtain rfl := Option.some.inj h
                                      refine fin_go ?_
                                      try cbv
                                      exact ⟨[], rfl, rfl, trivial, trivial, trivial⟩
                                  · replace h := ite_f e h
                                    clear e
                                    try cbv
                                    refine splitI (fun e => ?_) (fun e => ?_)
                                    · replace h := ite_t e h
                                      clear e
                                      try cbv
                                      refine splitLe (fun e => ?_) (fun e => ?_)
                                      · replace h := ite_t e h
                                        clear e
                                        try cbv
                                        refine splitL (fun e => ?_) (fun e => ?_)
                                        · replace h := ite_t e h
                                          clear e
                                          try cbv
                                          replace h := bO1_inv h
                                          obtain ⟨b57, hr, h⟩ := h
                                          refine call_go rfl rfl ?_
                                          try cbv
                                          refine call_pure hM hI (T59 _ hr) rfl ?_
                                          clear hr
                                          try cbv
                                          cases b57
                                          · replace h := ite_f Bool.false_ne_true h
                                            try cbv
                                            obtain rfl := Option.some.inj h
                                            refine fin_go ?_
                                            try cbv
                                            exact ⟨[], rfl, rfl, trivial, trivial, trivial⟩
                                          · replace h := ite_t rfl h
                                            try cbv
                                            replace h := bO1_inv h
                                            obtain ⟨b58, hr, h⟩ := h
                                            refine call_go rfl rfl ?_
                                            try cbv
                                            refine call_pure hM hI (T61 _ hr) rfl ?_
                                            clear hr
                                            try cbv
                                            cases b58
                                            · replace h := ite_f Bool.false_ne_true h
                                              try cbv
                                              obtain rfl := Option.some.inj h
                                              refine fin_go ?_
                                              try cbv
                                              exact ⟨[], rfl, rfl, trivial, trivial, trivial⟩
                                            · replace h := ite_t rfl h
                                              try cbv
                                              obtain rfl := Option.some.inj h
                                              refine fin_go ?_
                                              try cbv
                                              exact ⟨[], rfl, rfl, trivial, trivial, trivial⟩
                                        · replace h := ite_f (Int.not_lt.2 e) h
                                          clear e
                                          try cbv
                                          obtain rfl := Option.some.inj h
                                          refine fin_go ?_
                                          try cbv
                                          exact ⟨[], rfl, rfl, trivial, trivial, trivial⟩
                                      · replace h := ite_f (Int.not_le.2 e) h
                                        clear e
                                        try cbv
                                        obtain rfl := Option.some.inj h
                                        refine fin_go ?_
                                        try cbv
                                        exact ⟨[], rfl, rfl, trivial, trivial, trivial⟩
                                    · replace h := ite_f e h
                                      clear e
                                      try cbv
                                      refine splitI (fun e => ?_) (fun e => ?_)
                                      · replace h := ite_t e h
                                        clear e
                                        try cbv
                                        refine splitI (fun e => ?_) (fun e => ?_)
                                        · replace h := ite_t e h
                                          clear e
                                          try cbv
                                          replace h := bO1_inv h
                                          obtain ⟨b59, hr, h⟩ := h
                                          refine call_go rfl rfl ?_
                                          try cbv
                                          refine call_pure hM hI (T61 _ hr) rfl ?_
                                          clear hr
                                          try cbv
                                          cases b59
                                          · replace h := ite_f Bool.false_ne_true h
                                            try cbv
                                            obtain rfl := Option.some.inj h
                                            refine fin_go ?_
                                            try cbv
                                            exact ⟨[], rfl, rfl, trivial, trivial, trivial⟩
                                          · replace h := ite_t rfl h
                                            try cbv
                                            obtain rfl := Option.some.inj h
                                            refine fin_go ?_
                                            try cbv
                                            exact ⟨[], rfl, rfl, trivial, trivial, trivial⟩
                                        · replace h := ite_f e h
                                          clear e
                                          try cbv
                                          refine splitI (fun e => ?_) (fun e => ?_)
                                          · replace h := ite_t e h
                                            clear e
                                            try cbv
                                            replace h := bO1_inv h
                                            obtain ⟨b60, hr, h⟩ := h
                                            refine call_go rfl rfl ?_
                                            try cbv
                                            refine call_pure hM hI (T61 _ hr) rfl ?_
                                            clear hr
                                            try cbv
                                            cases b60
                                            · replace h := ite_f Bool.false_ne_true h
                                              try cbv
                                              obtain rfl := Option.some.inj h
                                              refine fin_go ?_
                                              try cbv
                                              exact ⟨[], rfl, rfl, trivial, trivial, trivial⟩
                                            · replace h := ite_t rfl h
                                              try cbv
                                              obtain rfl := Option.some.inj h
                                              refine fin_go ?_
                                              try cbv
                                              exact ⟨[], rfl, rfl, trivial, trivial, trivial⟩
                                          · replace h := ite_f e h
                                            clear e
                                            try cbv
                                            obtain rfl := Option.some.inj h
                                            refine fin_go ?_
                                            try cbv
                                            exact ⟨[], rfl, rfl, trivial, trivial, trivial⟩
                                      · replace h := ite_f e h
                                        clear e
                                        try cbv
                                        refine splitI (fun e => ?_) (fun e => ?_)
                                        · replace h := ite_t e h
                                          clear e
                                          try cbv
                                          refine splitLe (fun e => ?_) (fun e => ?_)
                                          · replace h := ite_t e h
                                            clear e
                                            try cbv
                                            refine splitLe (fun e => ?_) (fun e => ?_)
                                            · replace h := ite_t e h
                                              clear e
                                              try cbv
                                              replace h := bO1_inv h
                                              obtain ⟨b61, hr, h⟩ := h
                                              refine call_go rfl rfl ?_
                                              try cbv
                                              refine call_pure hM hI (T61 _ hr) rfl ?_
                                              clear hr
                                              try cbv
                                              cases b61
                                              · replace h := ite_f Bool.false_ne_true h
                                                try cbv
                                                obtain rfl := Option.some.inj h
                                                refine fin_go ?_
                                                try cbv
                                                exact ⟨[], rfl, rfl, trivial, trivial, trivial⟩
                                              · replace h := ite_t rfl h
                                                try cbv
                                                obtain rfl := Option.some.inj h
                                                refine fin_go ?_
                                                try cbv
                                                exact ⟨[], rfl, rfl, trivial, trivial, trivial⟩
                                            · replace h := ite_f (Int.not_le.2 e) h
                                              clear e
                                              try cbv
                                              obtain rfl := Option.some.inj h
                                              refine fin_go ?_
                                              try cbv
                                              exact ⟨[], rfl, rfl, trivial, trivial, trivial⟩
                                          · replace h := ite_f (Int.not_le.2 e) h
                                            clear e
                                            try cbv
                                            obtain rfl := Option.some.inj h
                                            refine fin_go ?_
                                            try cbv
                                            exact ⟨[], rfl, rfl, trivial, trivial, trivial⟩
                                        · replace h := ite_f e h
                                          clear e
                                          try cbv
                                          refine splitI (fun e => ?_) (fun e => ?_)
                                          · replace h := ite_t e h
                                            clear e
                                            try cbv
                                            replace h := bO1_inv h
                                            obtain ⟨b62, hr, h⟩ := h
                                            refine call_go rfl rfl ?_
                                            try cbv
                                            refine call_pure hM hI (T60 _ hr) rfl ?_
                                            clear hr
                                            try cbv
                                            cases b62
                                            · replace h := ite_f Bool.false_ne_true h
                                              try cbv
                                              obtain rfl := Option.some.inj h
                                              refine fin_go ?_
                                              try cbv
                                              exact ⟨[], rfl, rfl, trivial, trivial, trivial⟩
                                            · replace h := ite_t rfl h
                                              try cbv
                                              refine splitLe (fun e => ?_) (fun e => ?_)
                                              · replace h := ite_t e h
                                                clear e
                                                try cbv
                                                refine splitLe (fun e => ?_) (fun e => ?_)
                                                · replace h := ite_t e h
                                                  clear e
                                                  try cbv
                                                  replace h := bO1_inv h
                                                  obtain ⟨b63, hr, h⟩ := h
                                                  refine call_go rfl rfl ?_
                                                  try cbv
                                                  refine call_pure hM hI (T61 _ hr) rfl ?_
                                                  clear hr
                                                  try cbv
                                                  cases b63
                                                  · replace h := ite_f Bool.false_ne_true h
                                                    try cbv
                                                    obtain rfl := Option.some.inj h
                                                    refine fin_go ?_
                                                    try cbv
                                                    exact ⟨[], rfl, rfl, trivial, trivial, trivial⟩
                                                  · replace h := ite_t rfl h
                                                    try cbv
                                                    obtain rfl := Option.some.inj h
                                                    refine fin_go ?_
                                                    try cbv
                                                    exact ⟨[], rfl, rfl, trivial, trivial, trivial⟩
                                                · replace h := ite_f (Int.not_le.2 e) h
                                                  clear e
                                                  try cbv
                                                  obtain rfl := Option.some.inj h
                                                  refine fin_go ?_
                                                  try cbv
                                                  exact ⟨[], rfl, rfl, trivial, trivial, trivial⟩
                                              · replace h := ite_f (Int.not_le.2 e) h
                                                clear e
                                                try cbv
                                                obtain rfl := Option.some.inj h
                                                refine fin_go ?_
                                                try cbv
                                                exact ⟨[], rfl, rfl, trivial, trivial, trivial⟩
                                          · replace h := ite_f e h
                                            clear e
                                            try cbv
                                            refine splitI (fun e => ?_) (fun e => ?_)
                                            · replace h := ite_t e h
                                              clear e
                                              try cbv
                                              replace h := bO1_inv h
                                              obtain ⟨b64, hr, h⟩ := h
                                              refine call_go rfl rfl ?_
                                              try cbv
                                              refine call_pure hM hI (T60 _ hr) rfl ?_
                                              clear hr
                                              try cbv
                                              cases b64
                                              · replace h := ite_f Bool.false_ne_true h
                                                try cbv
                                                obtain rfl := Option.some.inj h
                                                refine fin_go ?_
                                                try cbv
                                                exact ⟨[], rfl, rfl, trivial, trivial, trivial⟩
                                              · replace h := ite_t rfl h
                                                try cbv
                                                refine splitLe (fun e => ?_) (fun e => ?_)
                                                · replace h := ite_t e h
                                                  clear e
                                                  try cbv
                                                  refine splitLe (fun e => ?_) (fun e => ?_)
                                                  · replace h := ite_t e h
                                                    clear e
                                                    try cbv
                                                    replace h := bO1_inv h
                                                    obtain ⟨b65, hr, h⟩ := h
                                                    refine call_go rfl rfl ?_
                                                    try cbv
                                                    refine call_pure hM hI (T61 _ hr) rfl ?_
                                                    clear hr
                                                    try cbv
                                                    cases b65
                                                    · replace h := ite_f Bool.false_ne_true h
                                                      try cbv
                                                      obtain rfl := Option.some.inj h
                                                      refine fin_go ?_
                                                      try cbv
                                                      exact ⟨[], rfl, rfl, trivial, trivial, trivial⟩
                                                    · replace h := ite_t rfl h
                                                      try cbv
                                                      obtain rfl := Option.some.inj h
                                                      refine fin_go ?_
                                                      try cbv
                                                      exact ⟨[], rfl, rfl, trivial, trivial, trivial⟩
                                                  · replace h := ite_f (Int.not_le.2 e) h
                                                    clear e
                                                    try cbv
                                                    obtain rfl := Option.some.inj h
                                                    refine fin_go ?_
                                                    try cbv
                                                    exact ⟨[], rfl, rfl, trivial, trivial, trivial⟩
                                                · replace h := ite_f (Int.not_le.2 e) h
                                                  clear e
                                                  try cbv
                                                  obtain rfl := Option.some.inj h
                                                  refine fin_go ?_
                                                  try cbv
                                                  exact ⟨[], rfl, rfl, trivial, trivial, trivial⟩
                                            · replace h := ite_f e h
                                              clear e
                                              try cbv
                                              refine splitI (fun e => ?_) (fun e => ?_)
                                              · replace h := ite_t e h
                                                clear e
                                                try cbv
                                                replace h := bO1_inv h
                                                obtain ⟨b66, hr, h⟩ := h
                                                refine call_go rfl rfl ?_
                                                try cbv
                                                refine call_pure hM hI (T60 _ hr) rfl ?_
                                                clear hr
                                                try cbv
                                                cases b66
                                                · replace h := ite_f Bool.false_ne_true h
                                                  try cbv
                                                  obtain rfl := Option.some.inj h
                                                  refine fin_go ?_
                                                  try cbv
                                                  exact ⟨[], rfl, rfl, trivial, trivial, trivial⟩
                                                · replace h := ite_t rfl h
                                                  try cbv
                                                  refine splitLe (fun e => ?_) (fun e => ?_)
                                                  · replace h := ite_t e h
                                                    clear e
                                                    try cbv
                                                    refine splitLe (fun e => ?_) (fun e => ?_)
                                                    · replace h := ite_t e h
                                                      clear e
                                                      try cbv
                                                      refine splitI (fun e => ?_) (fun e => ?_)
                                                      · replace h := ite_t e h
                                                        clear e
                                                        try cbv
                                                        replace h := bO1_inv h
                                                        obtain ⟨b67, hr, h⟩ := h
                                                        refine call_go rfl rfl ?_
                                                        try cbv
                                                        refine call_pure hM hI (T61 _ hr) rfl ?_
                                                        clear hr
                                                        try cbv
                                                        cases b67
                                                        · replace h := ite_f Bool.false_ne_true h
                                                          try cbv
                                                          obtain rfl := Option.some.inj h
                                                          refine fin_go ?_
                                                          try cbv
                                                          exact ⟨[], rfl, rfl, trivial, trivial, trivial⟩
                                                        · replace h := ite_t rfl h
                                                          try cbv
                                                          obtain rfl := Option.some.inj h
                                                          refine fin_go ?_
                                                          try cbv
                                                          exact ⟨[], rfl, rfl, trivial, trivial, trivial⟩
                                                      · replace h := ite_f e h
                                                        clear e
                                                        try cbv
                                                        refine splitI (fun e => ?_) (fun e => ?_)
                                                        · replace h := ite_t e h
                                                          clear e
                                                          try cbv
                                                          replace h := bO1_inv h
                                                          obtain ⟨b68, hr, h⟩ := h
                                                          refine call_go rfl rfl ?_
                                                          try cbv
                                                          refine call_pure hM hI (T61 _ hr) rfl ?_
                                                          clear hr
                                                          try cbv
                                                          cases b68
                                                          · replace h := ite_f Bool.false_ne_true h
                                                            try cbv
                                                            obtain rfl := Option.some.inj h
                                                            refine fin_go ?_
                                                            try cbv
                                                            exact ⟨[], rfl, rfl, trivial, trivial, trivial⟩
                                                          · replace h := ite_t rfl h
                                                            try cbv
                                                            obtain rfl := Option.some.inj h
                                                            refine fin_go ?_
                                                            try cbv
                                                            exact ⟨[], rfl, rfl, trivial, trivial, trivial⟩
                                                        · replace h := ite_f e h
                                                          clear e
                                                          try cbv
                                                          obtain rfl := Option.some.inj h
                                                          refine fin_go ?_
                                                          try cbv
                                                          exact ⟨[], rfl, rfl, trivial, trivial, trivial⟩
                                                    · replace h := ite_f (Int.not_le.2 e) h
                                                      clear e
                                                      try cbv
                                                      obtain rfl := Option.some.inj h
                                                      refine fin_go ?_
                                                      try cbv
                                                      exact ⟨[], rfl, rfl, trivial, trivial, trivial⟩
                                                  · replace h := ite_f (Int.not_le.2 e) h
                                                    clear e
                                                    try cbv
                                                    obtain rfl := Option.some.inj h
                                                    refine fin_go ?_
                                                    try cbv
                                                    exact ⟨[], rfl, rfl, trivial, trivial, trivial⟩
                                              · replace h := ite_f e h
                                                clear e
                                                try cbv
                                                refine splitI (fun e => ?_) (fun e => ?_)
                                                · replace h := ite_t e h
                                                  clear e
                                                  try cbv
                                                  refine splitLe (fun e => ?_) (fun e => ?_)
                                                  · replace h := ite_t e h
                                                    clear e
                                                    try cbv
                                                    refine splitLe (fun e => ?_) (fun e => ?_)
                                                    · replace h := ite_t e h
                                                      clear e
                                                      try cbv
                                                      replace h := bO1_inv h
                                                      obtain ⟨b69, hr, h⟩ := h
                                                      refine call_go rfl rfl ?_
                                                      try cbv
                                                      refine call_pure hM hI (T61 _ hr) rfl ?_
                                                      clear hr
                                                      try cbv
                                                      cases b69
                                                      · replace h := ite_f Bool.false_ne_true h
                                                        try cbv
                                                        obtain rfl := Option.some.inj h
                                                        refine fin_go ?_
                                                        try cbv
                                                        exact ⟨[], rfl, rfl, trivial, trivial, trivial⟩
                                                      · replace h := ite_t rfl h
                                                        try cbv
                                                        obtain rfl := Option.some.inj h
                                                        refine fin_go ?_
                                                        try cbv
                                                        exact ⟨[], rfl, rfl, trivial, trivial, trivial⟩
                                                    · replace h := ite_f (Int.not_le.2 e) h
                                                      clear e
                                                      try cbv
                                                      obtain rfl := Option.some.inj h
                                                      refine fin_go ?_
                                                      try cbv
                                                      exact ⟨[], rfl, rfl, trivial, trivial, trivial⟩
                                                  · replace h := ite_f (Int.not_le.2 e) h
                                                    clear e
                                                    try cbv
                                                    obtain rfl := Option.some.inj h
                                                    refine fin_go ?_
                                                    try cbv
                                                    exact ⟨[], rfl, rfl, trivial, trivial, trivial⟩
                                                · replace h := ite_f e h
                                                  clear e
                                                  try cbv
                                                  refine splitI (fun e => ?_) (fun e => ?_)
                                                  · replace h := ite_t e h
                                                    clear e
                                                    try cbv
                                                    refine splitLe (fun e => ?_) (fun e => ?_)
                                                    · replace h := ite_t e h
                                                      clear e
                                                      try cbv
                                                      refine splitLe (fun e => ?_) (fun e => ?_)
                                                      · replace h := ite_t e h
                                                        clear e
                                                        try cbv
                                                        replace h := bO1_inv h
                                                        obtain ⟨b70, hr, h⟩ := h
                                                        refine call_go rfl rfl ?_
                                                        try cbv
                                                        refine call_pure hM hI (T61 _ hr) rfl ?_
                                                        clear hr
                                                        try cbv
                                                        cases b70
                                                        · replace h := ite_f Bool.false_ne_true h
                                                          try cbv
                                                          obtain rfl := Option.some.inj h
                                                          refine fin_go ?_
                                                          try cbv
                                                          exact ⟨[], rfl, rfl, trivial, trivial, trivial⟩
                                                        · replace h := ite_t rfl h
                                                          try cbv
                                                          obtain rfl := Option.some.inj h
                                                          refine fin_go ?_
                                                          try cbv
                                                          exact ⟨[], rfl, rfl, trivial, trivial, trivial⟩
                                                      · replace h := ite_f (Int.not_le.2 e) h
                                                        clear e
                                                        try cbv
                                                        obtain rfl := Option.some.inj h
                                                        refine fin_go ?_
                                                        try cbv
                                                        exact ⟨[], rfl, rfl, trivial, trivial, trivial⟩
                                                    · replace h := ite_f (Int.not_le.2 e) h
                                                      clear e
                                                      try cbv
                                                      obtain rfl := Option.some.inj h
                                                      refine fin_go ?_
                                                      try cbv
                                                      exact ⟨[], rfl, rfl, trivial, trivial, trivial⟩
                                                  · replace h := ite_f e h
                                                    clear e
                                                    try cbv
                                                    refine splitI (fun e => ?_) (fun e => ?_)
                                                    · replace h := ite_t e h
                                                      clear e
                                                      try cbv
                                                      replace h := bO1_inv h
                                                      obtain ⟨b71, hr, h⟩ := h
                                                      refine call_go rfl rfl ?_
                                                      try cbv
                                                      refine call_pure hM hI (T60 _ hr) rfl ?_
                                                      clear hr
                                                      try cbv
                                                      cases b71
                                                      · replace h := ite_f Bool.false_ne_true h
                                                        try cbv
                                                        refine loop_inv (T := Nat × Bool × Int) [3, 5, 6, 7, 8, 9, 10, 11, 36] [.loc 0, .loc 32, .loc 928] 2944 (fun t => ⟨[(3, .v (.c (.ptr (.loc 0) 0))), (5, .v (.c (.ptr (.loc 32) 0))), (6, .v (.d (.int .i64 0))), (7, .v (.d (.int .i64 z18))), (8, .v (.d (.int .i64 z25))), (9, .v (.d (.bool t.2.1))), (10, .v (.c (.ptr (.loc 928) 0))), (11, .v (.d (.int .i64 t.2.2))), (36, .v (.d (.int .u8 z5)))], [(.loc 0, .cells [.d (.list true 4 l1), .d (.int .i64 z2), .d (.list true 16 l3)]), (.loc 32, .cells [.d (.int .u8 z5), .d (.int .i64 z6), .d (.int .i64 z7), .d (.int .i64 z8), .d (.list false 1 l9), .d (.list false 1 l10), .d (.int .i64 z11), .d (.str s12), .d (.list false 1 l13)]), (.loc 928, .cells [.d (.int .u8 z5), .d (.int .i64 z6), .d (.int .i64 z7), .d (.int .i64 z8), .d (.list false 1 l9), .d (.list false 1 l10), .d (.int .i64 z11), .d (.str s12), .d (.list false 1 l13)])], 2944⟩)
                                                          (fun t => t.1 ≤ n ∧ L34_3 t.1 z5 z6 z7 z8 l9 l10 z11 l13 z25 t.2.1 t.2.2 = some r1) (fun t => t.1) (n, (false, (0 : Int))) ⟨Nat.le_refl _, h⟩ (by cbv) ?_
                                                        clear h
                                                        rintro ⟨m3, b95, z96⟩ ⟨hm3, h⟩
                                                        replace hm3 : m3 ≤ n := hm3
                                                        cases m3 with
                                                        | zero => cases (show (none : Option _) = some _ from h)
                                                        | succ m3 =>
                                                          replace h : L34_3 (m3 + 1) z5 z6 z7 z8 l9 l10 z11 l13 z25 b95 z96 = some r1 := h
                                                          rw [L34_3] at h
                                                          try cbv
                                                          replace h := lenF_inv M h
                                                          obtain ⟨z97, hz, h⟩ := h
                                                          refine ⟨z97, hz, ?_⟩
                                                          clear hz
                                                          try cbv
                                                          refine splitL (fun e => ?_) (fun e => ?_)
                                                          · replace h := ite_t e h
                                                            clear e
                                                            try cbv
                                                            cases b95
                                                            · replace h := ite_f Bool.false_ne_true h
                                                              try cbv
                                                              obtain rfl := Option.some.inj h
                                                              refine fin_go ?_
                                                              try cbv
                                                              exact ⟨[], rfl, rfl, trivial, trivial, trivial⟩
                                                            · replace h := ite_t rfl h
                                                              try cbv
                                                              replace h := getF_inv h
                                                              obtain ⟨x98, ⟨hx0, hx⟩, h⟩ := h
                                                              refine ⟨x98, hx0, hx, ?_⟩
                                                              clear hx0 hx
                                                              replace h := ds_i64_inv h
                                                              obtain ⟨z99, rfl, h⟩ := h
                                                              try cbv
                                                              refine splitLe (fun e => ?_) (fun e => ?_)
                                                              · replace h := ite_t e h
                                                                clear e
                                                                try cbv
                                                                replace h := getF_inv h
                                                                obtain ⟨x100, ⟨hx0, hx⟩, h⟩ := h
                                                                refine ⟨x100, hx0, hx, ?_⟩
                                                                clear hx0 hx
                                                                replace h := ds_i64_inv h
                                                                obtain ⟨z101, rfl, h⟩ := h
                                                                try cbv
                                                                refine splitLe (fun e => ?_) (fun e => ?_)
                                                                · replace h := ite_t e h
                                                                  clear e
                                                                  try cbv
                                                                  replace h := letF_inv h
                                                                  obtain ⟨z102, hz, h⟩ := h
                                                                  refine ⟨z102, hz, ?_⟩
                                                                  clear hz
                                                                  try cbv
                                                                  exact loop_next (m3, (true, z102)) [3, 5, 6, 7, 8, 9, 10, 11, 36] [.loc 0, .loc 32, .loc 928] 2944 ⟨by omega, h⟩ (Nat.lt_succ_of_le (by omega)) (by cbv)
                                                                · replace h := ite_f (Int.not_le.2 e) h
                                                                  clear e
                                                                  try cbv
                                                                  replace h := letF_inv h
                                                                  obtain ⟨z103, hz, h⟩ := h
                                                                  refine ⟨z103, hz, ?_⟩
                                                                  clear hz
                                                                  try cbv
                                                                  exact loop_next (m3, (false, z103)) [3, 5, 6, 7, 8, 9, 10, 11, 36] [.loc 0, .loc 32, .loc 928] 2944 ⟨by omega, h⟩ (Nat.lt_succ_of_le (by omega)) (by cbv)
                                                              · replace h := ite_f (Int.not_le.2 e) h
                                                                clear e
                                                                try cbv
                                                                replace h := letF_inv h
                                                                obtain ⟨z104, hz, h⟩ := h
                                                                refine ⟨z104, hz, ?_⟩
                                                                clear hz
                                                                try cbv
                                                                exact loop_next (m3, (false, z104)) [3, 5, 6, 7, 8, 9, 10, 11, 36] [.loc 0, .loc 32, .loc 928] 2944 ⟨by omega, h⟩ (Nat.lt_succ_of_le (by omega)) (by cbv)
                                                          · replace h := ite_f (Int.not_lt.2 e) h
                                                            clear e
                                                            try cbv
                                                            cases b95
                                                            · replace h := ite_f Bool.false_ne_true h
                                                              try cbv
                                                              obtain rfl := Option.some.inj h
                                                              refine fin_go ?_
                                                              try cbv
                                                              exact ⟨[], rfl, rfl, trivial, trivial, trivial⟩
                                                            · replace h := ite_t rfl h
                                                              try cbv
                                                              replace h := bO1_inv h
                                                              obtain ⟨b105, hr, h⟩ := h
                                                              refine call_go rfl rfl ?_
                                                              try cbv
                                                              refine call_pure hM hI (T61 _ hr) rfl ?_
                                                              clear hr
                                                              try cbv
                                                              cases b105
                                                              · replace h := ite_f Bool.false_ne_true h
                                                                try cbv
                                                                obtain rfl := Option.some.inj h
                                                                refine fin_go ?_
                                                                try cbv
                                                                exact ⟨[], rfl, rfl, trivial, trivial, trivial⟩
                                                              · replace h := ite_t rfl h
                                                                try cbv
                                                                obtain rfl := Option.some.inj h
                                                                refine fin_go ?_
                                                                try cbv
                                                                exact ⟨[], rfl, rfl, trivial, trivial, trivial⟩
                                                      · replace h := ite_t rfl h
                                                        try cbv
                                                        replace h := lenF_inv M h
                                                        obtain ⟨z72, hz, h⟩ := h
                                                        refine ⟨z72, hz, ?_⟩
                                                        clear hz
                                                        try cbv
                                                        refine splitLe (fun e => ?_) (fun e => ?_)
                                                        · replace h := ite_t e h
                                                          clear e
                                                          try cbv
                                                          refine loop_inv (T := Nat × Bool × Int) [3, 5, 6, 7, 8, 9, 10, 11, 36] [.loc 0, .loc 32, .loc 928] 2944 (fun t => ⟨[(3, .v (.c (.ptr (.loc 0) 0))), (5, .v (.c (.ptr (.loc 32) 0))), (6, .v (.d (.int .i64 0))), (7, .v (.d (.int .i64 z18))), (8, .v (.d (.int .i64 z25))), (9, .v (.d (.bool t.2.1))), (10, .v (.c (.ptr (.loc 928) 0))), (11, .v (.d (.int .i64 t.2.2))), (36, .v (.d (.int .u8 z5)))], [(.loc 0, .cells [.d (.list true 4 l1), .d (.int .i64 z2), .d (.list true 16 l3)]), (.loc 32, .cells [.d (.int .u8 z5), .d (.int .i64 z6), .d (.int .i64 z7), .d (.int .i64 z8), .d (.list false 1 l9), .d (.list false 1 l10), .d (.int .i64 z11), .d (.str s12), .d (.list false 1 l13)]), (.loc 928, .cells [.d (.int .u8 z5), .d (.int .i64 z6), .d (.int .i64 z7), .d (.int .i64 z8), .d (.list false 1 l9), .d (.list false 1 l10), .d (.int .i64 z11), .d (.str s12), .d (.list false 1 l13)])], 2944⟩)
                                                            (fun t => t.1 ≤ n ∧ L34_1 t.1 z5 z6 z7 z8 l9 l10 z11 l13 z25 t.2.1 t.2.2 = some r1) (fun t => t.1) (n, (true, (0 : Int))) ⟨Nat.le_refl _, h⟩ (by cbv) ?_
                                                          clear h
                                                          rintro ⟨m1, b73, z74⟩ ⟨hm1, h⟩
                                                          replace hm1 : m1 ≤ n := hm1
                                                          cases m1 with
                                                          | zero => cases (show (none : Option _) = some _ from h)
                                                          | succ m1 =>
                                                            replace h : L34_1 (m1 + 1) z5 z6 z7 z8 l9 l10 z11 l13 z25 b73 z74 = some r1 := h
                                                            rw [L34_1] at h
                                                            try cbv
                                                            replace h := lenF_inv M h
                                                            obtain ⟨z75, hz, h⟩ := h
                                                            refine ⟨z75, hz, ?_⟩
                                                            clear hz
                                                            try cbv
                                                            refine splitL (fun e => ?_) (fun e => ?_)
                                                            · replace h := ite_t e h
                                                              clear e
                                                              try cbv
                                                              cases b73
                                                              · replace h := ite_f Bool.false_ne_true h
                                                                try cbv
                                                                obtain rfl := Option.some.inj h
                                                                refine fin_go ?_
                                                                try cbv
                                                                exact ⟨[], rfl, rfl, trivial, trivial, trivial⟩
                                                              · replace h := ite_t rfl h
                                                                try cbv
                                                                replace h := getF_inv h
                                                                obtain ⟨x76, ⟨hx0, hx⟩, h⟩ := h
                                                                refine ⟨x76, hx0, hx, ?_⟩
                                                                clear hx0 hx
                                                                replace h := ds_i64_inv h
                                                                obtain ⟨z77, rfl, h⟩ := h
                                                                try cbv
                                                                refine splitLe (fun e => ?_) (fun e => ?_)
                                                                · replace h := ite_t e h
                                                                  clear e
                                                                  try cbv
                                                                  replace h := getF_inv h
                                                                  obtain ⟨x78, ⟨hx0, hx⟩, h⟩ := h
                                                                  refine ⟨x78, hx0, hx, ?_⟩
                                                                  clear hx0 hx
                                                                  replace h := ds_i64_inv h
                                                                  obtain ⟨z79, rfl, h⟩ := h
                                                                  try cbv
                                                                  refine splitLe (fun e => ?_) (fun e => ?_)
                                                                  · replace h := ite_t e h
                                                                    clear e
                                                                    try cbv
                                                                    replace h := letF_inv h
                                                                    obtain ⟨z80, hz, h⟩ := h
                                                                    refine ⟨z80, hz, ?_⟩
                                                                    clear hz
                                                                    try cbv
                                                                    exact loop_next (m1, (true, z80)) [3, 5, 6, 7, 8, 9, 10, 11, 36] [.loc 0, .loc 32, .loc 928] 2944 ⟨by omega, h⟩ (Nat.lt_succ_of_le (by omega)) (by cbv)
                                                                  · replace h := ite_f (Int.not_le.2 e) h
                                                                    clear e
                                                                    try cbv
                                                                    replace h := letF_inv h
                                                                    obtain ⟨z81, hz, h⟩ := h
                                                                    refine ⟨z81, hz, ?_⟩
                                                                    clear hz
                                                                    try cbv
                                                                    exact loop_next (m1, (false, z81)) [3, 5, 6, 7, 8, 9, 10, 11, 36] [.loc 0, .loc 32, .loc 928] 2944 ⟨by omega, h⟩ (Nat.lt_succ_of_le (by omega)) (by cbv)
                                                                · replace h := ite_f (Int.not_le.2 e) h
                                                                  clear e
                                                                  try cbv
                                                                  replace h := letF_inv h
                                                                  obtain ⟨z82, hz, h⟩ := h
                                                                  refine ⟨z82, hz, ?_⟩
                                                                  clear hz
                                                                  try cbv
                                                                  exact loop_next (m1, (false, z82)) [3, 5, 6, 7, 8, 9, 10, 11, 36] [.loc 0, .loc 32, .loc 928] 2944 ⟨by omega, h⟩ (Nat.lt_succ_of_le (by omega)) (by cbv)
                                                            · replace h := ite_f (Int.not_lt.2 e) h
                                                              clear e
                                                              try cbv
                                                              cases b73
                                                              · replace h := ite_f Bool.false_ne_true h
                                                                try cbv
                                                                obtain rfl := Option.some.inj h
                                                                refine fin_go ?_
                                                                try cbv
                                                                exact ⟨[], rfl, rfl, trivial, trivial, trivial⟩
                                                              · replace h := ite_t rfl h
                                                                try cbv
                                                                replace h := bO1_inv h
                                                                obtain ⟨b83, hr, h⟩ := h
                                                                refine call_go rfl rfl ?_
                                                                try cbv
                                                                refine call_pure hM hI (T61 _ hr) rfl ?_
                                                                clear hr
                                                                try cbv
                                                                cases b83
                                                                · replace h := ite_f Bool.false_ne_true h
                                                                  try cbv
                                                                  obtain rfl := Option.some.inj h
                                                                  refine fin_go ?_
                                                                  try cbv
                                                                  exact ⟨[], rfl, rfl, trivial, trivial, trivial⟩
                                                                · replace h := ite_t rfl h
                                                                  try cbv
                                                                  obtain rfl := Option.some.inj h
                                                                  refine fin_go ?_
                                                                  try cbv
                                                                  exact ⟨[], rfl, rfl, trivial, trivial, trivial⟩
                                                        · replace h := ite_f (Int.not_le.2 e) h
                                                          clear e
                                                          try cbv
                                                          refine loop_inv (T := Nat × Bool × Int) [3, 5, 6, 7, 8, 9, 10, 11, 36] [.loc 0, .loc 32, .loc 928] 2944 (fun t => ⟨[(3, .v (.c (.ptr (.loc 0) 0))), (5, .v (.c (.ptr (.loc 32) 0))), (6, .v (.d (.int .i64 0))), (7, .v (.d (.int .i64 z18))), (8, .v (.d (.int .i64 z25))), (9, .v (.d (.bool t.2.1))), (10, .v (.c (.ptr (.loc 928) 0))), (11, .v (.d (.int .i64 t.2.2))), (36, .v (.d (.int .u8 z5)))], [(.loc 0, .cells [.d (.list true 4 l1), .d (.int .i64 z2), .d (.list true 16 l3)]), (.loc 32, .cells [.d (.int .u8 z5), .d (.int .i64 z6), .d (.int .i64 z7), .d (.int .i64 z8), .d (.list false 1 l9), .d (.list false 1 l10), .d (.int .i64 z11), .d (.str s12), .d (.list false 1 l13)]), (.loc 928, .cells [.d (.int .u8 z5), .d (.int .i64 z6), .d (.int .i64 z7), .d (.int .i64 z8), .d (.list false 1 l9), .d (.list false 1 l10), .d (.int .i64 z11), .d (.str s12), .d (.list false 1 l13)])], 2944⟩)
                                                            (fun t => t.1 ≤ n ∧ L34_2 t.1 z5 z6 z7 z8 l9 l10 z11 l13 z25 t.2.1 t.2.2 = some r1) (fun t => t.1) (n, (false, (0 : Int))) ⟨Nat.le_refl _, h⟩ (by cbv) ?_
                                                          clear h
                                                          rintro ⟨m2, b84, z85⟩ ⟨hm2, h⟩
                                                          replace hm2 : m2 ≤ n := hm2
                                                          cases m2 with
                                                          | zero => cases (show (none : Option _) = some _ from h)
                                                          | succ m2 =>
                                                            replace h : L34_2 (m2 + 1) z5 z6 z7 z8 l9 l10 z11 l13 z25 b84 z85 = some r1 := h
                                                            rw [L34_2] at h
                                                            try cbv
                                                            replace h := lenF_inv M h
                                                            obtain ⟨z86, hz, h⟩ := h
                                                            refine ⟨z86, hz, ?_⟩
                                                            clear hz
                                                            try cbv
                                                            refine splitL (fun e => ?_) (fun e => ?_)
                                                            · replace h := ite_t e h
                                                              clear e
                                                              try cbv
                                                              cases b84
                                                              · replace h := ite_f Bool.false_ne_true h
                                                                try cbv
                                                                obtain rfl := Option.some.inj h
                                                                refine fin_go ?_
                                                                try cbv
                                                                exact ⟨[], rfl, rfl, trivial, trivial, trivial⟩
                                                              · replace h := ite_t rfl h
                                                                try cbv
                                                                replace h := getF_inv h
                                                                obtain ⟨x87, ⟨hx0, hx⟩, h⟩ := h
                                                                refine ⟨x87, hx0, hx, ?_⟩
                                                                clear hx0 hx
                                                                replace h := ds_i64_inv h
                                                                obtain ⟨z88, rfl, h⟩ := h
                                                                try cbv
                                                                refine splitLe (fun e => ?_) (fun e => ?_)
                                                                · replace h := ite_t e h
                                                                  clear e
                                                                  try cbv
                                                                  replace h := getF_inv h
                                                                  obtain ⟨x89, ⟨hx0, hx⟩, h⟩ := h
                                                                  refine ⟨x89, hx0, hx, ?_⟩
                                                                  clear hx0 hx
                                                                  replace h := ds_i64_inv h
                                                                  obtain ⟨z90, rfl, h⟩ := h
                                                                  try cbv
                                                                  refine splitLe (fun e => ?_) (fun e => ?_)
                                                                  · replace h := ite_t e h
                                                                    clear e
                                                                    try cbv
                                                                    replace h := letF_inv h
                                                                    obtain ⟨z91, hz, h⟩ := h
                                                                    refine ⟨z91, hz, ?_⟩
                                                                    clear hz
                                                                    try cbv
                                                                    exact loop_next (m2, (true, z91)) [3, 5, 6, 7, 8, 9, 10, 11, 36] [.loc 0, .loc 32, .loc 928] 2944 ⟨by omega, h⟩ (Nat.lt_succ_of_le (by omega)) (by cbv)
                                                                  · replace h := ite_f (Int.not_le.2 e) h
                                                                    clear e
                                                                    try cbv
                                                                    replace h := letF_inv h
                                                                    obtain ⟨z92, hz, h⟩ := h
                                                                    refine ⟨z92, hz, ?_⟩
                                                                    clear hz
                                                                    try cbv
                                                                    exact loop_next (m2, (false, z92)) [3, 5, 6, 7, 8, 9, 10, 11, 36] [.loc 0, .loc 32, .loc 928] 2944 ⟨by omega, h⟩ (Nat.lt_succ_of_le (by omega)) (by cbv)
                                                                · replace h := ite_f (Int.not_le.2 e) h
                                                                  clear e
                                                                  try cbv
                                                                  replace h := letF_inv h
                                                                  obtain ⟨z93, hz, h⟩ := h
                                                                  refine ⟨z93, hz, ?_⟩
                                                                  clear hz
                                                                  try cbv
                                                                  exact loop_next (m2, (false, z93)) [3, 5, 6, 7, 8, 9, 10, 11, 36] [.loc 0, .loc 32, .loc 928] 2944 ⟨by omega, h⟩ (Nat.lt_succ_of_le (by omega)) (by cbv)
                                                            · replace h := ite_f (Int.not_lt.2 e) h
                                                              clear e
                                                              try cbv
                                                              cases b84
                                                              · replace h := ite_f Bool.false_ne_true h
                                                                try cbv
                                                                obtain rfl := Option.some.inj h
                                                                refine fin_go ?_
                                                                try cbv
                                                                exact ⟨[], rfl, rfl, trivial, trivial, trivial⟩
                                                              · replace h := ite_t rfl h
                                                                try cbv
                                                                replace h := bO1_inv h
                                                                obtain ⟨b94, hr, h⟩ := h
                                                                refine call_go rfl rfl ?_
                                                                try cbv
                                                                refine call_pure hM hI (T61 _ hr) rfl ?_
                                                                clear hr
                                                                try cbv
                                                                cases b94
                                                                · replace h := ite_f Bool.false_ne_true h
                                                                  try cbv
                                                                  obtain rfl := Option.some.inj h
                                                                  refine fin_go ?_
                                                                  try cbv
                                                                  exact ⟨[], rfl, rfl, trivial, trivial, trivial⟩
                                                                · replace h := ite_t rfl h
                                                                  try cbv
                                                                  obtain rfl := Option.some.inj h
                                                                  refine fin_go ?_
                                                                  try cbv
                                                                  exact ⟨[], rfl, rfl, trivial, trivial, trivial⟩
                                                    · replace h := ite_f e h
                                                      clear e
                                                      try cbv
                                                      refine splitI (fun e => ?_) (fun e => ?_)
                                                      · replace h := ite_t e h
                                                        clear e
                                                        try cbv
                                                        refine splitLe (fun e => ?_) (fun e => ?_)
                                                        · replace h := ite_t e h
                                                          clear e
                                                          try cbv
                                                          replace h := lenF_inv M h
                                                          obtain ⟨z106, hz, h⟩ := h
                                                          refine ⟨z106, hz, ?_⟩
                                                          clear hz
                                                          try cbv
                                                          refine splitL (fun e => ?_) (fun e => ?_)
                                                          · replace h := ite_t e h
                                                            clear e
                                                            try cbv
                                                            replace h := getF_inv h
                                                            obtain ⟨x107, ⟨hx0, hx⟩, h⟩ := h
                                                            refine ⟨x107, hx0, hx, ?_⟩
                                                            clear hx0 hx
                                                            replace h := ds_t56_inv h
                                                            obtain ⟨s108, z109, z110, l111, rfl, h⟩ := h
                                                            try cbv
                                                            refine splitI (fun e => ?_) (fun e => ?_)
                                                            · replace h := ite_t e h
                                                              clear e
                                                              try cbv
                                                              refine drawn ?_ ?_
                                                              · show _ = true
                                                                kernel_rfl
                                                              try cbv
                                                              replace h := bO1_inv h
                                                              obtain ⟨b112, hr, h⟩ := h
                                                              refine call_go rfl rfl ?_
                                                              try cbv
                                                              refine call_pure hM hI (T61 _ hr) rfl ?_
                                                              clear hr
                                                              try cbv
                                                              cases b112
                                                              · replace h := ite_f Bool.false_ne_true h
                                                                try cbv
                                                                obtain rfl := Option.some.inj h
                                                                refine fin_go ?_
                                                                try cbv
                                                                exact ⟨[], rfl, rfl, trivial, trivial, trivial⟩
                                                              · replace h := ite_t rfl h
                                                                try cbv
                                                                obtain rfl := Option.some.inj h
                                                                refine fin_go ?_
                                                                try cbv
                                                                exact ⟨[], rfl, rfl, trivial, trivial, trivial⟩
                                                            · replace h := ite_f e h
                                                              clear e
                                                              try cbv
                                                              refine drawn ?_ ?_
                                                              · show _ = true
                                                                kernel_rfl
                                                              try cbv
                                                              obtain rfl := Option.some.inj h
                                                              refine fin_go ?_
                                                              try cbv
                                                              exact ⟨[], rfl, rfl, trivial, trivial, trivial⟩
                                                          · replace h := ite_f (Int.not_lt.2 e) h
                                                            clear e
                                                            try cbv
                                                            refine drawn ?_ ?_
                                                            · show _ = true
                                                              kernel_rfl
                                                            try cbv
                                                            obtain rfl := Option.some.inj h
                                                            refine fin_go ?_
                                                            try cbv
                                                            exact ⟨[], rfl, rfl, trivial, trivial, trivial⟩
                                                        · replace h := ite_f (Int.not_le.2 e) h
                                                          clear e
                                                          try cbv
                                                          refine drawn ?_ ?_
                                                          · show _ = true
                                                            kernel_rfl
                                                          try cbv
                                                          obtain rfl := Option.some.inj h
                                                          refine fin_go ?_
                                                          try cbv
                                                          exact ⟨[], rfl, rfl, trivial, trivial, trivial⟩
                                                      · replace h := ite_f e h
                                                        clear e
                                                        try cbv
                                                        refine splitI (fun e => ?_) (fun e => ?_)
                                                        · replace h := ite_t e h
                                                          clear e
                                                          try cbv
                                                          refine splitLe (fun e => ?_) (fun e => ?_)
                                                          · replace h := ite_t e h
                                                            clear e
                                                            try cbv
                                                            replace h := lenF_inv M h
                                                            obtain ⟨z113, hz, h⟩ := h
                                                            refine ⟨z113, hz, ?_⟩
                                                            clear hz
                                                            try cbv
                                                            refine splitL (fun e => ?_) (fun e => ?_)
                                                            · replace h := ite_t e h
                                                              clear e
                                                              try cbv
                                                              replace h := getF_inv h
                                                              obtain ⟨x114, ⟨hx0, hx⟩, h⟩ := h
                                                              refine ⟨x114, hx0, hx, ?_⟩
                                                              clear hx0 hx
                                                              replace h := ds_t56_inv h
                                                              obtain ⟨s115, z116, z117, l118, rfl, h⟩ := h
                                                              try cbv
                                                              refine splitI (fun e => ?_) (fun e => ?_)
                                                              · replace h := ite_t e h
                                                                clear e
                                                                try cbv
                                                                refine drawn ?_ ?_
                                                                · show _ = true
                                                                  kernel_rfl
                                                                try cbv
                                                                replace h := bO1_inv h
                                                                obtain ⟨b119, hr, h⟩ := h
                                                                refine call_go rfl rfl ?_
                                                                try cbv
                                                                refine call_pure hM hI (T61 _ hr) rfl ?_
                                                                clear hr
                                                                try cbv
                                                                cases b119
                                                                · replace h := ite_f Bool.false_ne_true h
                                                                  try cbv
                                                                  obtain rfl := Option.some.inj h
                                                                  refine fin_go ?_
                                                                  try cbv
                                                                  exact ⟨[], rfl, rfl, trivial, trivial, trivial⟩
                                                                · replace h := ite_t rfl h
                                                                  try cbv
                                                                  obtain rfl := Option.some.inj h
                                                                  refine fin_go ?_
                                                                  try cbv
                                                                  exact ⟨[], rfl, rfl, trivial, trivial, trivial⟩
                                                              · replace h := ite_f e h
                                                                clear e
                                                                try cbv
                                                                refine drawn ?_ ?_
                                                                · show _ = true
                                                                  kernel_rfl
                                                                try cbv
                                                                obtain rfl := Option.some.inj h
                                                                refine fin_go ?_
                                                                try cbv
                                                                exact ⟨[], rfl, rfl, trivial, trivial, trivial⟩
                                                            · replace h := ite_f (Int.not_lt.2 e) h
                                                              clear e
                                                              try cbv
                                                              refine drawn ?_ ?_
                                                              · show _ = true
                                                                kernel_rfl
                                                              try cbv
                                                              obtain rfl := Option.some.inj h
                                                              refine fin_go ?_
                                                              try cbv
                                                              exact ⟨[], rfl, rfl, trivial, trivial, trivial⟩
                                                          · replace h := ite_f (Int.not_le.2 e) h
                                                            clear e
                                                            try cbv
                                                            refine drawn ?_ ?_
                                                            · show _ = true
                                                              kernel_rfl
                                                            try cbv
                                                            obtain rfl := Option.some.inj h
                                                            refine fin_go ?_
                                                            try cbv
                                                            exact ⟨[], rfl, rfl, trivial, trivial, trivial⟩
                                                        · replace h := ite_f e h
                                                          clear e
                                                          try cbv
                                                          refine splitI (fun e => ?_) (fun e => ?_)
                                                          · replace h := ite_t e h
                                                            clear e
                                                            try cbv
                                                            replace h := bO1_inv h
                                                            obtain ⟨b120, hr, h⟩ := h
                                                            refine call_go rfl rfl ?_
                                                            try cbv
                                                            refine call_pure hM hI (T61 _ hr) rfl ?_
                                                            clear hr
                                                            try cbv
                                                            cases b120
                                                            · replace h := ite_f Bool.false_ne_true h
                                                              try cbv
                                                              obtain rfl := Option.some.inj h
                                                              refine fin_go ?_
                                                              try cbv
                                                              exact ⟨[], rfl, rfl, trivial, trivial, trivial⟩
                                                            · replace h := ite_t rfl h
                                                              try cbv
                                                              obtain rfl := Option.some.inj h
                                                              refine fin_go ?_
                                                              try cbv
                                                              exact ⟨[], rfl, rfl, trivial, trivial, trivial⟩
                                                          · replace h := ite_f e h
                                                            clear e
                                                            try cbv
                                                            refine splitI (fun e => ?_) (fun e => ?_)
                                                            · replace h := ite_t e h
                                                              clear e
                                                              try cbv
                                                              replace h := bO1_inv h
                                                              obtain ⟨b121, hr, h⟩ := h
                                                              refine call_go rfl rfl ?_
                                                              try cbv
                                                              refine call_pure hM hI (T61 _ hr) rfl ?_
                                                              clear hr
                                                              try cbv
                                                              cases b121
                                                              · replace h := ite_f Bool.false_ne_true h
                                                                try cbv
                                                                obtain rfl := Option.some.inj h
                                                                refine fin_go ?_
                                                                try cbv
                                                                exact ⟨[], rfl, rfl, trivial, trivial, trivial⟩
                                                              · replace h := ite_t rfl h
                                                                try cbv
                                                                obtain rfl := Option.some.inj h
                                                                refine fin_go ?_
                                                                try cbv
                                                                exact ⟨[], rfl, rfl, trivial, trivial, trivial⟩
                                                            · replace h := ite_f e h
                                                              clear e
                                                              try cbv
                                                              refine splitI (fun e => ?_) (fun e => ?_)
                                                              · replace h := ite_t e h
                                                                clear e
                                                                try cbv
                                                                replace h := bO1_inv h
                                                                obtain ⟨b122, hr, h⟩ := h
                                                                refine call_go rfl rfl ?_
                                                                try cbv
                                                                refine call_pure hM hI (T61 _ hr) rfl ?_
                                                                clear hr
                                                                try cbv
                                                                cases b122
                                                                · replace h := ite_f Bool.false_ne_true h
                                                                  try cbv
                                                                  obtain rfl := Option.some.inj h
                                                                  refine fin_go ?_
                                                                  try cbv
                                                                  exact ⟨[], rfl, rfl, trivial, trivial, trivial⟩
                                                                · replace h := ite_t rfl h
                                                                  try cbv
                                                                  obtain rfl := Option.some.inj h
                                                                  refine fin_go ?_
                                                                  try cbv
                                                                  exact ⟨[], rfl, rfl, trivial, trivial, trivial⟩
                                                              · replace h := ite_f e h
                                                                clear e
                                                                try cbv
                                                                refine splitI (fun e => ?_) (fun e => ?_)
                                                                · replace h := ite_t e h
                                                                  clear e
                                                                  try cbv
                                                                  replace h := bO1_inv h
                                                                  obtain ⟨b123, hr, h⟩ := h
                                                                  refine call_go rfl rfl ?_
                                                                  try cbv
                                                                  refine call_pure hM hI (T61 _ hr) rfl ?_
                                                                  clear hr
                                                                  try cbv
                                                                  cases b123
                                                                  · replace h := ite_f Bool.false_ne_true h
                                                                    try cbv
                                                                    obtain rfl := Option.some.inj h
                                                                    refine fin_go ?_
                                                                    try cbv
                                                                    exact ⟨[], rfl, rfl, trivial, trivial, trivial⟩
                                                                  · replace h := ite_t rfl h
                                                                    try cbv
                                                                    obtain rfl := Option.some.inj h
                                                                    refine fin_go ?_
                                                                    try cbv
                                                                    exact ⟨[], rfl, rfl, trivial, trivial, trivial⟩
                                                                · replace h := ite_f e h
                                                                  clear e
                                                                  try cbv
                                                                  refine splitI (fun e => ?_) (fun e => ?_)
                                                                  · replace h := ite_t e h
                                                                    clear e
                                                                    try cbv
                                                                    refine splitLe (fun e => ?_) (fun e => ?_)
                                                                    · replace h := ite_t e h
                                                                      clear e
                                                                      try cbv
                                                                      refine splitLe (fun e => ?_) (fun e => ?_)
                                                                      · replace h := ite_t e h
                                                                        clear e
                                                                        try cbv
                                                                        replace h := bO1_inv h
                                                                        obtain ⟨b124, hr, h⟩ := h
                                                                        refine call_go rfl rfl ?_
                                                                        try cbv
                                                                        refine call_pure hM hI (T61 _ hr) rfl ?_
                                                                        clear hr
                                                                        try cbv
                                                                        cases b124
                                                                        · replace h := ite_f Bool.false_ne_true h
                                                                          try cbv
                                                                          obtain rfl := Option.some.inj h
                                                                          refine fin_go ?_
                                                                          try cbv
                                                                          exact ⟨[], rfl, rfl, trivial, trivial, trivial⟩
                                                                        · replace h := ite_t rfl h
                                                                          try cbv
                                                                          obtain rfl := Option.some.inj h
                                                                          refine fin_go ?_
                                                                          try cbv
                                                                          exact ⟨[], rfl, rfl, trivial, trivial, trivial⟩
                                                                      · replace h := ite_f (Int.not_le.2 e) h
                                                                        clear e
                                                                        try cbv
                                                                        obtain rfl := Option.some.inj h
                                                                        refine fin_go ?_
                                                                        try cbv
                                                                        exact ⟨[], rfl, rfl, trivial, trivial, trivial⟩
                                                                    · replace h := ite_f (Int.not_le.2 e) h
                                                                      clear e
                                                                      try cbv
                                                                      obtain rfl := Option.some.inj h
                                                                      refine fin_go ?_
                                                                      try cbv
                                                                      exact ⟨[], rfl, rfl, trivial, trivial, trivial⟩
                                                                  · replace h := ite_f e h
                                                                    clear e
                                                                    try cbv
                                                                    refine splitI (fun e => ?_) (fun e => ?_)
                                                                    · replace h := ite_t e h
                                                                      clear e
                                                                      try cbv
                                                                      refine splitI (fun e => ?_) (fun e => ?_)
                                                                      · replace h := ite_t e h
                                                                        clear e
                                                                        try cbv
                                                                        replace h := bO1_inv h
                                                                        obtain ⟨b125, hr, h⟩ := h
                                                                        refine call_go rfl rfl ?_
                                                                        try cbv
                                                                        refine call_pure hM hI (T61 _ hr) rfl ?_
                                                                        clear hr
                                                                        try cbv
                                                                        cases b125
                                                                        · replace h := ite_f Bool.false_ne_true h
                                                                          try cbv
                                                                          obtain rfl := Option.some.inj h
                                                                          refine fin_go ?_
                                                                          try cbv
                                                                          exact ⟨[], rfl, rfl, trivial, trivial, trivial⟩
                                                                        · replace h := ite_t rfl h
                                                                          try cbv
                                                                          obtain rfl := Option.some.inj h
                                                                          refine fin_go ?_
                                                                          try cbv
                                                                          exact ⟨[], rfl, rfl, trivial, trivial, trivial⟩
                                                                      · replace h := ite_f e h
                                                                        clear e
                                                                        try cbv
                                                                        refine splitI (fun e => ?_) (fun e => ?_)
                                                                        · replace h := ite_t e h
                                                                          clear e
                                                                          try cbv
                                                                          replace h := bO1_inv h
                                                                          obtain ⟨b126, hr, h⟩ := h
                                                                          refine call_go rfl rfl ?_
                                                                          try cbv
                                                                          refine call_pure hM hI (T61 _ hr) rfl ?_
                                                                          clear hr
                                                                          try cbv
                                                                          cases b126
                                                                          · replace h := ite_f Bool.false_ne_true h
                                                                            try cbv
                                                                            obtain rfl := Option.some.inj h
                                                                            refine fin_go ?_
                                                                            try cbv
                                                                            exact ⟨[], rfl, rfl, trivial, trivial, trivial⟩
                                                                          · replace h := ite_t rfl h
                                                                            try cbv
                                                                            obtain rfl := Option.some.inj h
                                                                            refine fin_go ?_
                                                                            try cbv
                                                                            exact ⟨[], rfl, rfl, trivial, trivial, trivial⟩
                                                                        · replace h := ite_f e h
                                                                          clear e
                                                                          try cbv
                                                                          obtain rfl := Option.some.inj h
                                                                          refine fin_go ?_
                                                                          try cbv
                                                                          exact ⟨[], rfl, rfl, trivial, trivial, trivial⟩
                                                                    · replace h := ite_f e h
                                                                      clear e
                                                                      try cbv
                                                                      refine splitI (fun e => ?_) (fun e => ?_)
                                                                      · replace h := ite_t e h
                                                                        clear e
                                                                        try cbv
                                                                        refine splitLe (fun e => ?_) (fun e => ?_)
                                                                        · replace h := ite_t e h
                                                                          clear e
                                                                          try cbv
                                                                          refine splitLe (fun e => ?_) (fun e => ?_)
                                                                          · replace h := ite_t e h
                                                                            clear e
                                                                            try cbv
                                                                            replace h := bO1_inv h
                                                                            obtain ⟨b127, hr, h⟩ := h
                                                                            refine call_go rfl rfl ?_
                                                                            try cbv
                                                                            refine call_pure hM hI (T61 _ hr) rfl ?_
                                                                            clear hr
                                                                            try cbv
                                                                            cases b127
                                                                            · replace h := ite_f Bool.false_ne_true h
                                                                              try cbv
                                                                              obtain rfl := Option.some.inj h
                                                                              refine fin_go ?_
                                                                              try cbv
                                                                              exact ⟨[], rfl, rfl, trivial, trivial, trivial⟩
                                                                            · replace h := ite_t rfl h
                                                                              try cbv
                                                                              obtain rfl := Option.some.inj h
                                                                              refine fin_go ?_
                                                                              try cbv
                                                                              exact ⟨[], rfl, rfl, trivial, trivial, trivial⟩
                                                                          · replace h := ite_f (Int.not_le.2 e) h
                                                                            clear e
                                                                            try cbv
                                                                            obtain rfl := Option.some.inj h
                                                                            refine fin_go ?_
                                                                            try cbv
                                                                            exact ⟨[], rfl, rfl, trivial, trivial, trivial⟩
                                                                        · replace h := ite_f (Int.not_le.2 e) h
                                                                          clear e
                                                                          try cbv
                                                                          obtain rfl := Option.some.inj h
                                                                          refine fin_go ?_
                                                                          try cbv
                                                                          exact ⟨[], rfl, rfl, trivial, trivial, trivial⟩
                                                                      · replace h := ite_f e h
                                                                        clear e
                                                                        try cbv
                                                                        refine splitI (fun e => ?_) (fun e => ?_)
                                                                        · replace h := ite_t e h
                                                                          clear e
                                                                          try cbv
                                                                          refine splitLe (fun e => ?_) (fun e => ?_)
                                                                          · replace h := ite_t e h
                                                                            clear e
                                                                            try cbv
                                                                            refine splitL (fun e => ?_) (fun e => ?_)
                                                                            · replace h := ite_t e h
                                                                              clear e
                                                                              try cbv
                                                                              refine splitLe (fun e => ?_) (fun e => ?_)
                                                                              · replace h := ite_t e h
                                                                                clear e
                                                                                try cbv
                                                                                refine splitL (fun e => ?_) (fun e => ?_)
                                                                                · replace h := ite_t e h
                                                                                  clear e
                                                                                  try cbv
                                                                                  replace h := bO1_inv h
                                                                                  obtain ⟨b128, hr, h⟩ := h
                                                                                  refine call_go rfl rfl ?_
                                                                                  try cbv
                                                                                  refine call_pure hM hI (T59 _ hr) rfl ?_
                                                                                  clear hr
                                                                                  try cbv
                                                                                  cases b128
                                                                                  · replace h := ite_f Bool.false_ne_true h
                                                                                    try cbv
                                                                                    obtain rfl := Option.some.inj h
                                                                                    refine fin_go ?_
                                                                                    try cbv
                                                                                    exact ⟨[], rfl, rfl, trivial, trivial, trivial⟩
                                                                                  · replace h := ite_t rfl h
                                                                                    try cbv
                                                                                    replace h := bO1_inv h
                                                                                    obtain ⟨b129, hr, h⟩ := h
                                                                                    refine call_go rfl rfl ?_
                                                                                    try cbv
                                                                                    refine call_pure hM hI (T61 _ hr) rfl ?_
                                                                                    clear hr
                                                                                    try cbv
                                                                                    cases b129
                                                                                    · replace h := ite_f Bool.false_ne_true h
                                                                                      try cbv
                                                                                      obtain rfl := Option.some.inj h
                                                                                      refine fin_go ?_
                                                                                      try cbv
                                                                                      exact ⟨[], rfl, rfl, trivial, trivial, trivial⟩
                                                                                    · replace h := ite_t rfl h
                                                                                      try cbv
                                                                                      obtain rfl := Option.some.inj h
                                                                                      refine fin_go ?_
                                                                                      try cbv
                                                                                      exact ⟨[], rfl, rfl, trivial, trivial, trivial⟩
                                                                                · replace h := ite_f (Int.not_lt.2 e) h
                                                                                  clear e
                                                                                  try cbv
                                                                                  obtain rfl := Option.some.inj h
                                                                                  refine fin_go ?_
                                                                                  try cbv
                                                                                  exact ⟨[], rfl, rfl, trivial, trivial, trivial⟩
                                                                              · replace h := ite_f (Int.not_le.2 e) h
                                                                                clear e
                                                                                try cbv
                                                                                obtain rfl := Option.some.inj h
                                                                                refine fin_go ?_
                                                                                try cbv
                                                                                exact ⟨[], rfl, rfl, trivial, trivial, trivial⟩
                                                                            · replace h := ite_f (Int.not_lt.2 e) h
                                                                              clear e
                                                                              try cbv
                                                                              obtain rfl := Option.some.inj h
                                                                              refine fin_go ?_
                                                                              try cbv
                                                                              exact ⟨[], rfl, rfl, trivial, trivial, trivial⟩
                                                                          · replace h := ite_f (Int.not_le.2 e) h
                                                                            clear e
                                                                            try cbv
                                                                            obtain rfl := Option.some.inj h
                                                                            refine fin_go ?_
                                                                            try cbv
                                                                            exact ⟨[], rfl, rfl, trivial, trivial, trivial⟩
                                                                        · replace h := ite_f e h
                                                                          clear e
                                                                          try cbv
                                                                          obtain rfl := Option.some.inj h
                                                                          refine fin_go ?_
                                                                          try cbv
                                                                          exact ⟨[], rfl, rfl, trivial, trivial, trivial⟩
end Go.Proofs.YtjobleemmjjocaaDoor
end

/- Chapter 17, the plain law, part C: the document's answer is an instruction's row. Printed in part by cdc.py. No condition. -/
set_option linter.unusedVariables false
set_option linter.unusedSectionVars false
noncomputable section
namespace Go.Proofs.YtjobleemmjjocaaDoor
open Go Go.AM

def zB (l : List D) : Bool := decide ((l.length : Int) = 0)
theorem nilB_eq (l : List D) : nilB l = zB l := by
  unfold nilB zB
  by_cases h : (l.length : Int) = 0
  · simp [h]
  · have : ¬ (l.length : Int) ≤ 0 := by omega
    simp only [h, this]
theorem zB_all {l : List D} (h : zB l = true) (p : D → Bool) : l.all p = true ∧ (l.length : Int) ≤ 40 ∧ (l.length : Int) ≤ 6 := by
  have h := of_decide_eq_true h
  have : l = [] := List.length_eq_zero_iff.1 (by omega)
  subst this
  simp
def blankB (a b c : Int) (l9 l10 : List D) (i : Int) (s12 : ByteArray) (l13 : List D) : Bool :=
  decide (a = 0) && decide (b = 0) && decide (c = 0) && zB l9 && zB l10 && decide (i = 0) && decide (s12 = ByteArray.empty) && zB l13
theorem e61 (n : Nat) (z1 z2 z3 z4 : Int) (l5 l6 : List D) (z7 : Int) (s8 : ByteArray) (l9 : List D) : F61 n z1 z2 z3 z4 l5 l6 z7 s8 l9 = some (blankB z2 z3 z4 l5 l6 z7 s8 l9) := by
  unfold F61 blankB zB
  simp only [lenF]
  by_cases h1 : z2 = 0
  rotate_left
  · simp [h1]
  by_cases h2 : z3 = 0
  rotate_left
  · simp [h2]
  by_cases h3 : z4 = 0
  rotate_left
  · simp [h3]
  by_cases h4 : (l5.length : Int) = 0
  rotate_left
  · simp only [h4]; simp
  by_cases h5 : (l6.length : Int) = 0
  rotate_left
  · simp only [h5]; simp
  by_cases h6 : z7 = 0
  rotate_left
  · simp [h6]
  by_cases h7 : s8 = ByteArray.empty
  rotate_left
  · simp [h7]
  by_cases h8 : (l9.length : Int) = 0 <;> simp only [h1, h2, h3, h4, h5, h6, h7, h8] <;> simp
/-- A row, its fields together. -/
theorem insB_eq (l1 : List D) (sl en : Int) (s : ByteArray) (A B : Int) (p t w m : Bool) (kd : List D) (op a b c : Int) (l9 l10 : List D) (i : Int) (s12 : ByteArray) (l13 : List D) :
    insB l1 sl en (s, A, B, p, t, w, m, kd, true) op a b c l9 l10 i s12 l13 = (decide (c = 0) && zB l13 && wholeB w op a i && (m == !decide (s12 = ByteArray.empty)) && (!m || okName s12) &&
      (cond p (decide ((l10.length : Int) ≤ 40) && l10.all stepOk) (zB l10)) && (cond t (decide ((l9.length : Int) ≤ 6) && l9.all (inB en)) (zB l9)) && fitsB l1 sl en kd op a A a && fitsB l1 sl en kd op a B b) := by
  unfold insB
  simp only [nilB_eq]
  have h1 := @zB_all l10
  have h2 := @zB_all l9
  have k1 : ((zB l10 || p) && decide ((l10.length : Int) ≤ 40) && l10.all stepOk) = cond p (decide ((l10.length : Int) ≤ 40) && l10.all stepOk) (zB l10) := by
    cases h : zB l10
    · cases p <;> simp
    · obtain ⟨e1, e2, e3⟩ := h1 h stepOk
      cases p <;> simp only [e1, e2, decide_true] <;> rfl
  have k2 : ((zB l9 || t) && decide ((l9.length : Int) ≤ 6) && l9.all (inB en)) = cond t (decide ((l9.length : Int) ≤ 6) && l9.all (inB en)) (zB l9) := by
    cases h : zB l9
    · cases t <;> simp
    · obtain ⟨e1, e2, e3⟩ := h2 h (inB en)
      cases t <;> simp only [e1, e3, decide_true] <;> rfl
  rw [← k1, ← k2]
  simp only [Bool.and_assoc, Bool.true_and]
theorem okName_ne {s : ByteArray} (h : okName s = true) : decide (s = ByteArray.empty) = false := by
  refine decide_eq_false (fun e => ?_)
  subst e
  exact absurd h (by decide)
theorem path40 (l : List D) : decide (l.length ≤ 40) = decide ((l.length : Int) ≤ 40) := decide_eq_decide.2 (by omega)

theorem evL34_1 {l9 : List D} (h9 : ListS tab 3 l9) (op a b c : Int) (l10 : List D) (i : Int) (l13 : List D) (en : Int) : ∀ j, j ≤ l9.length →
    Ev (fun n => L34_1 n op a b c l9 l10 i l13 en true (j : Int)) (rc ((l9.drop j).all (inB en) && blankB a b c [] l10 i ByteArray.empty l13)) := by
  have stop : ∀ j, j < l9.length + 1 → Ev (fun n => L34_1 n op a b c l9 l10 i l13 en false (j : Int)) 170 := fun j hj => by
    refine Ev.succ ?_
    by_cases h : (j : Int) < l9.length <;> simp only [L34_1, lenF, h, if_true, if_false, if_neg Bool.false_ne_true] <;> exact Ev.ret
  refine down l9.length ?_ (fun j hj ih => ?_)
  · refine Ev.succ ?_
    simp only [L34_1, lenF, Int.lt_irrefl, if_false, if_true, e61, bO1, List.drop_length, List.all_nil, Bool.true_and]
    cases blankB a b c [] l10 i ByteArray.empty l13 <;> exact Ev.ret
  · obtain ⟨x, hx, hm, hr⟩ := h9.get hj
    obtain ⟨z, rfl, _⟩ := rs3 hr
    rw [all_drop hx]
    refine Ev.succ ?_
    by_cases g1 : 0 ≤ z
    · by_cases g2 : z ≤ en
      · have e : inB en (.int .i64 z) = true := by simp [inB, g1, g2]
        rw [e, Bool.true_and]
        simpa only [L34_1, lenF, letF, if_pos (ilt hj), if_true, getF_nat hx, ds_i64, if_pos g1, if_pos g2, wrap_succ hj h9.1] using ih
      · have e : inB en (.int .i64 z) = false := by simp [inB, g1, g2]
        rw [e, Bool.false_and, Bool.false_and, show rc false = 170 from rfl]
        simpa only [L34_1, lenF, letF, if_pos (ilt hj), if_true, getF_nat hx, ds_i64, if_pos g1, if_neg g2, wrap_succ hj h9.1] using stop (j + 1) (by omega)
    · have e : inB en (.int .i64 z) = false := by simp [inB, g1]
      rw [e, Bool.false_and, Bool.false_and, show rc false = 170 from rfl]
      simpa only [L34_1, lenF, letF, if_pos (ilt hj), if_true, getF_nat hx, ds_i64, if_neg g1, wrap_succ hj h9.1] using stop (j + 1) (by omega)
theorem evL34_2 (l9 : List D) (op a b c : Int) (l10 : List D) (i : Int) (l13 : List D) (en j : Int) : Ev (fun n => L34_2 n op a b c l9 l10 i l13 en false j) 170 := by
  refine Ev.succ ?_
  by_cases h : j < l9.length <;> simp only [L34_2, lenF, h, if_true, if_false, if_neg Bool.false_ne_true] <;> exact Ev.ret
theorem evL34_3 (l9 : List D) (op a b c : Int) (l10 : List D) (i : Int) (l13 : List D) (en j : Int) : Ev (fun n => L34_3 n op a b c l9 l10 i l13 en false j) 170 := by
  refine Ev.succ ?_
  by_cases h : j < l9.length <;> simp only [L34_3, lenF, h, if_true, if_false, if_neg Bool.false_ne_true] <;> exact Ev.ret

theorem rc_some (b : Bool) : (if b = true then some (0 : Int) else some 170) = some (rc b) := by cases b <;> rfl
theorem rc_if (p : Prop) [Decidable p] (b : Bool) : (if p then some (rc b) else some 170) = some (rc (decide p && b)) := by by_cases h : p <;> simp [h, rc]
theorem rc_ifB (q b : Bool) : (if q = true then some (rc b) else some 170) = some (rc (q && b)) := by cases q <;> simp [rc]
theorem rc_or (p : Prop) [Decidable p] (u v : Bool) : (if p then some (rc u) else some (rc v)) = some (rc (cond (decide p) u v)) := by by_cases h : p <;> simp [h]

section
variable {l1 : List D} (hF : ListS tab 56 l1) {x : Nat} {nm : ByteArray} {pa sl : Int} {cd : List D} (hx : l1[x]? = some (.agg [.str nm, .int .i64 pa, .int .i64 sl, .list true 9 cd]))
  {a b c i : Int} {l9 l10 l13 : List D} {s12 : ByteArray} (h9 : ListS tab 3 l9) (h10 : ListS tab 9 l10) (z2 : Int) (l3 : List D)
include hF hx h9 h10

theorem rf1 : Ev (fun n => F34 n l1 z2 l3 (x : Int) 1 a b c l9 l10 i s12 l13) (rc (insB l1 sl cd.length (k_live, 1, 0, false, false, false, false, [], true) 1 a b c l9 l10 i s12 l13)) := by
  have hlt := (List.getElem?_eq_some_iff.1 hx).1
  rw [insB_eq]
  refine ⟨0, fun n _ => ?_⟩
  show F34 n _ _ _ _ _ _ _ _ _ _ _ _ _ = _
  unfold F34
  simp only [getF_nat hx, ds_t56, lenF, if_neg (by omega : ¬ (x : Int) < 0), if_neg (by omega : ¬ (l1.length : Int) ≤ x), e60, e61, bO1, rc_some, rc_if, rc_ifB, rc_or, ↓reduceIte, Int.reduceEq]
  congr 2
  simp only [wholeB, fitsB, blankB, cond_true, cond_false, Int.reduceEq, if_true, if_false, List.any_cons, List.any_nil, isI, Bool.not_true, Bool.not_false, Bool.true_or, Bool.false_or, Bool.or_false, decide_true, Bool.true_and, Bool.and_true, Bool.false_eq_true]
  grind
theorem rf2 : Ev (fun n => F34 n l1 z2 l3 (x : Int) 2 a b c l9 l10 i s12 l13) (rc (insB l1 sl cd.length (k_dead, 1, 0, false, false, false, false, [], true) 2 a b c l9 l10 i s12 l13)) := by
  have hlt := (List.getElem?_eq_some_iff.1 hx).1
  rw [insB_eq]
  refine ⟨0, fun n _ => ?_⟩
  show F34 n _ _ _ _ _ _ _ _ _ _ _ _ _ = _
  unfold F34
  simp only [getF_nat hx, ds_t56, lenF, if_neg (by omega : ¬ (x : Int) < 0), if_neg (by omega : ¬ (l1.length : Int) ≤ x), e60, e61, bO1, rc_some, rc_if, rc_ifB, rc_or, ↓reduceIte, Int.reduceEq]
  congr 2
  simp only [wholeB, fitsB, blankB, cond_true, cond_false, Int.reduceEq, if_true, if_false, List.any_cons, List.any_nil, isI, Bool.not_true, Bool.not_false, Bool.true_or, Bool.false_or, Bool.or_false, decide_true, Bool.true_and, Bool.and_true, Bool.false_eq_true]
  grind
theorem rf3 : Ev (fun n => F34 n l1 z2 l3 (x : Int) 3 a b c l9 l10 i s12 l13) (rc (insB l1 sl cd.length (k_const, 4, 0, false, false, true, false, [.int .i64 1, .int .i64 2, .int .i64 3], true) 3 a b c l9 l10 i s12 l13)) := by
  have hlt := (List.getElem?_eq_some_iff.1 hx).1
  rw [insB_eq]
  refine ⟨0, fun n _ => ?_⟩
  show F34 n _ _ _ _ _ _ _ _ _ _ _ _ _ = _
  unfold F34
  simp only [getF_nat hx, ds_t56, lenF, if_neg (by omega : ¬ (x : Int) < 0), if_neg (by omega : ¬ (l1.length : Int) ≤ x), e60, e61, bO1, rc_some, rc_if, rc_ifB, rc_or, ↓reduceIte, Int.reduceEq]
  congr 2
  simp only [wholeB, fitsB, blankB, cond_true, cond_false, Int.reduceEq, if_true, if_false, List.any_cons, List.any_nil, isI, Bool.not_true, Bool.not_false, Bool.true_or, Bool.false_or, Bool.or_false, decide_true, Bool.true_and, Bool.and_true, Bool.false_eq_true]
  grind
theorem rf4 : Ev (fun n => F34 n l1 z2 l3 (x : Int) 4 a b c l9 l10 i s12 l13) (rc (insB l1 sl cd.length (k_use, 1, 0, true, false, false, false, [], true) 4 a b c l9 l10 i s12 l13)) := by
  have hlt := (List.getElem?_eq_some_iff.1 hx).1
  rw [insB_eq]
  obtain ⟨N, hN⟩ := ev59 h10
  refine ⟨N, fun n hn => ?_⟩
  have hN : F59 n l10 = _ := hN n hn
  show F34 n _ _ _ _ _ _ _ _ _ _ _ _ _ = _
  unfold F34
  simp only [getF_nat hx, ds_t56, lenF, if_neg (by omega : ¬ (x : Int) < 0), if_neg (by omega : ¬ (l1.length : Int) ≤ x), e60, e61, bO1, rc_some, rc_if, rc_ifB, rc_or, ↓reduceIte, Int.reduceEq, hN, path40]
  congr 2
  simp only [wholeB, fitsB, blankB, cond_true, cond_false, Int.reduceEq, if_true, if_false, Bool.not_true, Bool.not_false, Bool.true_or, Bool.false_or, Bool.or_false, decide_true, Bool.true_and, Bool.and_true, Bool.false_eq_true, zB, List.length_nil, Int.natCast_zero]
  grind
theorem rf5 : Ev (fun n => F34 n l1 z2 l3 (x : Int) 5 a b c l9 l10 i s12 l13) (rc (insB l1 sl cd.length (k_ref, 1, 0, true, false, false, false, [], true) 5 a b c l9 l10 i s12 l13)) := by
  have hlt := (List.getElem?_eq_some_iff.1 hx).1
  rw [insB_eq]
  obtain ⟨N, hN⟩ := ev59 h10
  refine ⟨N, fun n hn => ?_⟩
  have hN : F59 n l10 = _ := hN n hn
  show F34 n _ _ _ _ _ _ _ _ _ _ _ _ _ = _
  unfold F34
  simp only [getF_nat hx, ds_t56, lenF, if_neg (by omega : ¬ (x : Int) < 0), if_neg (by omega : ¬ (l1.length : Int) ≤ x), e60, e61, bO1, rc_some, rc_if, rc_ifB, rc_or, ↓reduceIte, Int.reduceEq, hN, path40]
  congr 2
  simp only [wholeB, fitsB, blankB, cond_true, cond_false, Int.reduceEq, if_true, if_false, Bool.not_true, Bool.not_false, Bool.true_or, Bool.false_or, Bool.or_false, decide_true, Bool.true_and, Bool.and_true, Bool.false_eq_true, zB, List.length_nil, Int.natCast_zero]
  grind
theorem rf6 : Ev (fun n => F34 n l1 z2 l3 (x : Int) 6 a b c l9 l10 i s12 l13) (rc (insB l1 sl cd.length (k_mut, 1, 0, true, false, false, false, [], true) 6 a b c l9 l10 i s12 l13)) := by
  have hlt := (List.getElem?_eq_some_iff.1 hx).1
  rw [insB_eq]
  obtain ⟨N, hN⟩ := ev59 h10
  refine ⟨N, fun n hn => ?_⟩
  have hN : F59 n l10 = _ := hN n hn
  show F34 n _ _ _ _ _ _ _ _ _ _ _ _ _ = _
  unfold F34
  simp only [getF_nat hx, ds_t56, lenF, if_neg (by omega : ¬ (x : Int) < 0), if_neg (by omega : ¬ (l1.length : Int) ≤ x), e60, e61, bO1, rc_some, rc_if, rc_ifB, rc_or, ↓reduceIte, Int.reduceEq, hN, path40]
  congr 2
  simp only [wholeB, fitsB, blankB, cond_true, cond_false, Int.reduceEq, if_true, if_false, Bool.not_true, Bool.not_false, Bool.true_or, Bool.false_or, Bool.or_false, decide_true, Bool.true_and, Bool.and_true, Bool.false_eq_true, zB, List.length_nil, Int.natCast_zero]
  grind
theorem rf7 : Ev (fun n => F34 n l1 z2 l3 (x : Int) 7 a b c l9 l10 i s12 l13) (rc (insB l1 sl cd.length (k_put, 1, 0, true, false, false, false, [], true) 7 a b c l9 l10 i s12 l13)) := by
  have hlt := (List.getElem?_eq_some_iff.1 hx).1
  rw [insB_eq]
  obtain ⟨N, hN⟩ := ev59 h10
  refine ⟨N, fun n hn => ?_⟩
  have hN : F59 n l10 = _ := hN n hn
  show F34 n _ _ _ _ _ _ _ _ _ _ _ _ _ = _
  unfold F34
  simp only [getF_nat hx, ds_t56, lenF, if_neg (by omega : ¬ (x : Int) < 0), if_neg (by omega : ¬ (l1.length : Int) ≤ x), e60, e61, bO1, rc_some, rc_if, rc_ifB, rc_or, ↓reduceIte, Int.reduceEq, hN, path40]
  congr 2
  simp only [wholeB, fitsB, blankB, cond_true, cond_false, Int.reduceEq, if_true, if_false, Bool.not_true, Bool.not_false, Bool.true_or, Bool.false_or, Bool.or_false, decide_true, Bool.true_and, Bool.and_true, Bool.false_eq_true, zB, List.length_nil, Int.natCast_zero]
  grind
theorem rf8 : Ev (fun n => F34 n l1 z2 l3 (x : Int) 8 a b c l9 l10 i s12 l13) (rc (insB l1 sl cd.length (k_drop, 1, 0, true, false, false, false, [], true) 8 a b c l9 l10 i s12 l13)) := by
  have hlt := (List.getElem?_eq_some_iff.1 hx).1
  rw [insB_eq]
  obtain ⟨N, hN⟩ := ev59 h10
  refine ⟨N, fun n hn => ?_⟩
  have hN : F59 n l10 = _ := hN n hn
  show F34 n _ _ _ _ _ _ _ _ _ _ _ _ _ = _
  unfold F34
  simp only [getF_nat hx, ds_t56, lenF, if_neg (by omega : ¬ (x : Int) < 0), if_neg (by omega : ¬ (l1.length : Int) ≤ x), e60, e61, bO1, rc_some, rc_if, rc_ifB, rc_or, ↓reduceIte, Int.reduceEq, hN, path40]
  congr 2
  simp only [wholeB, fitsB, blankB, cond_true, cond_false, Int.reduceEq, if_true, if_false, Bool.not_true, Bool.not_false, Bool.true_or, Bool.false_or, Bool.or_false, decide_true, Bool.true_and, Bool.and_true, Bool.false_eq_true, zB, List.length_nil, Int.natCast_zero]
  grind
theorem rf9 : Ev (fun n => F34 n l1 z2 l3 (x : Int) 9 a b c l9 l10 i s12 l13) (rc (insB l1 sl cd.length (k_unary, 4, 0, false, false, false, false, [.int .i64 7, .int .i64 8], true) 9 a b c l9 l10 i s12 l13)) := by
  have hlt := (List.getElem?_eq_some_iff.1 hx).1
  rw [insB_eq]
  refine ⟨0, fun n _ => ?_⟩
  show F34 n _ _ _ _ _ _ _ _ _ _ _ _ _ = _
  unfold F34
  simp only [getF_nat hx, ds_t56, lenF, if_neg (by omega : ¬ (x : Int) < 0), if_neg (by omega : ¬ (l1.length : Int) ≤ x), e60, e61, bO1, rc_some, rc_if, rc_ifB, rc_or, ↓reduceIte, Int.reduceEq]
  congr 2
  simp only [wholeB, fitsB, blankB, cond_true, cond_false, Int.reduceEq, if_true, if_false, List.any_cons, List.any_nil, isI, Bool.not_true, Bool.not_false, Bool.true_or, Bool.false_or, Bool.or_false, decide_true, Bool.true_and, Bool.and_true, Bool.false_eq_true]
  grind
theorem rf10 : Ev (fun n => F34 n l1 z2 l3 (x : Int) 10 a b c l9 l10 i s12 l13) (rc (insB l1 sl cd.length (k_binary, 4, 0, false, false, false, false, [.int .i64 9, .int .i64 10, .int .i64 11, .int .i64 12, .int .i64 13, .int .i64 14, .int .i64 15, .int .i64 16, .int .i64 17], true) 10 a b c l9 l10 i s12 l13)) := by
  have hlt := (List.getElem?_eq_some_iff.1 hx).1
  rw [insB_eq]
  refine ⟨0, fun n _ => ?_⟩
  show F34 n _ _ _ _ _ _ _ _ _ _ _ _ _ = _
  unfold F34
  simp only [getF_nat hx, ds_t56, lenF, if_neg (by omega : ¬ (x : Int) < 0), if_neg (by omega : ¬ (l1.length : Int) ≤ x), e60, e61, bO1, rc_some, rc_if, rc_ifB, rc_or, ↓reduceIte, Int.reduceEq]
  congr 2
  simp only [wholeB, fitsB, blankB, cond_true, cond_false, Int.reduceEq, if_true, if_false, List.any_cons, List.any_nil, isI, Bool.not_true, Bool.not_false, Bool.true_or, Bool.false_or, Bool.or_false, decide_true, Bool.true_and, Bool.and_true, Bool.false_eq_true]
  grind
theorem rf11 : Ev (fun n => F34 n l1 z2 l3 (x : Int) 11 a b c l9 l10 i s12 l13) (rc (insB l1 sl cd.length (k_struct, 0, 7, false, false, false, true, [], true) 11 a b c l9 l10 i s12 l13)) := by
  have hlt := (List.getElem?_eq_some_iff.1 hx).1
  rw [insB_eq]
  refine ⟨0, fun n _ => ?_⟩
  show F34 n _ _ _ _ _ _ _ _ _ _ _ _ _ = _
  unfold F34
  simp only [getF_nat hx, ds_t56, lenF, if_neg (by omega : ¬ (x : Int) < 0), if_neg (by omega : ¬ (l1.length : Int) ≤ x), e60, e61, bO1, rc_some, rc_if, rc_ifB, rc_or, ↓reduceIte, Int.reduceEq]
  congr 2
  have e := @okName_ne s12
  simp only [wholeB, fitsB, blankB, cond_true, cond_false, Int.reduceEq, if_true, if_false, List.any_cons, List.any_nil, isI, Bool.not_true, Bool.not_false, Bool.true_or, Bool.false_or, Bool.or_false, decide_true, Bool.true_and, Bool.and_true, Bool.false_eq_true]
  grind
theorem rf12 : Ev (fun n => F34 n l1 z2 l3 (x : Int) 12 a b c l9 l10 i s12 l13) (rc (insB l1 sl cd.length (k_enum, 7, 6, false, false, false, true, [], true) 12 a b c l9 l10 i s12 l13)) := by
  have hlt := (List.getElem?_eq_some_iff.1 hx).1
  rw [insB_eq]
  refine ⟨0, fun n _ => ?_⟩
  show F34 n _ _ _ _ _ _ _ _ _ _ _ _ _ = _
  unfold F34
  simp only [getF_nat hx, ds_t56, lenF, if_neg (by omega : ¬ (x : Int) < 0), if_neg (by omega : ¬ (l1.length : Int) ≤ x), e60, e61, bO1, rc_some, rc_if, rc_ifB, rc_or, ↓reduceIte, Int.reduceEq]
  congr 2
  have e := @okName_ne s12
  simp only [wholeB, fitsB, blankB, cond_true, cond_false, Int.reduceEq, if_true, if_false, List.any_cons, List.any_nil, isI, Bool.not_true, Bool.not_false, Bool.true_or, Bool.false_or, Bool.or_false, decide_true, Bool.true_and, Bool.and_true, Bool.false_eq_true]
  grind
theorem rf13 : Ev (fun n => F34 n l1 z2 l3 (x : Int) 13 a b c l9 l10 i s12 l13) (rc (insB l1 sl cd.length (k_split, 0, 7, false, false, false, true, [], true) 13 a b c l9 l10 i s12 l13)) := by
  have hlt := (List.getElem?_eq_some_iff.1 hx).1
  rw [insB_eq]
  refine ⟨0, fun n _ => ?_⟩
  show F34 n _ _ _ _ _ _ _ _ _ _ _ _ _ = _
  unfold F34
  simp only [getF_nat hx, ds_t56, lenF, if_neg (by omega : ¬ (x : Int) < 0), if_neg (by omega : ¬ (l1.length : Int) ≤ x), e60, e61, bO1, rc_some, rc_if, rc_ifB, rc_or, ↓reduceIte, Int.reduceEq]
  congr 2
  have e := @okName_ne s12
  simp only [wholeB, fitsB, blankB, cond_true, cond_false, Int.reduceEq, if_true, if_false, List.any_cons, List.any_nil, isI, Bool.not_true, Bool.not_false, Bool.true_or, Bool.false_or, Bool.or_false, decide_true, Bool.true_and, Bool.and_true, Bool.false_eq_true]
  grind
theorem rf14 : Ev (fun n => F34 n l1 z2 l3 (x : Int) 14 a b c l9 l10 i s12 l13) (rc (insB l1 sl cd.length (k_jump, 2, 0, false, false, false, false, [], true) 14 a b c l9 l10 i s12 l13)) := by
  have hlt := (List.getElem?_eq_some_iff.1 hx).1
  rw [insB_eq]
  refine ⟨0, fun n _ => ?_⟩
  show F34 n _ _ _ _ _ _ _ _ _ _ _ _ _ = _
  unfold F34
  simp only [getF_nat hx, ds_t56, lenF, if_neg (by omega : ¬ (x : Int) < 0), if_neg (by omega : ¬ (l1.length : Int) ≤ x), e60, e61, bO1, rc_some, rc_if, rc_ifB, rc_or, ↓reduceIte, Int.reduceEq]
  congr 2
  simp only [wholeB, fitsB, blankB, cond_true, cond_false, Int.reduceEq, if_true, if_false, List.any_cons, List.any_nil, isI, Bool.not_true, Bool.not_false, Bool.true_or, Bool.false_or, Bool.or_false, decide_true, Bool.true_and, Bool.and_true, Bool.false_eq_true]
  grind
theorem rf15 : Ev (fun n => F34 n l1 z2 l3 (x : Int) 15 a b c l9 l10 i s12 l13) (rc (insB l1 sl cd.length (k_branch, 2, 0, false, false, false, false, [], true) 15 a b c l9 l10 i s12 l13)) := by
  have hlt := (List.getElem?_eq_some_iff.1 hx).1
  rw [insB_eq]
  refine ⟨0, fun n _ => ?_⟩
  show F34 n _ _ _ _ _ _ _ _ _ _ _ _ _ = _
  unfold F34
  simp only [getF_nat hx, ds_t56, lenF, if_neg (by omega : ¬ (x : Int) < 0), if_neg (by omega : ¬ (l1.length : Int) ≤ x), e60, e61, bO1, rc_some, rc_if, rc_ifB, rc_or, ↓reduceIte, Int.reduceEq]
  congr 2
  simp only [wholeB, fitsB, blankB, cond_true, cond_false, Int.reduceEq, if_true, if_false, List.any_cons, List.any_nil, isI, Bool.not_true, Bool.not_false, Bool.true_or, Bool.false_or, Bool.or_false, decide_true, Bool.true_and, Bool.and_true, Bool.false_eq_true]
  grind
theorem rf16 : Ev (fun n => F34 n l1 z2 l3 (x : Int) 16 a b c l9 l10 i s12 l13) (rc (insB l1 sl cd.length (k_switch, 0, 0, false, true, false, true, [], true) 16 a b c l9 l10 i s12 l13)) := by
  have hlt := (List.getElem?_eq_some_iff.1 hx).1
  rw [insB_eq]
  by_cases g : okName s12 = true
  rotate_left
  · obtain ⟨N, hN⟩ := evL34_3 l9 16 a b c l10 i l13 cd.length 0
    refine ⟨N, fun n hn => ?_⟩
    have hN : L34_3 n _ _ _ _ _ _ _ _ _ _ _ = _ := hN n hn
    show F34 n _ _ _ _ _ _ _ _ _ _ _ _ _ = _
    unfold F34
    have g : okName s12 = false := by simpa using g
    simp only [getF_nat hx, ds_t56, lenF, if_neg (by omega : ¬ (x : Int) < 0), if_neg (by omega : ¬ (l1.length : Int) ≤ x), e60, e61, bO1, rc_some, rc_if, rc_ifB, rc_or, ↓reduceIte, Int.reduceEq, g, hN, if_neg Bool.false_ne_true]
    simp [rc]
  by_cases g2 : (l9.length : Int) ≤ 6
  rotate_left
  · obtain ⟨N, hN⟩ := evL34_2 l9 16 a b c l10 i l13 cd.length 0
    refine ⟨N, fun n hn => ?_⟩
    have hN : L34_2 n _ _ _ _ _ _ _ _ _ _ _ = _ := hN n hn
    show F34 n _ _ _ _ _ _ _ _ _ _ _ _ _ = _
    unfold F34
    simp only [getF_nat hx, ds_t56, lenF, if_neg (by omega : ¬ (x : Int) < 0), if_neg (by omega : ¬ (l1.length : Int) ≤ x), e60, e61, bO1, rc_some, rc_if, rc_ifB, rc_or, ↓reduceIte, Int.reduceEq, g, hN, if_true, if_neg g2]
    simp only [cond_true, g2, decide_false, Bool.false_and, Bool.and_false]; rfl
  obtain ⟨N, hN⟩ := evL34_1 h9 16 a b c l10 i l13 cd.length 0 (Nat.zero_le _)
  refine ⟨N, fun n hn => ?_⟩
  have hN : L34_1 n _ _ _ _ _ _ _ _ _ _ (0 : Int) = _ := hN n hn
  show F34 n _ _ _ _ _ _ _ _ _ _ _ _ _ = _
  unfold F34
  simp only [getF_nat hx, ds_t56, lenF, if_neg (by omega : ¬ (x : Int) < 0), if_neg (by omega : ¬ (l1.length : Int) ≤ x), e60, e61, bO1, rc_some, rc_if, rc_ifB, rc_or, ↓reduceIte, Int.reduceEq, g, hN, if_true, if_pos g2]
  congr 2
  have e := okName_ne g
  simp only [List.drop_zero, wholeB, fitsB, blankB, cond_true, cond_false, Int.reduceEq, if_true, if_false, Bool.not_true, Bool.not_false, Bool.true_or, Bool.false_or, Bool.or_false, decide_true, Bool.true_and, Bool.and_true, Bool.false_eq_true, g2, g, e, zB, List.length_nil, Int.natCast_zero]
  grind
theorem rf17 : Ev (fun n => F34 n l1 z2 l3 (x : Int) 17 a b c l9 l10 i s12 l13) (rc (insB l1 sl cd.length (k_call, 3, 5, false, false, false, false, [], true) 17 a b c l9 l10 i s12 l13)) := by
  have hlt := (List.getElem?_eq_some_iff.1 hx).1
  rw [insB_eq]
  refine ⟨0, fun n _ => ?_⟩
  show F34 n _ _ _ _ _ _ _ _ _ _ _ _ _ = _
  unfold F34
  by_cases g1 : 0 ≤ a
  rotate_left
  · simp only [getF_nat hx, ds_t56, lenF, if_neg (by omega : ¬ (x : Int) < 0), if_neg (by omega : ¬ (l1.length : Int) ≤ x), e60, e61, bO1, rc_some, rc_if, rc_ifB, rc_or, ↓reduceIte, Int.reduceEq, if_neg g1]
    simp [rc, fitsB, g1]
  by_cases g2 : a < (l1.length : Int)
  rotate_left
  · simp only [getF_nat hx, ds_t56, lenF, if_neg (by omega : ¬ (x : Int) < 0), if_neg (by omega : ¬ (l1.length : Int) ≤ x), e60, e61, bO1, rc_some, rc_if, rc_ifB, rc_or, ↓reduceIte, Int.reduceEq, if_pos g1, if_neg g2]
    simp only [fitsB, Int.reduceEq, if_true, if_false, g2, decide_false, Bool.and_false, Bool.false_and]; rfl
  obtain ⟨y, rfl⟩ : ∃ y : Nat, a = y := ⟨a.toNat, by omega⟩
  obtain ⟨v, hy, hm, hr⟩ := hF.get (i := y) (by omega)
  obtain ⟨q0, q1, q2, q3, rfl, _⟩ := rs56 hr
  simp only [getF_nat hx, ds_t56, lenF, if_neg (by omega : ¬ (x : Int) < 0), if_neg (by omega : ¬ (l1.length : Int) ≤ x), e60, e61, bO1, rc_some, rc_if, rc_ifB, rc_or, ↓reduceIte, Int.reduceEq, if_pos g1, if_pos g2, getF_nat hy]
  simp only [wholeB, fitsB, parIs, Int.toNat_natCast, hy, blankB, cond_true, cond_false, Int.reduceEq, if_true, if_false, Bool.not_true, Bool.not_false, Bool.true_or, Bool.false_or, Bool.or_false, decide_true, Bool.true_and, Bool.and_true, Bool.false_eq_true, g1, g2]
  congr 2
  grind
theorem rf18 : Ev (fun n => F34 n l1 z2 l3 (x : Int) 18 a b c l9 l10 i s12 l13) (rc (insB l1 sl cd.length (k_return, 0, 0, false, false, false, false, [], true) 18 a b c l9 l10 i s12 l13)) := by
  have hlt := (List.getElem?_eq_some_iff.1 hx).1
  rw [insB_eq]
  refine ⟨0, fun n _ => ?_⟩
  show F34 n _ _ _ _ _ _ _ _ _ _ _ _ _ = _
  unfold F34
  simp only [getF_nat hx, ds_t56, lenF, if_neg (by omega : ¬ (x : Int) < 0), if_neg (by omega : ¬ (l1.length : Int) ≤ x), e60, e61, bO1, rc_some, rc_if, rc_ifB, rc_or, ↓reduceIte, Int.reduceEq]
  congr 2
  simp only [wholeB, fitsB, blankB, cond_true, cond_false, Int.reduceEq, if_true, if_false, List.any_cons, List.any_nil, isI, Bool.not_true, Bool.not_false, Bool.true_or, Bool.false_or, Bool.or_false, decide_true, Bool.true_and, Bool.and_true, Bool.false_eq_true]
  grind
theorem rf19 : Ev (fun n => F34 n l1 z2 l3 (x : Int) 19 a b c l9 l10 i s12 l13) (rc (insB l1 sl cd.length (k_wrap, 4, 0, false, false, false, false, [.int .i64 6, .int .i64 7, .int .i64 8, .int .i64 9, .int .i64 10, .int .i64 11], true) 19 a b c l9 l10 i s12 l13)) := by
  have hlt := (List.getElem?_eq_some_iff.1 hx).1
  rw [insB_eq]
  refine ⟨0, fun n _ => ?_⟩
  show F34 n _ _ _ _ _ _ _ _ _ _ _ _ _ = _
  unfold F34
  simp only [getF_nat hx, ds_t56, lenF, if_neg (by omega : ¬ (x : Int) < 0), if_neg (by omega : ¬ (l1.length : Int) ≤ x), e60, e61, bO1, rc_some, rc_if, rc_ifB, rc_or, ↓reduceIte, Int.reduceEq]
  congr 2
  simp only [wholeB, fitsB, blankB, cond_true, cond_false, Int.reduceEq, if_true, if_false, List.any_cons, List.any_nil, isI, Bool.not_true, Bool.not_false, Bool.true_or, Bool.false_or, Bool.or_false, decide_true, Bool.true_and, Bool.and_true, Bool.false_eq_true]
  grind
theorem rf20 : Ev (fun n => F34 n l1 z2 l3 (x : Int) 20 a b c l9 l10 i s12 l13) (rc (insB l1 sl cd.length (k_unwrap, 4, 0, false, false, false, false, [.int .i64 6, .int .i64 10], true) 20 a b c l9 l10 i s12 l13)) := by
  have hlt := (List.getElem?_eq_some_iff.1 hx).1
  rw [insB_eq]
  refine ⟨0, fun n _ => ?_⟩
  show F34 n _ _ _ _ _ _ _ _ _ _ _ _ _ = _
  unfold F34
  simp only [getF_nat hx, ds_t56, lenF, if_neg (by omega : ¬ (x : Int) < 0), if_neg (by omega : ¬ (l1.length : Int) ≤ x), e60, e61, bO1, rc_some, rc_if, rc_ifB, rc_or, ↓reduceIte, Int.reduceEq]
  congr 2
  simp only [wholeB, fitsB, blankB, cond_true, cond_false, Int.reduceEq, if_true, if_false, List.any_cons, List.any_nil, isI, Bool.not_true, Bool.not_false, Bool.true_or, Bool.false_or, Bool.or_false, decide_true, Bool.true_and, Bool.and_true, Bool.false_eq_true]
  grind
theorem rf21 : Ev (fun n => F34 n l1 z2 l3 (x : Int) 21 a b c l9 l10 i s12 l13) (rc (insB l1 sl cd.length (k_clone, 1, 0, true, false, false, false, [], true) 21 a b c l9 l10 i s12 l13)) := by
  have hlt := (List.getElem?_eq_some_iff.1 hx).1
  rw [insB_eq]
  obtain ⟨N, hN⟩ := ev59 h10
  refine ⟨N, fun n hn => ?_⟩
  have hN : F59 n l10 = _ := hN n hn
  show F34 n _ _ _ _ _ _ _ _ _ _ _ _ _ = _
  unfold F34
  simp only [getF_nat hx, ds_t56, lenF, if_neg (by omega : ¬ (x : Int) < 0), if_neg (by omega : ¬ (l1.length : Int) ≤ x), e60, e61, bO1, rc_some, rc_if, rc_ifB, rc_or, ↓reduceIte, Int.reduceEq, hN, path40]
  congr 2
  simp only [wholeB, fitsB, blankB, cond_true, cond_false, Int.reduceEq, if_true, if_false, Bool.not_true, Bool.not_false, Bool.true_or, Bool.false_or, Bool.or_false, decide_true, Bool.true_and, Bool.and_true, Bool.false_eq_true, zB, List.length_nil, Int.natCast_zero]
  grind
theorem rf22 : Ev (fun n => F34 n l1 z2 l3 (x : Int) 22 a b c l9 l10 i s12 l13) (rc (insB l1 sl cd.length (k_cellget, 1, 0, true, false, false, false, [], true) 22 a b c l9 l10 i s12 l13)) := by
  have hlt := (List.getElem?_eq_some_iff.1 hx).1
  rw [insB_eq]
  obtain ⟨N, hN⟩ := ev59 h10
  refine ⟨N, fun n hn => ?_⟩
  have hN : F59 n l10 = _ := hN n hn
  show F34 n _ _ _ _ _ _ _ _ _ _ _ _ _ = _
  unfold F34
  simp only [getF_nat hx, ds_t56, lenF, if_neg (by omega : ¬ (x : Int) < 0), if_neg (by omega : ¬ (l1.length : Int) ≤ x), e60, e61, bO1, rc_some, rc_if, rc_ifB, rc_or, ↓reduceIte, Int.reduceEq, hN, path40]
  congr 2
  simp only [wholeB, fitsB, blankB, cond_true, cond_false, Int.reduceEq, if_true, if_false, Bool.not_true, Bool.not_false, Bool.true_or, Bool.false_or, Bool.or_false, decide_true, Bool.true_and, Bool.and_true, Bool.false_eq_true, zB, List.length_nil, Int.natCast_zero]
  grind
theorem rf23 : Ev (fun n => F34 n l1 z2 l3 (x : Int) 23 a b c l9 l10 i s12 l13) (rc (insB l1 sl cd.length (k_cellset, 1, 0, true, false, false, false, [], true) 23 a b c l9 l10 i s12 l13)) := by
  have hlt := (List.getElem?_eq_some_iff.1 hx).1
  rw [insB_eq]
  obtain ⟨N, hN⟩ := ev59 h10
  refine ⟨N, fun n hn => ?_⟩
  have hN : F59 n l10 = _ := hN n hn
  show F34 n _ _ _ _ _ _ _ _ _ _ _ _ _ = _
  unfold F34
  simp only [getF_nat hx, ds_t56, lenF, if_neg (by omega : ¬ (x : Int) < 0), if_neg (by omega : ¬ (l1.length : Int) ≤ x), e60, e61, bO1, rc_some, rc_if, rc_ifB, rc_or, ↓reduceIte, Int.reduceEq, hN, path40]
  congr 2
  simp only [wholeB, fitsB, blankB, cond_true, cond_false, Int.reduceEq, if_true, if_false, Bool.not_true, Bool.not_false, Bool.true_or, Bool.false_or, Bool.or_false, decide_true, Bool.true_and, Bool.and_true, Bool.false_eq_true, zB, List.length_nil, Int.natCast_zero]
  grind
theorem rf24 : Ev (fun n => F34 n l1 z2 l3 (x : Int) 24 a b c l9 l10 i s12 l13) (rc (insB l1 sl cd.length (k_load, 1, 0, true, false, false, false, [], true) 24 a b c l9 l10 i s12 l13)) := by
  have hlt := (List.getElem?_eq_some_iff.1 hx).1
  rw [insB_eq]
  obtain ⟨N, hN⟩ := ev59 h10
  refine ⟨N, fun n hn => ?_⟩
  have hN : F59 n l10 = _ := hN n hn
  show F34 n _ _ _ _ _ _ _ _ _ _ _ _ _ = _
  unfold F34
  simp only [getF_nat hx, ds_t56, lenF, if_neg (by omega : ¬ (x : Int) < 0), if_neg (by omega : ¬ (l1.length : Int) ≤ x), e60, e61, bO1, rc_some, rc_if, rc_ifB, rc_or, ↓reduceIte, Int.reduceEq, hN, path40]
  congr 2
  simp only [wholeB, fitsB, blankB, cond_true, cond_false, Int.reduceEq, if_true, if_false, Bool.not_true, Bool.not_false, Bool.true_or, Bool.false_or, Bool.or_false, decide_true, Bool.true_and, Bool.and_true, Bool.false_eq_true, zB, List.length_nil, Int.natCast_zero]
  grind
theorem rf25 : Ev (fun n => F34 n l1 z2 l3 (x : Int) 25 a b c l9 l10 i s12 l13) (rc (insB l1 sl cd.length (k_store, 1, 0, true, false, false, false, [], true) 25 a b c l9 l10 i s12 l13)) := by
  have hlt := (List.getElem?_eq_some_iff.1 hx).1
  rw [insB_eq]
  obtain ⟨N, hN⟩ := ev59 h10
  refine ⟨N, fun n hn => ?_⟩
  have hN : F59 n l10 = _ := hN n hn
  show F34 n _ _ _ _ _ _ _ _ _ _ _ _ _ = _
  unfold F34
  simp only [getF_nat hx, ds_t56, lenF, if_neg (by omega : ¬ (x : Int) < 0), if_neg (by omega : ¬ (l1.length : Int) ≤ x), e60, e61, bO1, rc_some, rc_if, rc_ifB, rc_or, ↓reduceIte, Int.reduceEq, hN, path40]
  congr 2
  simp only [wholeB, fitsB, blankB, cond_true, cond_false, Int.reduceEq, if_true, if_false, Bool.not_true, Bool.not_false, Bool.true_or, Bool.false_or, Bool.or_false, decide_true, Bool.true_and, Bool.and_true, Bool.false_eq_true, zB, List.length_nil, Int.natCast_zero]
  grind
theorem rf26 : Ev (fun n => F34 n l1 z2 l3 (x : Int) 26 a b c l9 l10 i s12 l13) (rc (insB l1 sl cd.length (k_fetch, 1, 0, true, false, false, false, [], true) 26 a b c l9 l10 i s12 l13)) := by
  have hlt := (List.getElem?_eq_some_iff.1 hx).1
  rw [insB_eq]
  obtain ⟨N, hN⟩ := ev59 h10
  refine ⟨N, fun n hn => ?_⟩
  have hN : F59 n l10 = _ := hN n hn
  show F34 n _ _ _ _ _ _ _ _ _ _ _ _ _ = _
  unfold F34
  simp only [getF_nat hx, ds_t56, lenF, if_neg (by omega : ¬ (x : Int) < 0), if_neg (by omega : ¬ (l1.length : Int) ≤ x), e60, e61, bO1, rc_some, rc_if, rc_ifB, rc_or, ↓reduceIte, Int.reduceEq, hN, path40]
  congr 2
  simp only [wholeB, fitsB, blankB, cond_true, cond_false, Int.reduceEq, if_true, if_false, Bool.not_true, Bool.not_false, Bool.true_or, Bool.false_or, Bool.or_false, decide_true, Bool.true_and, Bool.and_true, Bool.false_eq_true, zB, List.length_nil, Int.natCast_zero]
  grind
theorem rf27 : Ev (fun n => F34 n l1 z2 l3 (x : Int) 27 a b c l9 l10 i s12 l13) (rc (insB l1 sl cd.length (k_chan, 0, 0, false, false, true, false, [], true) 27 a b c l9 l10 i s12 l13)) := by
  have hlt := (List.getElem?_eq_some_iff.1 hx).1
  rw [insB_eq]
  refine ⟨0, fun n _ => ?_⟩
  show F34 n _ _ _ _ _ _ _ _ _ _ _ _ _ = _
  unfold F34
  simp only [getF_nat hx, ds_t56, lenF, if_neg (by omega : ¬ (x : Int) < 0), if_neg (by omega : ¬ (l1.length : Int) ≤ x), e60, e61, bO1, rc_some, rc_if, rc_ifB, rc_or, ↓reduceIte, Int.reduceEq]
  congr 2
  simp only [wholeB, fitsB, blankB, cond_true, cond_false, Int.reduceEq, if_true, if_false, List.any_cons, List.any_nil, isI, Bool.not_true, Bool.not_false, Bool.true_or, Bool.false_or, Bool.or_false, decide_true, Bool.true_and, Bool.and_true, Bool.false_eq_true]
  grind
theorem rf28 : Ev (fun n => F34 n l1 z2 l3 (x : Int) 28 a b c l9 l10 i s12 l13) (rc (insB l1 sl cd.length (k_send, 1, 0, true, false, false, false, [], true) 28 a b c l9 l10 i s12 l13)) := by
  have hlt := (List.getElem?_eq_some_iff.1 hx).1
  rw [insB_eq]
  obtain ⟨N, hN⟩ := ev59 h10
  refine ⟨N, fun n hn => ?_⟩
  have hN : F59 n l10 = _ := hN n hn
  show F34 n _ _ _ _ _ _ _ _ _ _ _ _ _ = _
  unfold F34
  simp only [getF_nat hx, ds_t56, lenF, if_neg (by omega : ¬ (x : Int) < 0), if_neg (by omega : ¬ (l1.length : Int) ≤ x), e60, e61, bO1, rc_some, rc_if, rc_ifB, rc_or, ↓reduceIte, Int.reduceEq, hN, path40]
  congr 2
  simp only [wholeB, fitsB, blankB, cond_true, cond_false, Int.reduceEq, if_true, if_false, Bool.not_true, Bool.not_false, Bool.true_or, Bool.false_or, Bool.or_false, decide_true, Bool.true_and, Bool.and_true, Bool.false_eq_true, zB, List.length_nil, Int.natCast_zero]
  grind
theorem rf29 : Ev (fun n => F34 n l1 z2 l3 (x : Int) 29 a b c l9 l10 i s12 l13) (rc (insB l1 sl cd.length (k_recv, 1, 0, true, false, false, false, [], true) 29 a b c l9 l10 i s12 l13)) := by
  have hlt := (List.getElem?_eq_some_iff.1 hx).1
  rw [insB_eq]
  obtain ⟨N, hN⟩ := ev59 h10
  refine ⟨N, fun n hn => ?_⟩
  have hN : F59 n l10 = _ := hN n hn
  show F34 n _ _ _ _ _ _ _ _ _ _ _ _ _ = _
  unfold F34
  simp only [getF_nat hx, ds_t56, lenF, if_neg (by omega : ¬ (x : Int) < 0), if_neg (by omega : ¬ (l1.length : Int) ≤ x), e60, e61, bO1, rc_some, rc_if, rc_ifB, rc_or, ↓reduceIte, Int.reduceEq, hN, path40]
  congr 2
  simp only [wholeB, fitsB, blankB, cond_true, cond_false, Int.reduceEq, if_true, if_false, Bool.not_true, Bool.not_false, Bool.true_or, Bool.false_or, Bool.or_false, decide_true, Bool.true_and, Bool.and_true, Bool.false_eq_true, zB, List.length_nil, Int.natCast_zero]
  grind
theorem rf30 : Ev (fun n => F34 n l1 z2 l3 (x : Int) 30 a b c l9 l10 i s12 l13) (rc (insB l1 sl cd.length (k_lock, 1, 1, true, false, false, false, [], true) 30 a b c l9 l10 i s12 l13)) := by
  have hlt := (List.getElem?_eq_some_iff.1 hx).1
  rw [insB_eq]
  obtain ⟨N, hN⟩ := ev59 h10
  refine ⟨N, fun n hn => ?_⟩
  have hN : F59 n l10 = _ := hN n hn
  show F34 n _ _ _ _ _ _ _ _ _ _ _ _ _ = _
  unfold F34
  simp only [getF_nat hx, ds_t56, lenF, if_neg (by omega : ¬ (x : Int) < 0), if_neg (by omega : ¬ (l1.length : Int) ≤ x), e60, e61, bO1, rc_some, rc_if, rc_ifB, rc_or, ↓reduceIte, Int.reduceEq, hN, path40]
  congr 2
  simp only [wholeB, fitsB, blankB, cond_true, cond_false, Int.reduceEq, if_true, if_false, Bool.not_true, Bool.not_false, Bool.true_or, Bool.false_or, Bool.or_false, decide_true, Bool.true_and, Bool.and_true, Bool.false_eq_true, zB, List.length_nil, Int.natCast_zero]
  grind
theorem rf31 : Ev (fun n => F34 n l1 z2 l3 (x : Int) 31 a b c l9 l10 i s12 l13) (rc (insB l1 sl cd.length (k_unlock, 0, 0, false, false, false, false, [], true) 31 a b c l9 l10 i s12 l13)) := by
  have hlt := (List.getElem?_eq_some_iff.1 hx).1
  rw [insB_eq]
  refine ⟨0, fun n _ => ?_⟩
  show F34 n _ _ _ _ _ _ _ _ _ _ _ _ _ = _
  unfold F34
  simp only [getF_nat hx, ds_t56, lenF, if_neg (by omega : ¬ (x : Int) < 0), if_neg (by omega : ¬ (l1.length : Int) ≤ x), e60, e61, bO1, rc_some, rc_if, rc_ifB, rc_or, ↓reduceIte, Int.reduceEq]
  congr 2
  simp only [wholeB, fitsB, blankB, cond_true, cond_false, Int.reduceEq, if_true, if_false, List.any_cons, List.any_nil, isI, Bool.not_true, Bool.not_false, Bool.true_or, Bool.false_or, Bool.or_false, decide_true, Bool.true_and, Bool.and_true, Bool.false_eq_true]
  grind
theorem rf32 : Ev (fun n => F34 n l1 z2 l3 (x : Int) 32 a b c l9 l10 i s12 l13) (rc (insB l1 sl cd.length (k_scope, 0, 0, false, false, false, false, [], true) 32 a b c l9 l10 i s12 l13)) := by
  have hlt := (List.getElem?_eq_some_iff.1 hx).1
  rw [insB_eq]
  refine ⟨0, fun n _ => ?_⟩
  show F34 n _ _ _ _ _ _ _ _ _ _ _ _ _ = _
  unfold F34
  simp only [getF_nat hx, ds_t56, lenF, if_neg (by omega : ¬ (x : Int) < 0), if_neg (by omega : ¬ (l1.length : Int) ≤ x), e60, e61, bO1, rc_some, rc_if, rc_ifB, rc_or, ↓reduceIte, Int.reduceEq]
  congr 2
  simp only [wholeB, fitsB, blankB, cond_true, cond_false, Int.reduceEq, if_true, if_false, List.any_cons, List.any_nil, isI, Bool.not_true, Bool.not_false, Bool.true_or, Bool.false_or, Bool.or_false, decide_true, Bool.true_and, Bool.and_true, Bool.false_eq_true]
  grind
theorem rf33 : Ev (fun n => F34 n l1 z2 l3 (x : Int) 33 a b c l9 l10 i s12 l13) (rc (insB l1 sl cd.length (k_spawn, 3, 5, false, false, false, false, [], true) 33 a b c l9 l10 i s12 l13)) := by
  have hlt := (List.getElem?_eq_some_iff.1 hx).1
  rw [insB_eq]
  refine ⟨0, fun n _ => ?_⟩
  show F34 n _ _ _ _ _ _ _ _ _ _ _ _ _ = _
  unfold F34
  by_cases g1 : 0 ≤ a
  rotate_left
  · simp only [getF_nat hx, ds_t56, lenF, if_neg (by omega : ¬ (x : Int) < 0), if_neg (by omega : ¬ (l1.length : Int) ≤ x), e60, e61, bO1, rc_some, rc_if, rc_ifB, rc_or, ↓reduceIte, Int.reduceEq, if_neg g1]
    simp [rc, fitsB, g1]
  by_cases g2 : a < (l1.length : Int)
  rotate_left
  · simp only [getF_nat hx, ds_t56, lenF, if_neg (by omega : ¬ (x : Int) < 0), if_neg (by omega : ¬ (l1.length : Int) ≤ x), e60, e61, bO1, rc_some, rc_if, rc_ifB, rc_or, ↓reduceIte, Int.reduceEq, if_pos g1, if_neg g2]
    simp only [fitsB, Int.reduceEq, if_true, if_false, g2, decide_false, Bool.and_false, Bool.false_and]; rfl
  obtain ⟨y, rfl⟩ : ∃ y : Nat, a = y := ⟨a.toNat, by omega⟩
  obtain ⟨v, hy, hm, hr⟩ := hF.get (i := y) (by omega)
  obtain ⟨q0, q1, q2, q3, rfl, _⟩ := rs56 hr
  simp only [getF_nat hx, ds_t56, lenF, if_neg (by omega : ¬ (x : Int) < 0), if_neg (by omega : ¬ (l1.length : Int) ≤ x), e60, e61, bO1, rc_some, rc_if, rc_ifB, rc_or, ↓reduceIte, Int.reduceEq, if_pos g1, if_pos g2, getF_nat hy]
  simp only [wholeB, fitsB, parIs, Int.toNat_natCast, hy, blankB, cond_true, cond_false, Int.reduceEq, if_true, if_false, Bool.not_true, Bool.not_false, Bool.true_or, Bool.false_or, Bool.or_false, decide_true, Bool.true_and, Bool.and_true, Bool.false_eq_true, g1, g2]
  congr 2
  grind
theorem rf34 : Ev (fun n => F34 n l1 z2 l3 (x : Int) 34 a b c l9 l10 i s12 l13) (rc (insB l1 sl cd.length (k_join, 0, 0, false, false, false, false, [], true) 34 a b c l9 l10 i s12 l13)) := by
  have hlt := (List.getElem?_eq_some_iff.1 hx).1
  rw [insB_eq]
  refine ⟨0, fun n _ => ?_⟩
  show F34 n _ _ _ _ _ _ _ _ _ _ _ _ _ = _
  unfold F34
  simp only [getF_nat hx, ds_t56, lenF, if_neg (by omega : ¬ (x : Int) < 0), if_neg (by omega : ¬ (l1.length : Int) ≤ x), e60, e61, bO1, rc_some, rc_if, rc_ifB, rc_or, ↓reduceIte, Int.reduceEq]
  congr 2
  simp only [wholeB, fitsB, blankB, cond_true, cond_false, Int.reduceEq, if_true, if_false, List.any_cons, List.any_nil, isI, Bool.not_true, Bool.not_false, Bool.true_or, Bool.false_or, Bool.or_false, decide_true, Bool.true_and, Bool.and_true, Bool.false_eq_true]
  grind
theorem rfB {op : Int} (h : 35 ≤ op) : Ev (fun n => F34 n l1 z2 l3 (x : Int) op a b c l9 l10 i s12 l13) 170 := by
  have hlt := (List.getElem?_eq_some_iff.1 hx).1
  refine ⟨0, fun n _ => ?_⟩
  show F34 n _ _ _ _ _ _ _ _ _ _ _ _ _ = _
  unfold F34
  simp only [getF_nat hx, ds_t56, lenF, if_neg (by omega : ¬ (x : Int) < 0), if_neg (by omega : ¬ (l1.length : Int) ≤ x), if_neg (by omega : ¬ op = 1), if_neg (by omega : ¬ op = 2), if_neg (by omega : ¬ op = 3), if_neg (by omega : ¬ op = 4), if_neg (by omega : ¬ op = 5), if_neg (by omega : ¬ op = 6), if_neg (by omega : ¬ op = 7), if_neg (by omega : ¬ op = 8), if_neg (by omega : ¬ op = 9), if_neg (by omega : ¬ op = 10), if_neg (by omega : ¬ op = 11), if_neg (by omega : ¬ op = 12), if_neg (by omega : ¬ op = 13), if_neg (by omega : ¬ op = 14), if_neg (by omega : ¬ op = 15), if_neg (by omega : ¬ op = 16), if_neg (by omega : ¬ op = 17), if_neg (by omega : ¬ op = 18), if_neg (by omega : ¬ op = 19), if_neg (by omega : ¬ op = 20), if_neg (by omega : ¬ op = 21), if_neg (by omega : ¬ op = 22), if_neg (by omega : ¬ op = 23), if_neg (by omega : ¬ op = 24), if_neg (by omega : ¬ op = 25), if_neg (by omega : ¬ op = 26), if_neg (by omega : ¬ op = 27), if_neg (by omega : ¬ op = 28), if_neg (by omega : ¬ op = 29), if_neg (by omega : ¬ op = 30), if_neg (by omega : ¬ op = 31), if_neg (by omega : ¬ op = 32), if_neg (by omega : ¬ op = 33), if_neg (by omega : ¬ op = 34)]
theorem rf0 : Ev (fun n => F34 n l1 z2 l3 (x : Int) 0 a b c l9 l10 i s12 l13) 170 := by
  have hlt := (List.getElem?_eq_some_iff.1 hx).1
  refine ⟨0, fun n _ => ?_⟩
  show F34 n _ _ _ _ _ _ _ _ _ _ _ _ _ = _
  unfold F34
  simp only [getF_nat hx, ds_t56, lenF, if_neg (by omega : ¬ (x : Int) < 0), if_neg (by omega : ¬ (l1.length : Int) ≤ x), ↓reduceIte, Int.reduceEq]
end
end Go.Proofs.YtjobleemmjjocaaDoor
end

/- Printed by lift.py: functional texts of functions, and their contracts. No condition. -/
set_option linter.unusedVariables false
noncomputable section
namespace Go.Proofs.YtjobleemmjjocaaDoor
open Go Go.AM
def F63 (n : Nat) (l1 : List D) : Option (List D) :=
  (nilF l1 (some ([] : List D)) (appF 8 [] l1 fun l2 => some l2))
set_option maxRecDepth 100000 in
set_option maxHeartbeats 40000000 in
theorem T63 (n : Nat) : ∀ ⦃l1 : List D⦄ ⦃r1 : List D⦄, F63 n l1 = some r1 →
    Trip Tryd.prog inv 63 [.d (.list false 1 l1)] [] (.v (.d (.list false 1 r1))) [] [] := by
  intro l1 r1 h
  unfold F63 at h
  refine Trip.of tab_ok tab_one fol Tryd.func63 rfl (by kernel_rfl) rfl rfl rfl (fun M hM hI => ?_)
  try cbv
  replace h := nilF_inv h
  obtain ⟨h, hA⟩ := h
  refine nil_both ?_ (fun e => ?_)
  · clear hA
    try cbv
    refine ⟨false, ?_⟩
    try cbv
    refine ⟨true, ?_⟩
    try cbv
    replace h := appF_inv h
    obtain ⟨l2, hb, hz, h⟩ := h
    refine ⟨false, ?_⟩
    try cbv
    refine ⟨(M.lock_iff _).2 hb, l2, hz, false, ?_⟩
    clear hb hz
    try cbv
    obtain rfl := Option.some.inj h
    refine fin_go ?_
    try cbv
    exact ⟨[], rfl, rfl, trivial, trivial, trivial⟩
  · replace h := hA e
    clear hA
    try cbv
    obtain rfl := Option.some.inj h
    refine fin_go ?_
    try cbv
    exact ⟨[], rfl, rfl, trivial, trivial, trivial⟩
end Go.Proofs.YtjobleemmjjocaaDoor
end

/- Printed by lift.py: functional texts of functions, and their contracts. No condition. -/
set_option linter.unusedVariables false
noncomputable section
namespace Go.Proofs.YtjobleemmjjocaaDoor
open Go Go.AM
def F36 (n : Nat) (z1 : Int) (z2 : Int) (z3 : Int) (z4 : Int) (l5 : List D) (l6 : List D) (z7 : Int) (s8 : ByteArray) (l9 : List D) : Option (List D) :=
  (if z1 = (14 : Int) then some [.int .i64 z2] else (if z1 = (15 : Int) then some [.int .i64 z2] else (if z1 = (16 : Int) then bO1 (F63 n l5) fun l10 => some l10 else some ([] : List D))))
set_option maxRecDepth 100000 in
set_option maxHeartbeats 40000000 in
theorem T36 (n : Nat) : ∀ ⦃z1 : Int⦄ ⦃z2 : Int⦄ ⦃z3 : Int⦄ ⦃z4 : Int⦄ ⦃l5 : List D⦄ ⦃l6 : List D⦄ ⦃z7 : Int⦄ ⦃s8 : ByteArray⦄ ⦃l9 : List D⦄ ⦃r1 : List D⦄, F36 n z1 z2 z3 z4 l5 l6 z7 s8 l9 = some r1 →
    Trip Tryd.prog inv 36 [.d (.agg [.int .u8 z1, .int .i64 z2, .int .i64 z3, .int .i64 z4, .list false 1 l5, .list false 1 l6, .int .i64 z7, .str s8, .list false 1 l9])] [] (.v (.d (.list false 1 r1))) [] [] := by
  intro z1 z2 z3 z4 l5 l6 z7 s8 l9 r1 h
  unfold F36 at h
  refine Trip.of tab_ok tab_one fol Tryd.func36 rfl (by kernel_rfl) rfl rfl rfl (fun M hM hI => ?_)
  try cbv
  refine splitI (fun e => ?_) (fun e => ?_)
  · replace h := ite_t e h
    clear e
    try cbv
    refine ⟨false, ?_⟩
    try cbv
    refine ⟨true, ?_⟩
    try cbv
    obtain rfl := Option.some.inj h
    refine fin_go ?_
    try cbv
    exact ⟨[], rfl, rfl, trivial, trivial, trivial⟩
  · replace h := ite_f e h
    clear e
    try cbv
    refine splitI (fun e => ?_) (fun e => ?_)
    · replace h := ite_t e h
      clear e
      try cbv
      refine ⟨false, ?_⟩
      try cbv
      refine ⟨true, ?_⟩
      try cbv
      obtain rfl := Option.some.inj h
      refine fin_go ?_
      try cbv
      exact ⟨[], rfl, rfl, trivial, trivial, trivial⟩
    · replace h := ite_f e h
      clear e
      try cbv
      refine splitI (fun e => ?_) (fun e => ?_)
      · replace h := ite_t e h
        clear e
        try cbv
        replace h := bO1_inv h
        obtain ⟨l10, hr, h⟩ := h
        refine call_go rfl rfl ?_
        try cbv
        refine call_pure hM hI (T63 _ hr) rfl ?_
        clear hr
        try cbv
        obtain rfl := Option.some.inj h
        refine fin_go ?_
        try cbv
        exact ⟨[], rfl, rfl, trivial, trivial, trivial⟩
      · replace h := ite_f e h
        clear e
        try cbv
        obtain rfl := Option.some.inj h
        refine fin_go ?_
        try cbv
        exact ⟨[], rfl, rfl, trivial, trivial, trivial⟩
end Go.Proofs.YtjobleemmjjocaaDoor
end

/- Printed by lift.py: functional texts of functions, and their contracts. No condition. -/
set_option linter.unusedVariables false
noncomputable section
namespace Go.Proofs.YtjobleemmjjocaaDoor
open Go Go.AM
def F75 (n : Nat) (b1 : Bool) (s2 : ByteArray) (s3 : ByteArray) : Option (ByteArray) :=
  (if b1 = true then (if s2 = ByteArray.empty then some s3 else catF k___1 s2 fun s4 => catF s3 s4 fun s5 => some s5) else some s3)
set_option maxRecDepth 100000 in
set_option maxHeartbeats 40000000 in
theorem T75 (n : Nat) : ∀ ⦃b1 : Bool⦄ ⦃s2 : ByteArray⦄ ⦃s3 : ByteArray⦄ ⦃r1 : ByteArray⦄, F75 n b1 s2 s3 = some r1 →
    Trip Tryd.prog inv 75 [.d (.bool b1), .d (.str s2), .c (.ptr (.ext 0) 0)] [.cells [.d (.str s3)]] (.t []) [.cells [.d (.str r1)]] [] := by
  intro b1 s2 s3 r1 h
  unfold F75 at h
  refine Trip.of tab_ok tab_one fol Tryd.func75 rfl (by kernel_rfl) rfl rfl rfl (fun M hM hI => ?_)
  try cbv
  cases b1
  · replace h := ite_f Bool.false_ne_true h
    try cbv
    obtain rfl := Option.some.inj h
    refine fin_go ?_
    try cbv
    exact ⟨[], rfl, rfl, ⟨rfl, trivial⟩, trivial, trivial⟩
  · replace h := ite_t rfl h
    try cbv
    refine splitS (fun e => ?_) (fun e => ?_)
    · replace h := ite_t (bytes_eq.1 e) h
      clear e
      try cbv
      obtain rfl := Option.some.inj h
      refine fin_go ?_
      try cbv
      exact ⟨[], rfl, rfl, ⟨rfl, trivial⟩, trivial, trivial⟩
    · replace h := ite_f (bytes_ne.1 e) h
      clear e
      try cbv
      replace h := catF_inv h
      obtain ⟨s4, hz, hb, h⟩ := h
      refine ⟨s4, hz, hb, ?_⟩
      clear hb hz
      try cbv
      replace h := catF_inv h
      obtain ⟨s5, hz, hb, h⟩ := h
      refine ⟨s5, hz, hb, ?_⟩
      clear hb hz
      try cbv
      obtain rfl := Option.some.inj h
      refine fin_go ?_
      try cbv
      exact ⟨[], rfl, rfl, ⟨rfl, trivial⟩, trivial, trivial⟩
end Go.Proofs.YtjobleemmjjocaaDoor
end

/- Printed by lift.py: functional texts of functions, and their contracts. No condition. -/
set_option linter.unusedVariables false
noncomputable section
namespace Go.Proofs.YtjobleemmjjocaaDoor
open Go Go.AM
def L62_2 : Nat → (List D) → Int → ByteArray → Bool → Bool → Bool → ByteArray → Int → (List D) → Int → Option (ByteArray)
  | 0, _, _, _, _, _, _, _, _, _, _ => none
  | n + 1, l5, z7, s8, b14, b15, b16, s31, z32, l33, z34 =>
    (if z34 < z32 then getF l5 z34 fun x35 => ds_i64 x35 fun z36 => bO1 (F44 n z36) fun s37 => appF 16 l33 ([.str s37]) fun l38 => letF (IntKind.wrap .i64 (z34 + 1)) fun z39 => L62_2 n l5 z7 s8 b14 b15 b16 s31 z32 l38 z39 else bO1 (F76 n l33 k___3) fun s40 => bO1 (F75 n b14 s40 s31) fun s41 => bO1 (F77 n z7 (10 : Int)) fun s42 => bO1 (F75 n b15 s42 s41) fun s43 => bO1 (F75 n b16 s8 s43) fun s44 => some s44)
def L62_3 : Nat → (List D) → Int → ByteArray → Bool → Bool → Bool → ByteArray → Int → (List D) → Int → Option (ByteArray)
  | 0, _, _, _, _, _, _, _, _, _, _ => none
  | n + 1, l5, z7, s8, b14, b15, b16, s46, z47, l48, z49 =>
    (if z49 < z47 then getF l5 z49 fun x50 => ds_i64 x50 fun z51 => bO1 (F44 n z51) fun s52 => appF 16 l48 ([.str s52]) fun l53 => letF (IntKind.wrap .i64 (z49 + 1)) fun z54 => L62_3 n l5 z7 s8 b14 b15 b16 s46 z47 l53 z54 else bO1 (F76 n l48 k___3) fun s55 => bO1 (F75 n b14 s55 s46) fun s56 => bO1 (F77 n z7 (10 : Int)) fun s57 => bO1 (F75 n b15 s57 s56) fun s58 => bO1 (F75 n b16 s8 s58) fun s59 => some s59)
def L62_1 : Nat → Int → (List D) → (List D) → Int → ByteArray → Int → Bool → Bool → Bool → Bool → ByteArray → Int → ByteArray → Int → Option (ByteArray)
  | 0, _, _, _, _, _, _, _, _, _, _, _, _, _, _ => none
  | n + 1, z3, l5, l6, z7, s8, z12, b13, b14, b15, b16, s20, z21, s22, z23 =>
    (if z23 < z21 then getF l6 z23 fun x24 => ds_str x24 fun s25 => catF k___2 s25 fun s26 => catF s22 s26 fun s27 => letF (IntKind.wrap .i64 (z23 + 1)) fun z28 => L62_1 n z3 l5 l6 z7 s8 z12 b13 b14 b15 b16 s20 z21 s27 z28 else bO1 (F75 n b13 s22 s20) fun s29 => (if z12 = (0 : Int) then bO1 (F44 n z3) fun s30 => bO1 (F75 n false s30 s29) fun s31 => lenF l5 fun z32 => L62_2 n l5 z7 s8 b14 b15 b16 s31 z32 ([] : List D) (0 : Int) else bO1 (F44 n z3) fun s45 => bO1 (F75 n true s45 s29) fun s46 => lenF l5 fun z47 => L62_3 n l5 z7 s8 b14 b15 b16 s46 z47 ([] : List D) (0 : Int)))
def L62_5 : Nat → (List D) → Int → ByteArray → Bool → Bool → Bool → ByteArray → Int → (List D) → Int → Option (ByteArray)
  | 0, _, _, _, _, _, _, _, _, _, _ => none
  | n + 1, l5, z7, s8, b14, b15, b16, s72, z73, l74, z75 =>
    (if z75 < z73 then getF l5 z75 fun x76 => ds_i64 x76 fun z77 => bO1 (F44 n z77) fun s78 => appF 16 l74 ([.str s78]) fun l79 => letF (IntKind.wrap .i64 (z75 + 1)) fun z80 => L62_5 n l5 z7 s8 b14 b15 b16 s72 z73 l79 z80 else bO1 (F76 n l74 k___3) fun s81 => bO1 (F75 n b14 s81 s72) fun s82 => bO1 (F77 n z7 (10 : Int)) fun s83 => bO1 (F75 n b15 s83 s82) fun s84 => bO1 (F75 n b16 s8 s84) fun s85 => some s85)
def L62_6 : Nat → (List D) → Int → ByteArray → Bool → Bool → Bool → ByteArray → Int → (List D) → Int → Option (ByteArray)
  | 0, _, _, _, _, _, _, _, _, _, _ => none
  | n + 1, l5, z7, s8, b14, b15, b16, s87, z88, l89, z90 =>
    (if z90 < z88 then getF l5 z90 fun x91 => ds_i64 x91 fun z92 => bO1 (F44 n z92) fun s93 => appF 16 l89 ([.str s93]) fun l94 => letF (IntKind.wrap .i64 (z90 + 1)) fun z95 => L62_6 n l5 z7 s8 b14 b15 b16 s87 z88 l94 z95 else bO1 (F76 n l89 k___3) fun s96 => bO1 (F75 n b14 s96 s87) fun s97 => bO1 (F77 n z7 (10 : Int)) fun s98 => bO1 (F75 n b15 s98 s97) fun s99 => bO1 (F75 n b16 s8 s99) fun s100 => some s100)
def L62_4 : Nat → Int → (List D) → (List D) → Int → ByteArray → Int → Bool → Bool → Bool → Bool → ByteArray → Int → ByteArray → Int → Option (ByteArray)
  | 0, _, _, _, _, _, _, _, _, _, _, _, _, _, _ => none
  | n + 1, z3, l5, l6, z7, s8, z12, b13, b14, b15, b16, s61, z62, s63, z64 =>
    (if z64 < z62 then getF l6 z64 fun x65 => ds_str x65 fun s66 => catF k___2 s66 fun s67 => catF s63 s67 fun s68 => letF (IntKind.wrap .i64 (z64 + 1)) fun z69 => L62_4 n z3 l5 l6 z7 s8 z12 b13 b14 b15 b16 s61 z62 s68 z69 else bO1 (F75 n b13 s63 s61) fun s70 => (if z12 = (0 : Int) then bO1 (F44 n z3) fun s71 => bO1 (F75 n false s71 s70) fun s72 => lenF l5 fun z73 => L62_5 n l5 z7 s8 b14 b15 b16 s72 z73 ([] : List D) (0 : Int) else bO1 (F44 n z3) fun s86 => bO1 (F75 n true s86 s70) fun s87 => lenF l5 fun z88 => L62_6 n l5 z7 s8 b14 b15 b16 s87 z88 ([] : List D) (0 : Int)))
def F62 (n : Nat) (z1 : Int) (z2 : Int) (z3 : Int) (z4 : Int) (l5 : List D) (l6 : List D) (z7 : Int) (s8 : ByteArray) (l9 : List D) : Option (ByteArray) :=
  bO9 (F51 n z1) fun s10 z11 z12 b13 b14 b15 b16 l17 b18 => (if b18 = true then (if z11 = (0 : Int) then bO1 (F44 n z2) fun s19 => bO1 (F75 n false s19 s10) fun s20 => lenF l6 fun z21 => L62_1 n z3 l5 l6 z7 s8 z12 b13 b14 b15 b16 s20 z21 ByteArray.empty (0 : Int) else bO1 (F44 n z2) fun s60 => bO1 (F75 n true s60 s10) fun s61 => lenF l6 fun z62 => L62_4 n z3 l5 l6 z7 s8 z12 b13 b14 b15 b16 s61 z62 ByteArray.empty (0 : Int)) else some k___4)
set_option maxRecDepth 100000 in
set_option maxHeartbeats 40000000 in
theorem T62 (n : Nat) : ∀ ⦃z1 : Int⦄ ⦃z2 : Int⦄ ⦃z3 : Int⦄ ⦃z4 : Int⦄ ⦃l5 : List D⦄ ⦃l6 : List D⦄ ⦃z7 : Int⦄ ⦃s8 : ByteArray⦄ ⦃l9 : List D⦄ ⦃r1 : ByteArray⦄, F62 n z1 z2 z3 z4 l5 l6 z7 s8 l9 = some r1 →
    Trip Tryd.prog inv 62 [.d (.agg [.int .u8 z1, .int .i64 z2, .int .i64 z3, .int .i64 z4, .list false 1 l5, .list false 1 l6, .int .i64 z7, .str s8, .list false 1 l9])] [] (.v (.d (.str r1))) [] [] := by
  intro z1 z2 z3 z4 l5 l6 z7 s8 l9 r1 h
  unfold F62 at h
  refine Trip.of tab_ok tab_one fol Tryd.func62 rfl (by kernel_rfl) rfl rfl rfl (fun M hM hI => ?_)
  try cbv
  replace h := bO9_inv h
  obtain ⟨s10, z11, z12, b13, b14, b15, b16, l17, b18, hr, h⟩ := h
  refine call_go rfl rfl ?_
  try cbv
  refine call_pure hM hI (T51 _ hr) rfl ?_
  clear hr
  try cbv
  cases b18
  · replace h := ite_f Bool.false_ne_true h
    try cbv
    obtain rfl := Option.some.inj h
    refine fin_go ?_
    try cbv
    exact ⟨[], rfl, rfl, trivial, trivial, trivial⟩
  · replace h := ite_t rfl h
    try cbv
    refine splitI (fun e => ?_) (fun e => ?_)
    · replace h := ite_t e h
      clear e
      try cbv
      replace h := bO1_inv h
      obtain ⟨s19, hr, h⟩ := h
      refine ⟨[], ?_⟩
      try cbv
      refine call_pure hM hI (T44 _ hr) rfl ?_
      clear hr
      try cbv
      replace h := bO1_inv h
      obtain ⟨s20, hr, h⟩ := h
      refine ⟨[], ?_⟩
      try cbv
      refine call_with hM hI [.loc 480] (T75 _ hr) rfl (by simp) ⟨rfl, trivial⟩ ⟨trivial, trivial⟩ (by simp) ?_
      clear hr
      try cbv
      refine drawn ?_ ?_
      · show _ = true
        kernel_rfl
      try cbv
      replace h := lenF_inv M h
      obtain ⟨z21, hz, h⟩ := h
      refine ⟨z21, hz, ?_⟩
      clear hz
      try cbv
      refine loop_inv (T := Nat × ByteArray × Int) [1, 2, 3, 5, 6, 7, 33, 34, 35] [.loc 0, .loc 256, .loc 480] 1024 (fun t => ⟨[(1, .v (.c (.ptr (.loc 0) 0))), (2, .v (.d (.str ByteArray.empty))), (3, .v (.c (.ptr (.loc 256) 0))), (5, .v (.c (.ptr (.loc 480) 0))), (6, .v (.c (.fn 75 [.loc 480]))), (7, .v (.d (.str t.2.1))), (33, .v (.d (.list false 1 l6))), (34, .v (.d (.int .i64 z21))), (35, .v (.d (.int .i64 t.2.2)))], [(.loc 0, .cells [.d (.int .u8 z1), .d (.int .i64 z2), .d (.int .i64 z3), .d (.int .i64 z4), .d (.list false 1 l5), .d (.list false 1 l6), .d (.int .i64 z7), .d (.str s8), .d (.list false 1 l9)]), (.loc 256, .cells [.d (.str s10), .d (.int .i64 z11), .d (.int .i64 z12), .d (.bool b13), .d (.bool b14), .d (.bool b15), .d (.bool b16), .d (.list false 1 l17)]), (.loc 480, .cells [.d (.str s20)])], 1024⟩)
        (fun t => t.1 ≤ n ∧ L62_1 t.1 z3 l5 l6 z7 s8 z12 b13 b14 b15 b16 s20 z21 t.2.1 t.2.2 = some r1) (fun t => t.1) (n, (ByteArray.empty, (0 : Int))) ⟨Nat.le_refl _, h⟩ (by cbv) ?_
      clear h
      rintro ⟨m1, s22, z23⟩ ⟨hm1, h⟩
      replace hm1 : m1 ≤ n := hm1
      cases m1 with
      | zero => cases (show (none : Option _) = some _ from h)
      | succ m1 =>
        replace h : L62_1 (m1 + 1) z3 l5 l6 z7 s8 z12 b13 b14 b15 b16 s20 z21 s22 z23 = some r1 := h
        rw [L62_1] at h
        try cbv
        refine splitL (fun e => ?_) (fun e => ?_)
        · replace h := ite_t e h
          clear e
          try cbv
          replace h := getF_inv h
          obtain ⟨x24, ⟨hx0, hx⟩, h⟩ := h
          refine ⟨x24, hx0, hx, ?_⟩
          clear hx0 hx
          replace h := ds_str_inv h
          obtain ⟨s25, rfl, h⟩ := h
          try cbv
          replace h := catF_inv h
          obtain ⟨s26, hz, hb, h⟩ := h
          refine ⟨s26, hz, hb, ?_⟩
          clear hb hz
          try cbv
          replace h := catF_inv h
          obtain ⟨s27, hz, hb, h⟩ := h
          refine ⟨s27, hz, hb, ?_⟩
          clear hb hz
          try cbv
          replace h := letF_inv h
          obtain ⟨z28, hz, h⟩ := h
          refine ⟨z28, hz, ?_⟩
          clear hz
          try cbv
          exact loop_next (m1, (s27, z28)) [1, 2, 3, 5, 6, 7, 33, 34, 35] [.loc 0, .loc 256, .loc 480] 1024 ⟨by omega, h⟩ (Nat.lt_succ_of_le (by omega)) (by cbv)
        · replace h := ite_f (Int.not_lt.2 e) h
          clear e
          try cbv
          replace h := bO1_inv h
          obtain ⟨s29, hr, h⟩ := h
          refine call_go rfl rfl ?_
          try cbv
          refine call_with hM hI [.loc 480] (T75 _ hr) rfl (by simp) ⟨rfl, trivial⟩ ⟨trivial, trivial⟩ (by simp) ?_
          clear hr
          try cbv
          refine splitI (fun e => ?_) (fun e => ?_)
          · replace h := ite_t e h
            clear e
            try cbv
            replace h := bO1_inv h
            obtain ⟨s30, hr, h⟩ := h
            refine ⟨[], ?_⟩
            try cbv
            refine call_pure hM hI (T44 _ hr) rfl ?_
            clear hr
            try cbv
            replace h := bO1_inv h
            obtain ⟨s31, hr, h⟩ := h
            refine ⟨[], ?_⟩
            try cbv
            refine call_with hM hI [.loc 480] (T75 _ hr) rfl (by simp) ⟨rfl, trivial⟩ ⟨trivial, trivial⟩ (by simp) ?_
            clear hr
            try cbv
            refine drawn ?_ ?_
            · show _ = true
              kernel_rfl
            try cbv
            replace h := lenF_inv M h
            obtain ⟨z32, hz, h⟩ := h
            refine ⟨z32, hz, ?_⟩
            clear hz
            try cbv
            refine loop_invT (T := Nat × List D × Int) [.slot 10 false 1 9] [1, 2, 3, 5, 6, 7, 10, 33, 34, 35, 58, 59, 60] [.loc 0, .loc 256, .loc 480, .loc 1632] 1664 (fun t => ⟨[(1, .v (.c (.ptr (.loc 0) 0))), (2, .v (.d (.str ByteArray.empty))), (3, .v (.c (.ptr (.loc 256) 0))), (5, .v (.c (.ptr (.loc 480) 0))), (6, .v (.c (.fn 75 [.loc 480]))), (7, .v (.d (.str s22))), (10, .v (.c (.lst (.loc 1632) false 1 t.2.1))), (33, .v (.d (.list false 1 l6))), (34, .v (.d (.int .i64 z21))), (35, .v (.d (.int .i64 z23))), (58, .v (.d (.list false 1 l5))), (59, .v (.d (.int .i64 z32))), (60, .v (.d (.int .i64 t.2.2)))], [(.loc 0, .cells [.d (.int .u8 z1), .d (.int .i64 z2), .d (.int .i64 z3), .d (.int .i64 z4), .d (.list false 1 l5), .d (.list false 1 l6), .d (.int .i64 z7), .d (.str s8), .d (.list false 1 l9)]), (.loc 256, .cells [.d (.str s10), .d (.int .i64 z11), .d (.int .i64 z12), .d (.bool b13), .d (.bool b14), .d (.bool b15), .d (.bool b16), .d (.list false 1 l17)]), (.loc 480, .cells [.d (.str s31)]), (.loc 1632, .tok t.2.1.length 1 9)], 1664⟩)
              (fun t => t.1 ≤ m1 ∧ L62_2 t.1 l5 z7 s8 b14 b15 b16 s31 z32 t.2.1 t.2.2 = some r1) (fun t => t.1) (m1, (([] : List D), (0 : Int))) ⟨Nat.le_refl _, h⟩ (by cbv) ?_
            clear h
            rintro ⟨m2, l33, z34⟩ ⟨hm2, h⟩
            replace hm2 : m2 ≤ m1 := hm2
            cases m2 with
            | zero => cases (show (none : Option _) = some _ from h)
            | succ m2 =>
              replace h : L62_2 (m2 + 1) l5 z7 s8 b14 b15 b16 s31 z32 l33 z34 = some r1 := h
              rw [L62_2] at h
              try cbv
              refine splitL (fun e => ?_) (fun e => ?_)
              · replace h := ite_t e h
                clear e
                try cbv
                replace h := getF_inv h
                obtain ⟨x35, ⟨hx0, hx⟩, h⟩ := h
                refine ⟨x35, hx0, hx, ?_⟩
                clear hx0 hx
                replace h := ds_i64_inv h
                obtain ⟨z36, rfl, h⟩ := h
                try cbv
                replace h := bO1_inv h
                obtain ⟨s37, hr, h⟩ := h
                refine call_go rfl rfl ?_
                try cbv
                refine call_pure hM hI (T44 _ hr) rfl ?_
                clear hr
                try cbv
                refine ⟨false, ?_⟩
                try cbv
                refine ⟨true, ?_⟩
                try cbv
                replace h := appF_inv h
                obtain ⟨l38, hb, hz, h⟩ := h
                refine ⟨false, ?_⟩
                try cbv
                first | refine ⟨rfl, (M.lock_iff _).2 hb, l38, hz, ?_⟩ | refine ⟨(M.lock_iff _).2 hb, l38, hz, ?_⟩
                clear hb hz
                try cbv
                replace h := letF_inv h
                obtain ⟨z39, hz, h⟩ := h
                refine ⟨z39, hz, ?_⟩
                clear hz
                try cbv
                exact loop_next (m2, (l38, z39)) [1, 2, 3, 5, 6, 7, 10, 33, 34, 35, 58, 59, 60] [.loc 0, .loc 256, .loc 480, .loc 1632] 1664 ⟨by omega, h⟩ (Nat.lt_succ_of_le (by omega)) (by cbv)
              · replace h := ite_f (Int.not_lt.2 e) h
                clear e
                try cbv
                replace h := bO1_inv h
                obtain ⟨s40, hr, h⟩ := h
                refine ⟨[], ?_⟩
                try cbv
                refine call_pure hM hI (T76 _ hr) rfl ?_
                clear hr
                try cbv
                replace h := bO1_inv h
                obtain ⟨s41, hr, h⟩ := h
                refine ⟨[], ?_⟩
                try cbv
                refine call_with hM hI [.loc 480] (T75 _ hr) rfl (by simp) ⟨rfl, trivial⟩ ⟨trivial, trivial⟩ (by simp) ?_
                clear hr
                try cbv
                refine drawn ?_ ?_
                · show _ = true
                  kernel_rfl
                try cbv
                replace h := bO1_inv h
                obtain ⟨s42, hr, h⟩ := h
                refine ⟨[], ?_⟩
                try cbv
                refine call_pure hM hI (T77 _ hr) rfl ?_
                clear hr
                try cbv
                replace h := bO1_inv h
                obtain ⟨s43, hr, h⟩ := h
                refine ⟨[], ?_⟩
                try cbv
                refine call_with hM hI [.loc 480] (T75 _ hr) rfl (by simp) ⟨rfl, trivial⟩ ⟨trivial, trivial⟩ (by simp) ?_
                clear hr
                try cbv
                refine drawn ?_ ?_
                · show _ = true
                  kernel_rfl
                try cbv
                replace h := bO1_inv h
                obtain ⟨s44, hr, h⟩ := h
                refine call_go rfl rfl ?_
                try cbv
                refine call_with hM hI [.loc 480] (T75 _ hr) rfl (by simp) ⟨rfl, trivial⟩ ⟨trivial, trivial⟩ (by simp) ?_
                clear hr
                try cbv
                obtain rfl := Option.some.inj h
                refine fin_go ?_
                try cbv
                exact ⟨[], rfl, rfl, trivial, trivial, trivial⟩
          · replace h := ite_f e h
            clear e
            try cbv
            replace h := bO1_inv h
            obtain ⟨s45, hr, h⟩ := h
            refine ⟨[], ?_⟩
            try cbv
            refine call_pure hM hI (T44 _ hr) rfl ?_
            clear hr
            try cbv
            replace h := bO1_inv h
            obtain ⟨s46, hr, h⟩ := h
            refine ⟨[], ?_⟩
            try cbv
            refine call_with hM hI [.loc 480] (T75 _ hr) rfl (by simp) ⟨rfl, trivial⟩ ⟨trivial, trivial⟩ (by simp) ?_
            clear hr
            try cbv
            refine drawn ?_ ?_
            · show _ = true
              kernel_rfl
            try cbv
            replace h := lenF_inv M h
            obtain ⟨z47, hz, h⟩ := h
            refine ⟨z47, hz, ?_⟩
            clear hz
            try cbv
            refine loop_invT (T := Nat × List D × Int) [.slot 10 false 1 9] [1, 2, 3, 5, 6, 7, 10, 33, 34, 35, 58, 59, 60] [.loc 0, .loc 256, .loc 480, .loc 1632] 1664 (fun t => ⟨[(1, .v (.c (.ptr (.loc 0) 0))), (2, .v (.d (.str ByteArray.empty))), (3, .v (.c (.ptr (.loc 256) 0))), (5, .v (.c (.ptr (.loc 480) 0))), (6, .v (.c (.fn 75 [.loc 480]))), (7, .v (.d (.str s22))), (10, .v (.c (.lst (.loc 1632) false 1 t.2.1))), (33, .v (.d (.list false 1 l6))), (34, .v (.d (.int .i64 z21))), (35, .v (.d (.int .i64 z23))), (58, .v (.d (.list false 1 l5))), (59, .v (.d (.int .i64 z47))), (60, .v (.d (.int .i64 t.2.2)))], [(.loc 0, .cells [.d (.int .u8 z1), .d (.int .i64 z2), .d (.int .i64 z3), .d (.int .i64 z4), .d (.list false 1 l5), .d (.list false 1 l6), .d (.int .i64 z7), .d (.str s8), .d (.list false 1 l9)]), (.loc 256, .cells [.d (.str s10), .d (.int .i64 z11), .d (.int .i64 z12), .d (.bool b13), .d (.bool b14), .d (.bool b15), .d (.bool b16), .d (.list false 1 l17)]), (.loc 480, .cells [.d (.str s46)]), (.loc 1632, .tok t.2.1.length 1 9)], 1664⟩)
              (fun t => t.1 ≤ m1 ∧ L62_3 t.1 l5 z7 s8 b14 b15 b16 s46 z47 t.2.1 t.2.2 = some r1) (fun t => t.1) (m1, (([] : List D), (0 : Int))) ⟨Nat.le_refl _, h⟩ (by cbv) ?_
            clear h
            rintro ⟨m3, l48, z49⟩ ⟨hm3, h⟩
            replace hm3 : m3 ≤ m1 := hm3
            cases m3 with
            | zero => cases (show (none : Option _) = some _ from h)
            | succ m3 =>
              replace h : L62_3 (m3 + 1) l5 z7 s8 b14 b15 b16 s46 z47 l48 z49 = some r1 := h
              rw [L62_3] at h
              try cbv
              refine splitL (fun e => ?_) (fun e => ?_)
              · replace h := ite_t e h
                clear e
                try cbv
                replace h := getF_inv h
                obtain ⟨x50, ⟨hx0, hx⟩, h⟩ := h
                refine ⟨x50, hx0, hx, ?_⟩
                clear hx0 hx
                replace h := ds_i64_inv h
                obtain ⟨z51, rfl, h⟩ := h
                try cbv
                replace h := bO1_inv h
                obtain ⟨s52, hr, h⟩ := h
                refine call_go rfl rfl ?_
                try cbv
                refine call_pure hM hI (T44 _ hr) rfl ?_
                clear hr
                try cbv
                refine ⟨false, ?_⟩
                try cbv
                refine ⟨true, ?_⟩
                try cbv
                replace h := appF_inv h
                obtain ⟨l53, hb, hz, h⟩ := h
                refine ⟨false, ?_⟩
                try cbv
                first | refine ⟨rfl, (M.lock_iff _).2 hb, l53, hz, ?_⟩ | refine ⟨(M.lock_iff _).2 hb, l53, hz, ?_⟩
                clear hb hz
                try cbv
                replace h := letF_inv h
                obtain ⟨z54, hz, h⟩ := h
                refine ⟨z54, hz, ?_⟩
                clear hz
                try cbv
                exact loop_next (m3, (l53, z54)) [1, 2, 3, 5, 6, 7, 10, 33, 34, 35, 58, 59, 60] [.loc 0, .loc 256, .loc 480, .loc 1632] 1664 ⟨by omega, h⟩ (Nat.lt_succ_of_le (by omega)) (by cbv)
              · replace h := ite_f (Int.not_lt.2 e) h
                clear e
                try cbv
                replace h := bO1_inv h
                obtain ⟨s55, hr, h⟩ := h
                refine ⟨[], ?_⟩
                try cbv
                refine call_pure hM hI (T76 _ hr) rfl ?_
                clear hr
                try cbv
                replace h := bO1_inv h
                obtain ⟨s56, hr, h⟩ := h
                refine ⟨[], ?_⟩
                try cbv
                refine call_with hM hI [.loc 480] (T75 _ hr) rfl (by simp) ⟨rfl, trivial⟩ ⟨trivial, trivial⟩ (by simp) ?_
                clear hr
                try cbv
                refine drawn ?_ ?_
                · show _ = true
                  kernel_rfl
                try cbv
                replace h := bO1_inv h
                obtain ⟨s57, hr, h⟩ := h
                refine ⟨[], ?_⟩
                try cbv
                refine call_pure hM hI (T77 _ hr) rfl ?_
                clear hr
                try cbv
                replace h := bO1_inv h
                obtain ⟨s58, hr, h⟩ := h
                refine ⟨[], ?_⟩
                try cbv
                refine call_with hM hI [.loc 480] (T75 _ hr) rfl (by simp) ⟨rfl, trivial⟩ ⟨trivial, trivial⟩ (by simp) ?_
                clear hr
                try cbv
                refine drawn ?_ ?_
                · show _ = true
                  kernel_rfl
                try cbv
                replace h := bO1_inv h
                obtain ⟨s59, hr, h⟩ := h
                refine call_go rfl rfl ?_
                try cbv
                refine call_with hM hI [.loc 480] (T75 _ hr) rfl (by simp) ⟨rfl, trivial⟩ ⟨trivial, trivial⟩ (by simp) ?_
                clear hr
                try cbv
                obtain rfl := Option.some.inj h
                refine fin_go ?_
                try cbv
                exact ⟨[], rfl, rfl, trivial, trivial, trivial⟩
    · replace h := ite_f e h
      clear e
      try cbv
      replace h := bO1_inv h
      obtain ⟨s60, hr, h⟩ := h
      refine ⟨[], ?_⟩
      try cbv
      refine call_pure hM hI (T44 _ hr) rfl ?_
      clear hr
      try cbv
      replace h := bO1_inv h
      obtain ⟨s61, hr, h⟩ := h
      refine ⟨[], ?_⟩
      try cbv
      refine call_with hM hI [.loc 480] (T75 _ hr) rfl (by simp) ⟨rfl, trivial⟩ ⟨trivial, trivial⟩ (by simp) ?_
      clear hr
      try cbv
      refine drawn ?_ ?_
      · show _ = true
        kernel_rfl
      try cbv
      replace h := lenF_inv M h
      obtain ⟨z62, hz, h⟩ := h
      refine ⟨z62, hz, ?_⟩
      clear hz
      try cbv
      refine loop_inv (T := Nat × ByteArray × Int) [1, 2, 3, 5, 6, 7, 33, 34, 35] [.loc 0, .loc 256, .loc 480] 1024 (fun t => ⟨[(1, .v (.c (.ptr (.loc 0) 0))), (2, .v (.d (.str ByteArray.empty))), (3, .v (.c (.ptr (.loc 256) 0))), (5, .v (.c (.ptr (.loc 480) 0))), (6, .v (.c (.fn 75 [.loc 480]))), (7, .v (.d (.str t.2.1))), (33, .v (.d (.list false 1 l6))), (34, .v (.d (.int .i64 z62))), (35, .v (.d (.int .i64 t.2.2)))], [(.loc 0, .cells [.d (.int .u8 z1), .d (.int .i64 z2), .d (.int .i64 z3), .d (.int .i64 z4), .d (.list false 1 l5), .d (.list false 1 l6), .d (.int .i64 z7), .d (.str s8), .d (.list false 1 l9)]), (.loc 256, .cells [.d (.str s10), .d (.int .i64 z11), .d (.int .i64 z12), .d (.bool b13), .d (.bool b14), .d (.bool b15), .d (.bool b16), .d (.list false 1 l17)]), (.loc 480, .cells [.d (.str s61)])], 1024⟩)
        (fun t => t.1 ≤ n ∧ L62_4 t.1 z3 l5 l6 z7 s8 z12 b13 b14 b15 b16 s61 z62 t.2.1 t.2.2 = some r1) (fun t => t.1) (n, (ByteArray.empty, (0 : Int))) ⟨Nat.le_refl _, h⟩ (by cbv) ?_
      clear h
      rintro ⟨m4, s63, z64⟩ ⟨hm4, h⟩
      replace hm4 : m4 ≤ n := hm4
      cases m4 with
      | zero => cases (show (none : Option _) = some _ from h)
      | succ m4 =>
        replace h : L62_4 (m4 + 1) z3 l5 l6 z7 s8 z12 b13 b14 b15 b16 s61 z62 s63 z64 = some r1 := h
        rw [L62_4] at h
        try cbv
        refine splitL (fun e => ?_) (fun e => ?_)
        · replace h := ite_t e h
          clear e
          try cbv
          replace h := getF_inv h
          obtain ⟨x65, ⟨hx0, hx⟩, h⟩ := h
          refine ⟨x65, hx0, hx, ?_⟩
          clear hx0 hx
          replace h := ds_str_inv h
          obtain ⟨s66, rfl, h⟩ := h
          try cbv
          replace h := catF_inv h
          obtain ⟨s67, hz, hb, h⟩ := h
          refine ⟨s67, hz, hb, ?_⟩
          clear hb hz
          try cbv
          replace h := catF_inv h
          obtain ⟨s68, hz, hb, h⟩ := h
          refine ⟨s68, hz, hb, ?_⟩
          clear hb hz
          try cbv
          replace h := letF_inv h
          obtain ⟨z69, hz, h⟩ := h
          refine ⟨z69, hz, ?_⟩
          clear hz
          try cbv
          exact loop_next (m4, (s68, z69)) [1, 2, 3, 5, 6, 7, 33, 34, 35] [.loc 0, .loc 256, .loc 480] 1024 ⟨by omega, h⟩ (Nat.lt_succ_of_le (by omega)) (by cbv)
        · replace h := ite_f (Int.not_lt.2 e) h
          clear e
          try cbv
          replace h := bO1_inv h
          obtain ⟨s70, hr, h⟩ := h
          refine call_go rfl rfl ?_
          try cbv
          refine call_with hM hI [.loc 480] (T75 _ hr) rfl (by simp) ⟨rfl, trivial⟩ ⟨trivial, trivial⟩ (by simp) ?_
          clear hr
          try cbv
          refine splitI (fun e => ?_) (fun e => ?_)
          · replace h := ite_t e h
            clear e
            try cbv
            replace h := bO1_inv h
            obtain ⟨s71, hr, h⟩ := h
            refine ⟨[], ?_⟩
            try cbv
            refine call_pure hM hI (T44 _ hr) rfl ?_
            clear hr
            try cbv
            replace h := bO1_inv h
            obtain ⟨s72, hr, h⟩ := h
            refine ⟨[], ?_⟩
            try cbv
            refine call_with hM hI [.loc 480] (T75 _ hr) rfl (by simp) ⟨rfl, trivial⟩ ⟨trivial, trivial⟩ (by simp) ?_
            clear hr
            try cbv
            refine drawn ?_ ?_
            · show _ = true
              kernel_rfl
            try cbv
            replace h := lenF_inv M h
            obtain ⟨z73, hz, h⟩ := h
            refine ⟨z73, hz, ?_⟩
            clear hz
            try cbv
            refine loop_invT (T := Nat × List D × Int) [.slot 10 false 1 9] [1, 2, 3, 5, 6, 7, 10, 33, 34, 35, 58, 59, 60] [.loc 0, .loc 256, .loc 480, .loc 1632] 1664 (fun t => ⟨[(1, .v (.c (.ptr (.loc 0) 0))), (2, .v (.d (.str ByteArray.empty))), (3, .v (.c (.ptr (.loc 256) 0))), (5, .v (.c (.ptr (.loc 480) 0))), (6, .v (.c (.fn 75 [.loc 480]))), (7, .v (.d (.str s63))), (10, .v (.c (.lst (.loc 1632) false 1 t.2.1))), (33, .v (.d (.list false 1 l6))), (34, .v (.d (.int .i64 z62))), (35, .v (.d (.int .i64 z64))), (58, .v (.d (.list false 1 l5))), (59, .v (.d (.int .i64 z73))), (60, .v (.d (.int .i64 t.2.2)))], [(.loc 0, .cells [.d (.int .u8 z1), .d (.int .i64 z2), .d (.int .i64 z3), .d (.int .i64 z4), .d (.list false 1 l5), .d (.list false 1 l6), .d (.int .i64 z7), .d (.str s8), .d (.list false 1 l9)]), (.loc 256, .cells [.d (.str s10), .d (.int .i64 z11), .d (.int .i64 z12), .d (.bool b13), .d (.bool b14), .d (.bool b15), .d (.bool b16), .d (.list false 1 l17)]), (.loc 480, .cells [.d (.str s72)]), (.loc 1632, .tok t.2.1.length 1 9)], 1664⟩)
              (fun t => t.1 ≤ m4 ∧ L62_5 t.1 l5 z7 s8 b14 b15 b16 s72 z73 t.2.1 t.2.2 = some r1) (fun t => t.1) (m4, (([] : List D), (0 : Int))) ⟨Nat.le_refl _, h⟩ (by cbv) ?_
            clear h
            rintro ⟨m5, l74, z75⟩ ⟨hm5, h⟩
            replace hm5 : m5 ≤ m4 := hm5
            cases m5 with
            | zero => cases (show (none : Option _) = some _ from h)
            | succ m5 =>
              replace h : L62_5 (m5 + 1) l5 z7 s8 b14 b15 b16 s72 z73 l74 z75 = some r1 := h
              rw [L62_5] at h
              try cbv
              refine splitL (fun e => ?_) (fun e => ?_)
              · replace h := ite_t e h
                clear e
                try cbv
                replace h := getF_inv h
                obtain ⟨x76, ⟨hx0, hx⟩, h⟩ := h
                refine ⟨x76, hx0, hx, ?_⟩
                clear hx0 hx
                replace h := ds_i64_inv h
                obtain ⟨z77, rfl, h⟩ := h
                try cbv
                replace h := bO1_inv h
                obtain ⟨s78, hr, h⟩ := h
                refine call_go rfl rfl ?_
                try cbv
                refine call_pure hM hI (T44 _ hr) rfl ?_
                clear hr
                try cbv
                refine ⟨false, ?_⟩
                try cbv
                refine ⟨true, ?_⟩
                try cbv
                replace h := appF_inv h
                obtain ⟨l79, hb, hz, h⟩ := h
                refine ⟨false, ?_⟩
                try cbv
                first | refine ⟨rfl, (M.lock_iff _).2 hb, l79, hz, ?_⟩ | refine ⟨(M.lock_iff _).2 hb, l79, hz, ?_⟩
                clear hb hz
                try cbv
                replace h := letF_inv h
                obtain ⟨z80, hz, h⟩ := h
                refine ⟨z80, hz, ?_⟩
                clear hz
                try cbv
                exact loop_next (m5, (l79, z80)) [1, 2, 3, 5, 6, 7, 10, 33, 34, 35, 58, 59, 60] [.loc 0, .loc 256, .loc 480, .loc 1632] 1664 ⟨by omega, h⟩ (Nat.lt_succ_of_le (by omega)) (by cbv)
              · replace h := ite_f (Int.not_lt.2 e) h
                clear e
                try cbv
                replace h := bO1_inv h
                obtain ⟨s81, hr, h⟩ := h
                refine ⟨[], ?_⟩
                try cbv
                refine call_pure hM hI (T76 _ hr) rfl ?_
                clear hr
                try cbv
                replace h := bO1_inv h
                obtain ⟨s82, hr, h⟩ := h
                refine ⟨[], ?_⟩
                try cbv
                refine call_with hM hI [.loc 480] (T75 _ hr) rfl (by simp) ⟨rfl, trivial⟩ ⟨trivial, trivial⟩ (by simp) ?_
                clear hr
                try cbv
                refine drawn ?_ ?_
                · show _ = true
                  kernel_rfl
                try cbv
                replace h := bO1_inv h
                obtain ⟨s83, hr, h⟩ := h
                refine ⟨[], ?_⟩
                try cbv
                refine call_pure hM hI (T77 _ hr) rfl ?_
                clear hr
                try cbv
                replace h := bO1_inv h
                obtain ⟨s84, hr, h⟩ := h
                refine ⟨[], ?_⟩
                try cbv
                refine call_with hM hI [.loc 480] (T75 _ hr) rfl (by simp) ⟨rfl, trivial⟩ ⟨trivial, trivial⟩ (by simp) ?_
                clear hr
                try cbv
                refine drawn ?_ ?_
                · show _ = true
                  kernel_rfl
                try cbv
                replace h := bO1_inv h
                obtain ⟨s85, hr, h⟩ := h
                refine call_go rfl rfl ?_
                try cbv
                refine call_with hM hI [.loc 480] (T75 _ hr) rfl (by simp) ⟨rfl, trivial⟩ ⟨trivial, trivial⟩ (by simp) ?_
                clear hr
                try cbv
                obtain rfl := Option.some.inj h
                refine fin_go ?_
                try cbv
                exact ⟨[], rfl, rfl, trivial, trivial, trivial⟩
          · replace h := ite_f e h
            clear e
            try cbv
            replace h := bO1_inv h
            obtain ⟨s86, hr, h⟩ := h
            refine ⟨[], ?_⟩
            try cbv
            refine call_pure hM hI (T44 _ hr) rfl ?_
            clear hr
            try cbv
            replace h := bO1_inv h
            obtain ⟨s87, hr, h⟩ := h
            refine ⟨[], ?_⟩
            try cbv
            refine call_with hM hI [.loc 480] (T75 _ hr) rfl (by simp) ⟨rfl, trivial⟩ ⟨trivial, trivial⟩ (by simp) ?_
            clear hr
            try cbv
            refine drawn ?_ ?_
            · show _ = true
              kernel_rfl
            try cbv
            replace h := lenF_inv M h
            obtain ⟨z88, hz, h⟩ := h
            refine ⟨z88, hz, ?_⟩
            clear hz
            try cbv
            refine loop_invT (T := Nat × List D × Int) [.slot 10 false 1 9] [1, 2, 3, 5, 6, 7, 10, 33, 34, 35, 58, 59, 60] [.loc 0, .loc 256, .loc 480, .loc 1632] 1664 (fun t => ⟨[(1, .v (.c (.ptr (.loc 0) 0))), (2, .v (.d (.str ByteArray.empty))), (3, .v (.c (.ptr (.loc 256) 0))), (5, .v (.c (.ptr (.loc 480) 0))), (6, .v (.c (.fn 75 [.loc 480]))), (7, .v (.d (.str s63))), (10, .v (.c (.lst (.loc 1632) false 1 t.2.1))), (33, .v (.d (.list false 1 l6))), (34, .v (.d (.int .i64 z62))), (35, .v (.d (.int .i64 z64))), (58, .v (.d (.list false 1 l5))), (59, .v (.d (.int .i64 z88))), (60, .v (.d (.int .i64 t.2.2)))], [(.loc 0, .cells [.d (.int .u8 z1), .d (.int .i64 z2), .d (.int .i64 z3), .d (.int .i64 z4), .d (.list false 1 l5), .d (.list false 1 l6), .d (.int .i64 z7), .d (.str s8), .d (.list false 1 l9)]), (.loc 256, .cells [.d (.str s10), .d (.int .i64 z11), .d (.int .i64 z12), .d (.bool b13), .d (.bool b14), .d (.bool b15), .d (.bool b16), .d (.list false 1 l17)]), (.loc 480, .cells [.d (.str s87)]), (.loc 1632, .tok t.2.1.length 1 9)], 1664⟩)
              (fun t => t.1 ≤ m4 ∧ L62_6 t.1 l5 z7 s8 b14 b15 b16 s87 z88 t.2.1 t.2.2 = some r1) (fun t => t.1) (m4, (([] : List D), (0 : Int))) ⟨Nat.le_refl _, h⟩ (by cbv) ?_
            clear h
            rintro ⟨m6, l89, z90⟩ ⟨hm6, h⟩
            replace hm6 : m6 ≤ m4 := hm6
            cases m6 with
            | zero => cases (show (none : Option _) = some _ from h)
            | succ m6 =>
              replace h : L62_6 (m6 + 1) l5 z7 s8 b14 b15 b16 s87 z88 l89 z90 = some r1 := h
              rw [L62_6] at h
              try cbv
              refine splitL (fun e => ?_) (fun e => ?_)
              · replace h := ite_t e h
                clear e
                try cbv
                replace h := getF_inv h
                obtain ⟨x91, ⟨hx0, hx⟩, h⟩ := h
                refine ⟨x91, hx0, hx, ?_⟩
                clear hx0 hx
                replace h := ds_i64_inv h
                obtain ⟨z92, rfl, h⟩ := h
                try cbv
                replace h := bO1_inv h
                obtain ⟨s93, hr, h⟩ := h
                refine call_go rfl rfl ?_
                try cbv
                refine call_pure hM hI (T44 _ hr) rfl ?_
                clear hr
                try cbv
                refine ⟨false, ?_⟩
                try cbv
                refine ⟨true, ?_⟩
                try cbv
                replace h := appF_inv h
                obtain ⟨l94, hb, hz, h⟩ := h
                refine ⟨false, ?_⟩
                try cbv
                first | refine ⟨rfl, (M.lock_iff _).2 hb, l94, hz, ?_⟩ | refine ⟨(M.lock_iff _).2 hb, l94, hz, ?_⟩
                clear hb hz
                try cbv
                replace h := letF_inv h
                obtain ⟨z95, hz, h⟩ := h
                refine ⟨z95, hz, ?_⟩
                clear hz
                try cbv
                exact loop_next (m6, (l94, z95)) [1, 2, 3, 5, 6, 7, 10, 33, 34, 35, 58, 59, 60] [.loc 0, .loc 256, .loc 480, .loc 1632] 1664 ⟨by omega, h⟩ (Nat.lt_succ_of_le (by omega)) (by cbv)
              · replace h := ite_f (Int.not_lt.2 e) h
                clear e
                try cbv
                replace h := bO1_inv h
                obtain ⟨s96, hr, h⟩ := h
                refine ⟨[], ?_⟩
                try cbv
                refine call_pure hM hI (T76 _ hr) rfl ?_
                clear hr
                try cbv
                replace h := bO1_inv h
                obtain ⟨s97, hr, h⟩ := h
                refine ⟨[], ?_⟩
                try cbv
                refine call_with hM hI [.loc 480] (T75 _ hr) rfl (by simp) ⟨rfl, trivial⟩ ⟨trivial, trivial⟩ (by simp) ?_
                clear hr
                try cbv
                refine drawn ?_ ?_
                · show _ = true
                  kernel_rfl
                try cbv
                replace h := bO1_inv h
                obtain ⟨s98, hr, h⟩ := h
                refine ⟨[], ?_⟩
                try cbv
                refine call_pure hM hI (T77 _ hr) rfl ?_
                clear hr
                try cbv
                replace h := bO1_inv h
                obtain ⟨s99, hr, h⟩ := h
                refine ⟨[], ?_⟩
                try cbv
                refine call_with hM hI [.loc 480] (T75 _ hr) rfl (by simp) ⟨rfl, trivial⟩ ⟨trivial, trivial⟩ (by simp) ?_
                clear hr
                try cbv
                refine drawn ?_ ?_
                · show _ = true
                  kernel_rfl
                try cbv
                replace h := bO1_inv h
                obtain ⟨s100, hr, h⟩ := h
                refine call_go rfl rfl ?_
                try cbv
                refine call_with hM hI [.loc 480] (T75 _ hr) rfl (by simp) ⟨rfl, trivial⟩ ⟨trivial, trivial⟩ (by simp) ?_
                clear hr
                try cbv
                obtain rfl := Option.some.inj h
                refine fin_go ?_
                try cbv
                exact ⟨[], rfl, rfl, trivial, trivial, trivial⟩
end Go.Proofs.YtjobleemmjjocaaDoor
end

/- Printed by lift.py: functional texts of functions, and their contracts. No condition. -/
set_option linter.unusedVariables false
noncomputable section
namespace Go.Proofs.YtjobleemmjjocaaDoor
open Go Go.AM
def F35 (n : Nat) : Option (Bool) :=
  makeF 128 (.agg [.int .u8 0, .int .i64 0, .int .i64 0, .int .i64 0, .list false 1 [], .list false 1 [], .int .i64 0, .str ByteArray.empty, .list false 1 []]) (4 : Int) (4 : Int) fun l1 => bO1 (F33 n ([.agg [.str k_main, .int .i64 0, .int .i64 3, .list true 9 l1]]) (0 : Int) ([] : List D) (0 : Int) (1 : Int) (3 : Int) (0 : Int) (0 : Int) ([] : List D) ([] : List D) (0 : Int) ByteArray.empty ([] : List D)) fun z2 => bO1 (F33 n ([.agg [.str k_main, .int .i64 0, .int .i64 3, .list true 9 l1]]) (0 : Int) ([] : List D) (0 : Int) (1 : Int) (2 : Int) (0 : Int) (0 : Int) ([] : List D) ([] : List D) (0 : Int) ByteArray.empty ([] : List D)) fun z3 => bO1 (F33 n ([.agg [.str k_main, .int .i64 0, .int .i64 3, .list true 9 l1]]) (0 : Int) ([] : List D) (0 : Int) (3 : Int) (2 : Int) (0 : Int) (0 : Int) ([] : List D) ([] : List D) (2 : Int) ByteArray.empty ([] : List D)) fun z4 => bO1 (F33 n ([.agg [.str k_main, .int .i64 0, .int .i64 3, .list true 9 l1]]) (0 : Int) ([] : List D) (0 : Int) (14 : Int) (5 : Int) (0 : Int) (0 : Int) ([] : List D) ([] : List D) (0 : Int) ByteArray.empty ([] : List D)) fun z5 => bO1 (F62 n (16 : Int) (0 : Int) (0 : Int) (0 : Int) ([.int .i64 4, .int .i64 7]) ([] : List D) (0 : Int) k_E ([] : List D)) fun s6 => bO1 (F62 n (4 : Int) (2 : Int) (0 : Int) (0 : Int) ([] : List D) ([.str k_a, .str k__]) (0 : Int) ByteArray.empty ([] : List D)) fun s7 => bO1 (F36 n (16 : Int) (0 : Int) (0 : Int) (0 : Int) ([.int .i64 4, .int .i64 7]) ([] : List D) (0 : Int) k_E ([] : List D)) fun l8 => (if z2 = (170 : Int) then (if z3 = (0 : Int) then (if z4 = (170 : Int) then (if z5 = (170 : Int) then (if s6 = k_switch_4_7_E then (if s7 = k_use_2__a__ then lenF l8 fun z9 => (if z9 = (2 : Int) then getF l8 1 fun x10 => ds_i64 x10 fun z11 => (if z11 = (7 : Int) then bO1 (F62 n (3 : Int) (1 : Int) (0 : Int) (0 : Int) ([] : List D) ([] : List D) (5 : Int) ByteArray.empty ([] : List D)) fun s12 => (if s12 = k_const_1_5 then some true else some false) else some false) else some false) else some false) else some false) else some false) else some false) else some false) else some false)
set_option maxRecDepth 100000 in
set_option maxHeartbeats 40000000 in
theorem T35 (n : Nat) : ∀ ⦃r1 : Bool⦄, F35 n = some r1 →
    Trip Tryd.prog inv 35 [] [] (.v (.d (.bool r1))) [] [] := by
  intro r1 h
  unfold F35 at h
  refine Trip.of tab_ok tab_one fol Tryd.func35 rfl (by kernel_rfl) rfl rfl rfl (fun M hM hI => ?_)
  try cbv
  replace h := makeF_inv h
  obtain ⟨l1, hb, hz, h⟩ := h
  refine ⟨(M.lock_iff _).2 hb, l1, hz, false, ?_⟩
  clear hb hz
  try cbv
  refine ⟨false, ?_⟩
  try cbv
  refine ⟨true, ?_⟩
  try cbv
  replace h := bO1_inv h
  obtain ⟨z2, hr, h⟩ := h
  refine ⟨[], ?_⟩
  try cbv
  refine call_pure hM hI (T33 _ hr) rfl ?_
  clear hr
  try cbv
  replace h := bO1_inv h
  obtain ⟨z3, hr, h⟩ := h
  refine ⟨[], ?_⟩
  try cbv
  refine call_pure hM hI (T33 _ hr) rfl ?_
  clear hr
  try cbv
  refine drawn ?_ ?_
  · show _ = true
    kernel_rfl
  try cbv
  replace h := bO1_inv h
  obtain ⟨z4, hr, h⟩ := h
  refine ⟨[], ?_⟩
  try cbv
  refine call_pure hM hI (T33 _ hr) rfl ?_
  clear hr
  try cbv
  replace h := bO1_inv h
  obtain ⟨z5, hr, h⟩ := h
  refine ⟨[], ?_⟩
  try cbv
  refine call_pure hM hI (T33 _ hr) rfl ?_
  clear hr
  try cbv
  refine drawn ?_ ?_
  · show _ = true
    kernel_rfl
  try cbv
  refine ⟨false, ?_⟩
  try cbv
  refine ⟨true, ?_⟩
  try cbv
  replace h := bO1_inv h
  obtain ⟨s6, hr, h⟩ := h
  refine call_go rfl rfl ?_
  try cbv
  refine call_pure hM hI (T62 _ hr) rfl ?_
  clear hr
  try cbv
  refine ⟨false, ?_⟩
  try cbv
  refine ⟨true, ?_⟩
  try cbv
  replace h := bO1_inv h
  obtain ⟨s7, hr, h⟩ := h
  refine call_go rfl rfl ?_
  try cbv
  refine call_pure hM hI (T62 _ hr) rfl ?_
  clear hr
  try cbv
  refine ⟨false, ?_⟩
  try cbv
  refine ⟨true, ?_⟩
  try cbv
  replace h := bO1_inv h
  obtain ⟨l8, hr, h⟩ := h
  refine call_go rfl rfl ?_
  try cbv
  refine call_pure hM hI (T36 _ hr) rfl ?_
  clear hr
  try cbv
  refine splitI (fun e => ?_) (fun e => ?_)
  · replace h := ite_t e h
    clear e
    try cbv
    refine splitI (fun e => ?_) (fun e => ?_)
    · replace h := ite_t e h
      clear e
      try cbv
      refine splitI (fun e => ?_) (fun e => ?_)
      · replace h := ite_t e h
        clear e
        try cbv
        refine splitI (fun e => ?_) (fun e => ?_)
        · replace h := ite_t e h
          clear e
          try cbv
          refine splitS (fun e => ?_) (fun e => ?_)
          · replace h := ite_t (bytes_eq.1 e) h
            clear e
            try cbv
            refine splitS (fun e => ?_) (fun e => ?_)
            · replace h := ite_t (bytes_eq.1 e) h
              clear e
              try cbv
              replace h := lenF_inv M h
              obtain ⟨z9, hz, h⟩ := h
              refine ⟨z9, hz, ?_⟩
              clear hz
              try cbv
              refine splitI (fun e => ?_) (fun e => ?_)
              · replace h := ite_t e h
                clear e
                try cbv
                replace h := getF_inv h
                obtain ⟨x10, ⟨hx0, hx⟩, h⟩ := h
                refine ⟨x10, hx0, hx, ?_⟩
                clear hx0 hx
                replace h := ds_i64_inv h
                obtain ⟨z11, rfl, h⟩ := h
                try cbv
                refine splitI (fun e => ?_) (fun e => ?_)
                · replace h := ite_t e h
                  clear e
                  try cbv
                  replace h := bO1_inv h
                  obtain ⟨s12, hr, h⟩ := h
                  refine call_go rfl rfl ?_
                  try cbv
                  refine call_pure hM hI (T62 _ hr) rfl ?_
                  clear hr
                  try cbv
                  refine splitS (fun e => ?_) (fun e => ?_)
                  · replace h := ite_t (bytes_eq.1 e) h
                    clear e
                    try cbv
                    obtain rfl := Option.some.inj h
                    refine fin_go ?_
                    try cbv
                    exact ⟨[], rfl, rfl, trivial, trivial, trivial⟩
                  · replace h := ite_f (bytes_ne.1 e) h
                    clear e
                    try cbv
                    obtain rfl := Option.some.inj h
                    refine fin_go ?_
                    try cbv
                    exact ⟨[], rfl, rfl, trivial, trivial, trivial⟩
                · replace h := ite_f e h
                  clear e
                  try cbv
                  obtain rfl := Option.some.inj h
                  refine fin_go ?_
                  try cbv
                  exact ⟨[], rfl, rfl, trivial, trivial, trivial⟩
              · replace h := ite_f e h
                clear e
                try cbv
                obtain rfl := Option.some.inj h
                refine fin_go ?_
                try cbv
                exact ⟨[], rfl, rfl, trivial, trivial, trivial⟩
            · replace h := ite_f (bytes_ne.1 e) h
              clear e
              try cbv
              obtain rfl := Option.some.inj h
              refine fin_go ?_
              try cbv
              exact ⟨[], rfl, rfl, trivial, trivial, trivial⟩
          · replace h := ite_f (bytes_ne.1 e) h
            clear e
            try cbv
            obtain rfl := Option.some.inj h
            refine fin_go ?_
            try cbv
            exact ⟨[], rfl, rfl, trivial, trivial, trivial⟩
        · replace h := ite_f e h
          clear e
          try cbv
          obtain rfl := Option.some.inj h
          refine fin_go ?_
          try cbv
          exact ⟨[], rfl, rfl, trivial, trivial, trivial⟩
      · replace h := ite_f e h
        clear e
        try cbv
        obtain rfl := Option.some.inj h
        refine fin_go ?_
        try cbv
        exact ⟨[], rfl, rfl, trivial, trivial, trivial⟩
    · replace h := ite_f e h
      clear e
      try cbv
      obtain rfl := Option.some.inj h
      refine fin_go ?_
      try cbv
      exact ⟨[], rfl, rfl, trivial, trivial, trivial⟩
  · replace h := ite_f e h
    clear e
    try cbv
    obtain rfl := Option.some.inj h
    refine fin_go ?_
    try cbv
    exact ⟨[], rfl, rfl, trivial, trivial, trivial⟩
end Go.Proofs.YtjobleemmjjocaaDoor
end

/- Chapter 17, the plain law, part D: the rows of the chapter that are asked outright. No condition. -/
set_option linter.unusedVariables false
noncomputable section
namespace Go.Proofs.YtjobleemmjjocaaDoor
open Go Go.AM

theorem a1 (m : Nat) (l : List D) (hl : l.length = 4) : F33 (m + 20) ([.agg [.str k_main, .int .i64 0, .int .i64 3, .list true 9 l]]) (0 : Int) ([] : List D) (0 : Int) (1 : Int) (3 : Int) (0 : Int) (0 : Int) ([] : List D) ([] : List D) (0 : Int) ByteArray.empty ([] : List D) = some 170 := by
  match l, hl with
  | [_, _, _, _], _ => rfl
theorem a2 (m : Nat) (l : List D) (hl : l.length = 4) : F33 (m + 20) ([.agg [.str k_main, .int .i64 0, .int .i64 3, .list true 9 l]]) (0 : Int) ([] : List D) (0 : Int) (1 : Int) (2 : Int) (0 : Int) (0 : Int) ([] : List D) ([] : List D) (0 : Int) ByteArray.empty ([] : List D) = some 0 := by
  match l, hl with
  | [_, _, _, _], _ => rfl
theorem a3 (m : Nat) (l : List D) (hl : l.length = 4) : F33 (m + 20) ([.agg [.str k_main, .int .i64 0, .int .i64 3, .list true 9 l]]) (0 : Int) ([] : List D) (0 : Int) (3 : Int) (2 : Int) (0 : Int) (0 : Int) ([] : List D) ([] : List D) (2 : Int) ByteArray.empty ([] : List D) = some 170 := by
  match l, hl with
  | [_, _, _, _], _ => rfl
theorem a4 (m : Nat) (l : List D) (hl : l.length = 4) : F33 (m + 20) ([.agg [.str k_main, .int .i64 0, .int .i64 3, .list true 9 l]]) (0 : Int) ([] : List D) (0 : Int) (14 : Int) (5 : Int) (0 : Int) (0 : Int) ([] : List D) ([] : List D) (0 : Int) ByteArray.empty ([] : List D) = some 170 := by
  match l, hl with
  | [_, _, _, _], _ => rfl
theorem a5 (m : Nat) : F62 (m + 20) (16 : Int) (0 : Int) (0 : Int) (0 : Int) ([.int .i64 4, .int .i64 7]) ([] : List D) (0 : Int) k_E ([] : List D) = some k_switch_4_7_E := by kernel_rfl
theorem a6 (m : Nat) : F62 (m + 20) (4 : Int) (2 : Int) (0 : Int) (0 : Int) ([] : List D) ([.str k_a, .str k__]) (0 : Int) ByteArray.empty ([] : List D) = some k_use_2__a__ := by kernel_rfl
theorem a7 (m : Nat) : F62 (m + 20) (3 : Int) (1 : Int) (0 : Int) (0 : Int) ([] : List D) ([] : List D) (5 : Int) ByteArray.empty ([] : List D) = some k_const_1_5 := by kernel_rfl
theorem e63 (n : Nat) (l : List D) (h : l.length ≤ maxLen ∧ l.length * 8 ≤ 140737488355328) : F63 n l = some l := by
  have e : (appF 8 [] l fun l2 => some l2) = some l := by
    unfold appF
    rw [if_pos (by simpa using h)]; rfl
  unfold F63
  rw [nilF_eq (fun h => by subst h; simp [appF]), e]
theorem a8 (n : Nat) : F36 n (16 : Int) (0 : Int) (0 : Int) (0 : Int) ([.int .i64 4, .int .i64 7]) ([] : List D) (0 : Int) k_E ([] : List D) = some [.int .i64 4, .int .i64 7] := by
  have e := e63 n [.int .i64 4, .int .i64 7] (by decide)
  simp only [F36, ↓reduceIte, Int.reduceEq, e, bO1]
end Go.Proofs.YtjobleemmjjocaaDoor
end

/- Chapter 17, the plain law, part E: the rows of the chapter that are asked outright hold. No condition. -/
set_option linter.unusedVariables false
noncomputable section
namespace Go.Proofs.YtjobleemmjjocaaDoor
open Go Go.AM

theorem bO1_some {α γ : Type} (a : α) (k : α → Option γ) : bO1 (some a) k = k a := rfl
theorem lenF_eq {γ : Type} (l : List D) (k : Int → Option γ) : lenF l k = k l.length := rfl
theorem ds_i64_eq {γ : Type} (z : Int) (k : Int → Option γ) : ds_i64 (.int .i64 z) k = k z := rfl
theorem ev35 : Ev (fun n => F35 n) true := by
  refine ⟨20, fun n hn => ?_⟩
  obtain ⟨m, rfl⟩ : ∃ m, n = m + 20 := ⟨n - 20, by omega⟩
  show F35 (m + 20) = some true
  unfold F35 makeF
  rw [if_pos (by omega)]
  generalize hL : List.replicate (Int.toNat 4) (D.agg [.int .u8 0, .int .i64 0, .int .i64 0, .int .i64 0, .list false 1 [], .list false 1 [], .int .i64 0, .str ByteArray.empty, .list false 1 []]) = L
  have hl : L.length = 4 := by rw [← hL]; simp
  clear hL
  dsimp only
  generalize hM : m + 20 = M
  have h1 := a1 m L hl
  have h2 := a2 m L hl
  have h3 := a3 m L hl
  have h4 := a4 m L hl
  have h5 := a5 m
  have h6 := a6 m
  have h7 := a7 m
  have h8 := a8 M
  rw [hM] at h1 h2 h3 h4 h5 h6 h7
  clear hM hn
  rw [h1, bO1_some, h2, bO1_some, h3, bO1_some, h4, bO1_some, h5, bO1_some, h6, bO1_some, h8, bO1_some]
  rw [if_pos rfl, if_pos rfl, if_pos rfl, if_pos rfl, if_pos rfl, if_pos rfl, lenF_eq]
  rw [if_pos (show (([D.int IntKind.i64 4, D.int IntKind.i64 7].length : Nat) : Int) = 2 from rfl), getF_some (by omega) (show [D.int .i64 4, D.int .i64 7][Int.toNat 1]? = some (.int .i64 7) from rfl)]
  rw [ds_i64_eq, if_pos rfl, h7, bO1_some, if_pos rfl]
end Go.Proofs.YtjobleemmjjocaaDoor
end
