/- CodeOthers: fields that an Op has not may not be set. No condition. (Part 6: YtjobleemmjjocaaDoorX32, YtjobleemmjjocaaDoorX31, YtjobleemmjjocaaDoorX10, CdF, AmR, YtjobleemmjjocaaDoorX12, CdI, CdIh.) -/
import Derived.Carry
import Derived.ChangeSame
import Derived.ChangeOld
import Derived.ChangeCalls
import Derived.WideShapes
import Derived.Test.YtjobleemmjjocaaDoorRows
import Derived.Test.YtjobleemmjjocaaDoorTie
import Derived.Test.YtjobleemmjjocaaDoorCards
import Derived.JoinedOf
import Derived.JoinedAt
import Derived.RowKit
import Derived.RowKit2
import Derived.ReadAgain
import Derived.ChangeAlike
import Derived.Lay
import Derived.Handed
import Derived.LaidSub
import Derived.LaidLaws
import Derived.LaidHandle
import Derived.MakeChecks
import Derived.SevenTiedAt
import Derived.Lib.LaidTab
import Derived.Lib.LaidU8
import Derived.Test.YtjobleemmjjocaaDoorCodE
set_option linter.unusedVariables false
set_option linter.unusedSimpArgs false
/- Printed by lift.py: functional texts of functions, and their contracts. No condition. -/
set_option linter.unusedVariables false
noncomputable section
namespace Go.Proofs.YtjobleemmjjocaaDoor
open Go Go.AM
def L32_1 : Nat → (List D) → Int → Option (Bool)
  | 0, _, _ => none
  | n + 1, l6, z14 =>
    lenF l6 fun z15 => (if z14 < z15 then getF l6 z14 fun x16 => ds_str x16 fun s17 => szF s17 fun z18 => (if (1000 : Int) < z18 then some true else letF (IntKind.wrap .i64 (z14 + 1)) fun z19 => L32_1 n l6 z19) else some false)
def F32 (n : Nat) (z1 : Int) (z2 : Int) (z3 : Int) (z4 : Int) (l5 : List D) (l6 : List D) (z7 : Int) (s8 : ByteArray) (l9 : List D) : Option (Bool) :=
  lenF l6 fun z10 => (if (60 : Int) < z10 then some true else lenF l5 fun z11 => (if (60 : Int) < z11 then some true else lenF l9 fun z12 => (if (60 : Int) < z12 then some true else szF s8 fun z13 => (if (1000 : Int) < z13 then some true else L32_1 n l6 (0 : Int)))))
set_option maxRecDepth 100000 in
set_option maxHeartbeats 40000000 in
theorem T32 (n : Nat) : ∀ ⦃z1 : Int⦄ ⦃z2 : Int⦄ ⦃z3 : Int⦄ ⦃z4 : Int⦄ ⦃l5 : List D⦄ ⦃l6 : List D⦄ ⦃z7 : Int⦄ ⦃s8 : ByteArray⦄ ⦃l9 : List D⦄ ⦃r1 : Bool⦄, F32 n z1 z2 z3 z4 l5 l6 z7 s8 l9 = some r1 →
    Trip Tryd.prog inv 32 [.d (.agg [.int .u8 z1, .int .i64 z2, .int .i64 z3, .int .i64 z4, .list false 1 l5, .list false 1 l6, .int .i64 z7, .str s8, .list false 1 l9])] [] (.v (.d (.bool r1))) [] [] := by
  intro z1 z2 z3 z4 l5 l6 z7 s8 l9 r1 h
  unfold F32 at h
  refine Trip.of tab_ok tab_one fol Tryd.func32 rfl (by kernel_rfl) rfl rfl rfl (fun M hM hI => ?_)
  try cbv
  replace h := lenF_inv M h
  obtain ⟨z10, hz, h⟩ := h
  refine ⟨z10, hz, ?_⟩
  clear hz
  try cbv
  refine splitL (fun e => ?_) (fun e => ?_)
  · replace h := ite_t e h
    clear e
    try cbv
    obtain rfl := Option.some.inj h
    refine fin_go ?_
    try cbv
    exact ⟨[], rfl, rfl, trivial, trivial, trivial⟩
  · replace h := ite_f (Int.not_lt.2 e) h
    clear e
    try cbv
    replace h := lenF_inv M h
    obtain ⟨z11, hz, h⟩ := h
    refine ⟨z11, hz, ?_⟩
    clear hz
    try cbv
    refine splitL (fun e => ?_) (fun e => ?_)
    · replace h := ite_t e h
      clear e
      try cbv
      obtain rfl := Option.some.inj h
      refine fin_go ?_
      try cbv
      exact ⟨[], rfl, rfl, trivial, trivial, trivial⟩
    · replace h := ite_f (Int.not_lt.2 e) h
      clear e
      try cbv
      replace h := lenF_inv M h
      obtain ⟨z12, hz, h⟩ := h
      refine ⟨z12, hz, ?_⟩
      clear hz
      try cbv
      refine splitL (fun e => ?_) (fun e => ?_)
      · replace h := ite_t e h
        clear e
        try cbv
        obtain rfl := Option.some.inj h
        refine fin_go ?_
        try cbv
        exact ⟨[], rfl, rfl, trivial, trivial, trivial⟩
      · replace h := ite_f (Int.not_lt.2 e) h
        clear e
        try cbv
        replace h := szF_inv M h
        obtain ⟨z13, hz, h⟩ := h
        refine ⟨z13, hz, ?_⟩
        clear hz
        try cbv
        refine splitL (fun e => ?_) (fun e => ?_)
        · replace h := ite_t e h
          clear e
          try cbv
          obtain rfl := Option.some.inj h
          refine fin_go ?_
          try cbv
          exact ⟨[], rfl, rfl, trivial, trivial, trivial⟩
        · replace h := ite_f (Int.not_lt.2 e) h
          clear e
          try cbv
          refine loop_inv (T := Nat × Int) [1, 2, 3] [.loc 0] 800 (fun t => ⟨[(1, .v (.c (.ptr (.loc 0) 0))), (2, .v (.d (.bool false))), (3, .v (.d (.int .i64 t.2)))], [(.loc 0, .cells [.d (.int .u8 z1), .d (.int .i64 z2), .d (.int .i64 z3), .d (.int .i64 z4), .d (.list false 1 l5), .d (.list false 1 l6), .d (.int .i64 z7), .d (.str s8), .d (.list false 1 l9)])], 800⟩)
            (fun t => t.1 ≤ n ∧ L32_1 t.1 l6 t.2 = some r1) (fun t => t.1) (n, (0 : Int)) ⟨Nat.le_refl _, h⟩ (by cbv) ?_
          clear h
          rintro ⟨m1, z14⟩ ⟨hm1, h⟩
          replace hm1 : m1 ≤ n := hm1
          cases m1 with
          | zero => cases (show (none : Option _) = some _ from h)
          | succ m1 =>
            replace h : L32_1 (m1 + 1) l6 z14 = some r1 := h
            rw [L32_1] at h
            try cbv
            replace h := lenF_inv M h
            obtain ⟨z15, hz, h⟩ := h
            refine ⟨z15, hz, ?_⟩
            clear hz
            try cbv
            refine splitL (fun e => ?_) (fun e => ?_)
            · replace h := ite_t e h
              clear e
              try cbv
              replace h := getF_inv h
              obtain ⟨x16, ⟨hx0, hx⟩, h⟩ := h
              refine ⟨x16, hx0, hx, ?_⟩
              clear hx0 hx
              replace h := ds_str_inv h
              obtain ⟨s17, rfl, h⟩ := h
              try cbv
              replace h := szF_inv M h
              obtain ⟨z18, hz, h⟩ := h
              refine ⟨z18, hz, ?_⟩
              clear hz
              try cbv
              refine splitL (fun e => ?_) (fun e => ?_)
              · replace h := ite_t e h
                clear e
                try cbv
                obtain rfl := Option.some.inj h
                refine fin_go ?_
                try cbv
                exact ⟨[], rfl, rfl, trivial, trivial, trivial⟩
              · replace h := ite_f (Int.not_lt.2 e) h
                clear e
                try cbv
                replace h := letF_inv h
                obtain ⟨z19, hz, h⟩ := h
                refine ⟨z19, hz, ?_⟩
                clear hz
                try cbv
                exact loop_next (m1, z19) [1, 2, 3] [.loc 0] 800 ⟨by omega, h⟩ (Nat.lt_succ_of_le (by omega)) (by cbv)
            · replace h := ite_f (Int.not_lt.2 e) h
              clear e
              try cbv
              obtain rfl := Option.some.inj h
              refine fin_go ?_
              try cbv
              exact ⟨[], rfl, rfl, trivial, trivial, trivial⟩
end Go.Proofs.YtjobleemmjjocaaDoor
end

/- Printed by lift.py: functional texts of functions, and their contracts. No condition. -/
set_option linter.unusedVariables false
noncomputable section
namespace Go.Proofs.YtjobleemmjjocaaDoor
open Go Go.AM
def L31_3 : Nat → (List D) → Int → Option (Bool)
  | 0, _, _ => none
  | n + 1, l3, z45 =>
    lenF l3 fun z46 => (if z45 < z46 then getF l3 z45 fun x47 => ds_t82 x47 fun z48 s49 l50 z51 s52 l53 l54 z55 z56 s57 s58 s59 l60 l61 z62 z63 => lenF l50 fun z64 => (if (20 : Int) < z64 then some true else getF l3 z45 fun x65 => ds_t82 x65 fun z66 s67 l68 z69 s70 l71 l72 z73 z74 s75 s76 s77 l78 l79 z80 z81 => szF s67 fun z82 => (if (1000 : Int) < z82 then some true else letF (IntKind.wrap .i64 (z45 + 1)) fun z83 => L31_3 n l3 z83)) else some false)
mutual
def L31_1 : Nat → (List D) → (List D) → Int → Option (Bool)
  | 0, _, _, _ => none
  | n + 1, l1, l3, z6 =>
    lenF l1 fun z7 => (if z6 < z7 then getF l1 z6 fun x8 => ds_t56 x8 fun s9 z10 z11 l12 => lenF l12 fun z13 => (if (300 : Int) < z13 then some true else getF l1 z6 fun x14 => ds_t56 x14 fun s15 z16 z17 l18 => szF s15 fun z19 => (if (1000 : Int) < z19 then some true else L31_2 n l1 l3 z6 (0 : Int))) else L31_3 n l3 (0 : Int))
def L31_2 : Nat → (List D) → (List D) → Int → Int → Option (Bool)
  | 0, _, _, _, _ => none
  | n + 1, l1, l3, z6, z20 =>
    getF l1 z6 fun x21 => ds_t56 x21 fun s22 z23 z24 l25 => lenF l25 fun z26 => (if z20 < z26 then getF l1 z6 fun x27 => ds_t56 x27 fun s28 z29 z30 l31 => getF l31 z20 fun x32 => ds_t48 x32 fun z33 z34 z35 z36 l37 l38 z39 s40 l41 => bO1 (F32 n z33 z34 z35 z36 l37 l38 z39 s40 l41) fun b42 => (if b42 = true then some true else letF (IntKind.wrap .i64 (z20 + 1)) fun z43 => L31_2 n l1 l3 z6 z43) else letF (IntKind.wrap .i64 (z6 + 1)) fun z44 => L31_1 n l1 l3 z44)
end
def F31 (n : Nat) (l1 : List D) (z2 : Int) (l3 : List D) : Option (Bool) :=
  lenF l1 fun z4 => (if (30 : Int) < z4 then some true else lenF l3 fun z5 => (if (40 : Int) < z5 then some true else L31_1 n l1 l3 (0 : Int)))
set_option maxRecDepth 100000 in
set_option maxHeartbeats 40000000 in
theorem T31 (n : Nat) : ∀ ⦃l1 : List D⦄ ⦃z2 : Int⦄ ⦃l3 : List D⦄ ⦃r1 : Bool⦄, F31 n l1 z2 l3 = some r1 →
    Trip Tryd.prog inv 31 [.d (.agg [.list true 4 l1, .int .i64 z2, .list true 16 l3])] [] (.v (.d (.bool r1))) [] [] := by
  intro l1 z2 l3 r1 h
  unfold F31 at h
  refine Trip.of tab_ok tab_one fol Tryd.func31 rfl (by kernel_rfl) rfl rfl rfl (fun M hM hI => ?_)
  try cbv
  replace h := lenF_inv M h
  obtain ⟨z4, hz, h⟩ := h
  refine ⟨z4, hz, ?_⟩
  clear hz
  try cbv
  refine splitL (fun e => ?_) (fun e => ?_)
  · replace h := ite_t e h
    clear e
    try cbv
    obtain rfl := Option.some.inj h
    refine fin_go ?_
    try cbv
    exact ⟨[], rfl, rfl, trivial, trivial, trivial⟩
  · replace h := ite_f (Int.not_lt.2 e) h
    clear e
    try cbv
    replace h := lenF_inv M h
    obtain ⟨z5, hz, h⟩ := h
    refine ⟨z5, hz, ?_⟩
    clear hz
    try cbv
    refine splitL (fun e => ?_) (fun e => ?_)
    · replace h := ite_t e h
      clear e
      try cbv
      obtain rfl := Option.some.inj h
      refine fin_go ?_
      try cbv
      exact ⟨[], rfl, rfl, trivial, trivial, trivial⟩
    · replace h := ite_f (Int.not_lt.2 e) h
      clear e
      try cbv
      refine loop_inv (T := Nat × Int) [1, 2, 3] [.loc 0] 416 (fun t => ⟨[(1, .v (.c (.ptr (.loc 0) 0))), (2, .v (.d (.bool false))), (3, .v (.d (.int .i64 t.2)))], [(.loc 0, .cells [.d (.list true 4 l1), .d (.int .i64 z2), .d (.list true 16 l3)])], 416⟩)
        (fun t => t.1 ≤ n ∧ L31_1 t.1 l1 l3 t.2 = some r1) (fun t => t.1) (n, (0 : Int)) ⟨Nat.le_refl _, h⟩ (by cbv) ?_
      clear h
      rintro ⟨m1, z6⟩ ⟨hm1, h⟩
      replace hm1 : m1 ≤ n := hm1
      cases m1 with
      | zero => cases (show (none : Option _) = some _ from h)
      | succ m1 =>
        replace h : L31_1 (m1 + 1) l1 l3 z6 = some r1 := h
        rw [L31_1] at h
        try cbv
        replace h := lenF_inv M h
        obtain ⟨z7, hz, h⟩ := h
        refine ⟨z7, hz, ?_⟩
        clear hz
        try cbv
        refine splitL (fun e => ?_) (fun e => ?_)
        · replace h := ite_t e h
          clear e
          try cbv
          replace h := getF_inv h
          obtain ⟨x8, ⟨hx0, hx⟩, h⟩ := h
          refine ⟨x8, hx0, hx, ?_⟩
          clear hx0 hx
          replace h := ds_t56_inv h
          obtain ⟨s9, z10, z11, l12, rfl, h⟩ := h
          try cbv
          replace h := lenF_inv M h
          obtain ⟨z13, hz, h⟩ := h
          refine ⟨z13, hz, ?_⟩
          clear hz
          try cbv
          refine splitL (fun e => ?_) (fun e => ?_)
          · replace h := ite_t e h
            clear e
            try cbv
            obtain rfl := Option.some.inj h
            refine fin_go ?_
            try cbv
            exact ⟨[], rfl, rfl, trivial, trivial, trivial⟩
          · replace h := ite_f (Int.not_lt.2 e) h
            clear e
            try cbv
            replace h := getF_inv h
            obtain ⟨x14, ⟨hx0, hx⟩, h⟩ := h
            refine ⟨x14, hx0, hx, ?_⟩
            clear hx0 hx
            replace h := ds_t56_inv h
            obtain ⟨s15, z16, z17, l18, rfl, h⟩ := h
            try cbv
            replace h := szF_inv M h
            obtain ⟨z19, hz, h⟩ := h
            refine ⟨z19, hz, ?_⟩
            clear hz
            try cbv
            refine splitL (fun e => ?_) (fun e => ?_)
            · replace h := ite_t e h
              clear e
              try cbv
              obtain rfl := Option.some.inj h
              refine fin_go ?_
              try cbv
              exact ⟨[], rfl, rfl, trivial, trivial, trivial⟩
            · replace h := ite_f (Int.not_lt.2 e) h
              clear e
              try cbv
              refine loop_inv (T := Nat × Int) [1, 2, 3, 4] [.loc 0] 1184 (fun t => ⟨[(1, .v (.c (.ptr (.loc 0) 0))), (2, .v (.d (.bool false))), (3, .v (.d (.int .i64 z6))), (4, .v (.d (.int .i64 t.2)))], [(.loc 0, .cells [.d (.list true 4 l1), .d (.int .i64 z2), .d (.list true 16 l3)])], 1184⟩)
                (fun t => t.1 ≤ m1 ∧ L31_2 t.1 l1 l3 z6 t.2 = some r1) (fun t => t.1) (m1, (0 : Int)) ⟨Nat.le_refl _, h⟩ (by cbv) ?_
              clear h
              rintro ⟨m2, z20⟩ ⟨hm2, h⟩
              replace hm2 : m2 ≤ m1 := hm2
              cases m2 with
              | zero => cases (show (none : Option _) = some _ from h)
              | succ m2 =>
                replace h : L31_2 (m2 + 1) l1 l3 z6 z20 = some r1 := h
                rw [L31_2] at h
                try cbv
                replace h := getF_inv h
                obtain ⟨x21, ⟨hx0, hx⟩, h⟩ := h
                refine ⟨x21, hx0, hx, ?_⟩
                clear hx0 hx
                replace h := ds_t56_inv h
                obtain ⟨s22, z23, z24, l25, rfl, h⟩ := h
                try cbv
                replace h := lenF_inv M h
                obtain ⟨z26, hz, h⟩ := h
                refine ⟨z26, hz, ?_⟩
                clear hz
                try cbv
                refine splitL (fun e => ?_) (fun e => ?_)
                · replace h := ite_t e h
                  clear e
                  try cbv
                  replace h := getF_inv h
                  obtain ⟨x27, ⟨hx0, hx⟩, h⟩ := h
                  refine ⟨x27, hx0, hx, ?_⟩
                  clear hx0 hx
                  replace h := ds_t56_inv h
                  obtain ⟨s28, z29, z30, l31, rfl, h⟩ := h
                  try cbv
                  replace h := getF_inv h
                  obtain ⟨x32, ⟨hx0, hx⟩, h⟩ := h
                  refine ⟨x32, hx0, hx, ?_⟩
                  clear hx0 hx
                  replace h := ds_t48_inv h
                  obtain ⟨z33, z34, z35, z36, l37, l38, z39, s40, l41, rfl, h⟩ := h
                  try cbv
                  replace h := bO1_inv h
                  obtain ⟨b42, hr, h⟩ := h
                  refine call_go rfl rfl ?_
                  try cbv
                  refine call_pure hM hI (T32 _ hr) rfl ?_
                  clear hr
                  try cbv
                  cases b42
                  · replace h := ite_f Bool.false_ne_true h
                    try cbv
                    replace h := letF_inv h
                    obtain ⟨z43, hz, h⟩ := h
                    refine ⟨z43, hz, ?_⟩
                    clear hz
                    try cbv
                    exact loop_next (m2, z43) [1, 2, 3, 4] [.loc 0] 1184 ⟨by omega, h⟩ (Nat.lt_succ_of_le (by omega)) (by cbv)
                  · replace h := ite_t rfl h
                    try cbv
                    obtain rfl := Option.some.inj h
                    refine fin_go ?_
                    try cbv
                    exact ⟨[], rfl, rfl, trivial, trivial, trivial⟩
                · replace h := ite_f (Int.not_lt.2 e) h
                  clear e
                  try cbv
                  replace h := letF_inv h
                  obtain ⟨z44, hz, h⟩ := h
                  refine ⟨z44, hz, ?_⟩
                  clear hz
                  try cbv
                  exact loop_next (m2, z44) [1, 2, 3] [.loc 0] 416 ⟨by omega, h⟩ (Nat.lt_succ_of_le (by omega)) (by cbv)
        · replace h := ite_f (Int.not_lt.2 e) h
          clear e
          try cbv
          refine loop_inv (T := Nat × Int) [1, 2, 3, 5] [.loc 0] 608 (fun t => ⟨[(1, .v (.c (.ptr (.loc 0) 0))), (2, .v (.d (.bool false))), (3, .v (.d (.int .i64 z6))), (5, .v (.d (.int .i64 t.2)))], [(.loc 0, .cells [.d (.list true 4 l1), .d (.int .i64 z2), .d (.list true 16 l3)])], 608⟩)
            (fun t => t.1 ≤ m1 ∧ L31_3 t.1 l3 t.2 = some r1) (fun t => t.1) (m1, (0 : Int)) ⟨Nat.le_refl _, h⟩ (by cbv) ?_
          clear h
          rintro ⟨m3, z45⟩ ⟨hm3, h⟩
          replace hm3 : m3 ≤ m1 := hm3
          cases m3 with
          | zero => cases (show (none : Option _) = some _ from h)
          | succ m3 =>
            replace h : L31_3 (m3 + 1) l3 z45 = some r1 := h
            rw [L31_3] at h
            try cbv
            replace h := lenF_inv M h
            obtain ⟨z46, hz, h⟩ := h
            refine ⟨z46, hz, ?_⟩
            clear hz
            try cbv
            refine splitL (fun e => ?_) (fun e => ?_)
            · replace h := ite_t e h
              clear e
              try cbv
              replace h := getF_inv h
              obtain ⟨x47, ⟨hx0, hx⟩, h⟩ := h
              refine ⟨x47, hx0, hx, ?_⟩
              clear hx0 hx
              replace h := ds_t82_inv h
              obtain ⟨z48, s49, l50, z51, s52, l53, l54, z55, z56, s57, s58, s59, l60, l61, z62, z63, rfl, h⟩ := h
              try cbv
              replace h := lenF_inv M h
              obtain ⟨z64, hz, h⟩ := h
              refine ⟨z64, hz, ?_⟩
              clear hz
              try cbv
              refine splitL (fun e => ?_) (fun e => ?_)
              · replace h := ite_t e h
                clear e
                try cbv
                obtain rfl := Option.some.inj h
                refine fin_go ?_
                try cbv
                exact ⟨[], rfl, rfl, trivial, trivial, trivial⟩
              · replace h := ite_f (Int.not_lt.2 e) h
                clear e
                try cbv
                replace h := getF_inv h
                obtain ⟨x65, ⟨hx0, hx⟩, h⟩ := h
                refine ⟨x65, hx0, hx, ?_⟩
                clear hx0 hx
                replace h := ds_t82_inv h
                obtain ⟨z66, s67, l68, z69, s70, l71, l72, z73, z74, s75, s76, s77, l78, l79, z80, z81, rfl, h⟩ := h
                try cbv
                replace h := szF_inv M h
                obtain ⟨z82, hz, h⟩ := h
                refine ⟨z82, hz, ?_⟩
                clear hz
                try cbv
                refine splitL (fun e => ?_) (fun e => ?_)
                · replace h := ite_t e h
                  clear e
                  try cbv
                  obtain rfl := Option.some.inj h
                  refine fin_go ?_
                  try cbv
                  exact ⟨[], rfl, rfl, trivial, trivial, trivial⟩
                · replace h := ite_f (Int.not_lt.2 e) h
                  clear e
                  try cbv
                  replace h := letF_inv h
                  obtain ⟨z83, hz, h⟩ := h
                  refine ⟨z83, hz, ?_⟩
                  clear hz
                  try cbv
                  exact loop_next (m3, z83) [1, 2, 3, 5] [.loc 0] 608 ⟨by omega, h⟩ (Nat.lt_succ_of_le (by omega)) (by cbv)
            · replace h := ite_f (Int.not_lt.2 e) h
              clear e
              try cbv
              obtain rfl := Option.some.inj h
              refine fin_go ?_
              try cbv
              exact ⟨[], rfl, rfl, trivial, trivial, trivial⟩
end Go.Proofs.YtjobleemmjjocaaDoor
end

/- Printed by lift.py: functional texts of functions, and their contracts. No condition. -/
set_option linter.unusedVariables false
noncomputable section
namespace Go.Proofs.YtjobleemmjjocaaDoor
open Go Go.AM
def F10 (n : Nat) (l1 : List D) (z2 : Int) (l3 : List D) (z4 : Int) (z5 : Int) (z6 : Int) (z7 : Int) (z8 : Int) (l9 : List D) (l10 : List D) (z11 : Int) (s12 : ByteArray) (l13 : List D) : Option (Bool) :=
  bO1 (F31 n l1 z2 l3) fun b14 => (if b14 = true then some true else bO1 (F32 n z5 z6 z7 z8 l9 l10 z11 s12 l13) fun b15 => (if b15 = true then some true else bO1 (F33 n l1 z2 l3 z4 z5 z6 z7 z8 l9 l10 z11 s12 l13) fun z16 => bO1 (F34 n l1 z2 l3 z4 z5 z6 z7 z8 l9 l10 z11 s12 l13) fun z17 => (if z16 = z17 then bO1 (F35 n) fun b18 => some b18 else some false)))
set_option maxRecDepth 100000 in
set_option maxHeartbeats 40000000 in
theorem T10 (n : Nat) : ∀ ⦃l1 : List D⦄ ⦃z2 : Int⦄ ⦃l3 : List D⦄ ⦃z4 : Int⦄ ⦃z5 : Int⦄ ⦃z6 : Int⦄ ⦃z7 : Int⦄ ⦃z8 : Int⦄ ⦃l9 : List D⦄ ⦃l10 : List D⦄ ⦃z11 : Int⦄ ⦃s12 : ByteArray⦄ ⦃l13 : List D⦄ ⦃r1 : Bool⦄, F10 n l1 z2 l3 z4 z5 z6 z7 z8 l9 l10 z11 s12 l13 = some r1 →
    Trip Tryd.prog inv 10 [.d (.agg [.list true 4 l1, .int .i64 z2, .list true 16 l3]), .d (.int .i64 z4), .d (.agg [.int .u8 z5, .int .i64 z6, .int .i64 z7, .int .i64 z8, .list false 1 l9, .list false 1 l10, .int .i64 z11, .str s12, .list false 1 l13])] [] (.v (.d (.bool r1))) [] [] := by
  intro l1 z2 l3 z4 z5 z6 z7 z8 l9 l10 z11 s12 l13 r1 h
  unfold F10 at h
  refine Trip.of tab_ok tab_one fol Tryd.func10 rfl (by kernel_rfl) rfl rfl rfl (fun M hM hI => ?_)
  try cbv
  replace h := bO1_inv h
  obtain ⟨b14, hr, h⟩ := h
  refine call_go rfl rfl ?_
  try cbv
  refine call_pure hM hI (T31 _ hr) rfl ?_
  clear hr
  try cbv
  cases b14
  · replace h := ite_f Bool.false_ne_true h
    try cbv
    replace h := bO1_inv h
    obtain ⟨b15, hr, h⟩ := h
    refine call_go rfl rfl ?_
    try cbv
    refine call_pure hM hI (T32 _ hr) rfl ?_
    clear hr
    try cbv
    cases b15
    · replace h := ite_f Bool.false_ne_true h
      try cbv
      replace h := bO1_inv h
      obtain ⟨z16, hr, h⟩ := h
      refine ⟨[], ?_⟩
      try cbv
      refine call_pure hM hI (T33 _ hr) rfl ?_
      clear hr
      try cbv
      replace h := bO1_inv h
      obtain ⟨z17, hr, h⟩ := h
      refine ⟨[], ?_⟩
      try cbv
      refine call_pure hM hI (T34 _ hr) rfl ?_
      clear hr
      try cbv
      refine splitI (fun e => ?_) (fun e => ?_)
      · replace h := ite_t e h
        clear e
        try cbv
        replace h := bO1_inv h
        obtain ⟨b18, hr, h⟩ := h
        refine ⟨[], ?_⟩
        try cbv
        refine call_pure hM hI (T35 _ hr) rfl ?_
        clear hr
        try cbv
        refine drawn ?_ ?_
        · show _ = true
          kernel_rfl
        try cbv
        obtain rfl := Option.some.inj h
        refine fin_go ?_
        try cbv
        exact ⟨[], rfl, rfl, trivial, trivial, trivial⟩
      · replace h := ite_f e h
        clear e
        try cbv
        refine drawn ?_ ?_
        · show _ = true
          kernel_rfl
        try cbv
        obtain rfl := Option.some.inj h
        refine fin_go ?_
        try cbv
        exact ⟨[], rfl, rfl, trivial, trivial, trivial⟩
    · replace h := ite_t rfl h
      try cbv
      obtain rfl := Option.some.inj h
      refine fin_go ?_
      try cbv
      exact ⟨[], rfl, rfl, trivial, trivial, trivial⟩
  · replace h := ite_t rfl h
    try cbv
    obtain rfl := Option.some.inj h
    refine fin_go ?_
    try cbv
    exact ⟨[], rfl, rfl, trivial, trivial, trivial⟩
end Go.Proofs.YtjobleemmjjocaaDoor
end

/- Chapter 17, the plain law, part F: both answers at any instruction are one row; what is large comes to an end; CodeInstr. Printed in part by cdf.py. No condition. -/
set_option linter.unusedVariables false
noncomputable section
namespace Go.Proofs.YtjobleemmjjocaaDoor
open Go Go.AM

theorem row3 {z : Int} (h : (Lit.int .i64 z).wf = true) : RowS tab 3 (.int .i64 z) :=
  ⟨.int (x := tyD tab 3) z (by kernel_rfl) rfl h, fun y hy => by
    have : tab 3 = some (tyD tab 3) := by kernel_rfl
    rw [this] at hy; cases hy; rfl⟩
theorem list3 : ∀ (l : List Int), l.length ≤ maxLen → (∀ z ∈ l, (Lit.int .i64 z).wf = true) → ListS tab 3 (l.map (D.int .i64)) := fun l h0 h => ⟨by simpa using h0, fun x hx => by
  obtain ⟨z, hz, rfl⟩ := List.mem_map.1 hx
  exact row3 (h z hz)⟩
theorem list3_nil : ListS tab 3 [] := list3 [] (Nat.zero_le _) (by simp)
/-- An op's row. -/
def shp (op : Int) : ByteArray × Int × Int × Bool × Bool × Bool × Bool × List D × Bool := (F51 0 op).getD (ByteArray.empty, 0, 0, false, false, false, false, [], false)
theorem shp_ok {op : Int} (h0 : 0 ≤ op) (h1 : op < 256) : (∀ n, F51 n op = some (shp op)) ∧ ListS tab 3 (shp op).2.2.2.2.2.2.2.1 := by
  by_cases hb : 35 ≤ op
  · unfold shp
    rw [shB 0 hb h1]
    exact ⟨fun n => shB n hb h1, list3_nil⟩
  · obtain ⟨k, rfl⟩ : ∃ k : Nat, op = k := ⟨op.toNat, by omega⟩
    have hk : k < 35 := by omega
    clear h0 h1 hb
    revert k

    intro k hk
    match k, hk with
    | 0, _ => exact ⟨sh0, list3_nil⟩
    | 1, _ => exact ⟨sh1, list3_nil⟩
    | 2, _ => exact ⟨sh2, list3_nil⟩
    | 3, _ => exact ⟨sh3, list3 [1, 2, 3] (by decide) (by decide)⟩
    | 4, _ => exact ⟨sh4, list3_nil⟩
    | 5, _ => exact ⟨sh5, list3_nil⟩
    | 6, _ => exact ⟨sh6, list3_nil⟩
    | 7, _ => exact ⟨sh7, list3_nil⟩
    | 8, _ => exact ⟨sh8, list3_nil⟩
    | 9, _ => exact ⟨sh9, list3 [7, 8] (by decide) (by decide)⟩
    | 10, _ => exact ⟨sh10, list3 [9, 10, 11, 12, 13, 14, 15, 16, 17] (by decide) (by decide)⟩
    | 11, _ => exact ⟨sh11, list3_nil⟩
    | 12, _ => exact ⟨sh12, list3_nil⟩
    | 13, _ => exact ⟨sh13, list3_nil⟩
    | 14, _ => exact ⟨sh14, list3_nil⟩
    | 15, _ => exact ⟨sh15, list3_nil⟩
    | 16, _ => exact ⟨sh16, list3_nil⟩
    | 17, _ => exact ⟨sh17, list3_nil⟩
    | 18, _ => exact ⟨sh18, list3_nil⟩
    | 19, _ => exact ⟨sh19, list3 [6, 7, 8, 9, 10, 11] (by decide) (by decide)⟩
    | 20, _ => exact ⟨sh20, list3 [6, 10] (by decide) (by decide)⟩
    | 21, _ => exact ⟨sh21, list3_nil⟩
    | 22, _ => exact ⟨sh22, list3_nil⟩
    | 23, _ => exact ⟨sh23, list3_nil⟩
    | 24, _ => exact ⟨sh24, list3_nil⟩
    | 25, _ => exact ⟨sh25, list3_nil⟩
    | 26, _ => exact ⟨sh26, list3_nil⟩
    | 27, _ => exact ⟨sh27, list3_nil⟩
    | 28, _ => exact ⟨sh28, list3_nil⟩
    | 29, _ => exact ⟨sh29, list3_nil⟩
    | 30, _ => exact ⟨sh30, list3_nil⟩
    | 31, _ => exact ⟨sh31, list3_nil⟩
    | 32, _ => exact ⟨sh32, list3_nil⟩
    | 33, _ => exact ⟨sh33, list3_nil⟩
    | 34, _ => exact ⟨sh34, list3_nil⟩
    | n + 35, h => exact absurd h (by omega)

def okIns (l1 : List D) (z4 op a b c : Int) (l9 l10 : List D) (i : Int) (s12 : ByteArray) (l13 : List D) : Bool :=
  decide (0 ≤ z4) && match l1[z4.toNat]? with
    | some (.agg [_, _, .int _ sl, .list _ _ cd]) => insB l1 sl cd.length (shp op) op a b c l9 l10 i s12 l13
    | _ => false

section
variable {l1 : List D} (hF : ListS tab 56 l1) {op a b c i : Int} (h0 : 0 ≤ op) (h1 : op < 256) {l9 l10 l13 : List D} {s12 : ByteArray} (h9 : ListS tab 3 l9) (h10 : ListS tab 9 l10) (z2 : Int) (l3 : List D) (z4 : Int)
include hF h0 h1 h9 h10
theorem ev33a : Ev (fun n => F33 n l1 z2 l3 z4 op a b c l9 l10 i s12 l13) (rc (okIns l1 z4 op a b c l9 l10 i s12 l13)) := by
  obtain ⟨hs, hk⟩ := shp_ok h0 h1
  by_cases g0 : 0 ≤ z4
  · by_cases g1 : z4 < l1.length
    · obtain ⟨x, rfl⟩ : ∃ x : Nat, z4 = x := ⟨z4.toNat, by omega⟩
      obtain ⟨v, hx, _, hr⟩ := hF.get (i := x) (by omega)
      obtain ⟨nm, pa, sl, cd, rfl, _⟩ := rs56 hr
      simp only [okIns, Int.toNat_natCast, hx, g0, decide_true, Bool.true_and]
      exact ev33 hF rfl hx h9 h10 z2 l3 hk (fun n => hs n)
    · have e : l1[z4.toNat]? = none := List.getElem?_eq_none (by omega)
      refine ⟨0, fun n _ => ?_⟩
      show F33 n _ _ _ _ _ _ _ _ _ _ _ _ _ = _
      simp only [F33, okIns, e, Bool.and_false, hs n, bO9, lenF, if_neg (by omega : ¬ z4 < 0), if_pos (by omega : (l1.length : Int) ≤ z4)]
      cases (shp op).2.2.2.2.2.2.2.2 <;> rfl
  · refine ⟨0, fun n _ => ?_⟩
    show F33 n _ _ _ _ _ _ _ _ _ _ _ _ _ = _
    simp only [F33, okIns, g0, decide_false, Bool.false_and, hs n, bO9, if_pos (by omega : z4 < 0)]
    cases (shp op).2.2.2.2.2.2.2.2 <;> rfl
theorem ev34a : Ev (fun n => F34 n l1 z2 l3 z4 op a b c l9 l10 i s12 l13) (rc (okIns l1 z4 op a b c l9 l10 i s12 l13)) := by
  by_cases g0 : 0 ≤ z4
  · by_cases g1 : z4 < l1.length
    · obtain ⟨x, rfl⟩ : ∃ x : Nat, z4 = x := ⟨z4.toNat, by omega⟩
      obtain ⟨v, hx, _, hr⟩ := hF.get (i := x) (by omega)
      obtain ⟨nm, pa, sl, cd, rfl, _⟩ := rs56 hr
      simp only [okIns, Int.toNat_natCast, hx, g0, decide_true, Bool.true_and]
      by_cases hb : 35 ≤ op
      · have e : shp op = _ := Option.some.inj (((shp_ok h0 h1).1 0).symm.trans (shB 0 hb h1))
        have e2 : insB l1 sl cd.length (shp op) op a b c l9 l10 i s12 l13 = false := by rw [e]; simp [insB]
        rw [e2]
        exact rfB hF hx h9 h10 z2 l3 hb
      · obtain ⟨k, rfl⟩ : ∃ k : Nat, op = k := ⟨op.toNat, by omega⟩
        have hk : k < 35 := by omega
        clear h0 h1 hb g0 g1
        revert hk
        match k with
        | 0 => intro _; exact rf0 hF hx h9 h10 z2 l3
        | 1 => intro _; exact rf1 hF hx h9 h10 z2 l3
        | 2 => intro _; exact rf2 hF hx h9 h10 z2 l3
        | 3 => intro _; exact rf3 hF hx h9 h10 z2 l3
        | 4 => intro _; exact rf4 hF hx h9 h10 z2 l3
        | 5 => intro _; exact rf5 hF hx h9 h10 z2 l3
        | 6 => intro _; exact rf6 hF hx h9 h10 z2 l3
        | 7 => intro _; exact rf7 hF hx h9 h10 z2 l3
        | 8 => intro _; exact rf8 hF hx h9 h10 z2 l3
        | 9 => intro _; exact rf9 hF hx h9 h10 z2 l3
        | 10 => intro _; exact rf10 hF hx h9 h10 z2 l3
        | 11 => intro _; exact rf11 hF hx h9 h10 z2 l3
        | 12 => intro _; exact rf12 hF hx h9 h10 z2 l3
        | 13 => intro _; exact rf13 hF hx h9 h10 z2 l3
        | 14 => intro _; exact rf14 hF hx h9 h10 z2 l3
        | 15 => intro _; exact rf15 hF hx h9 h10 z2 l3
        | 16 => intro _; exact rf16 hF hx h9 h10 z2 l3
        | 17 => intro _; exact rf17 hF hx h9 h10 z2 l3
        | 18 => intro _; exact rf18 hF hx h9 h10 z2 l3
        | 19 => intro _; exact rf19 hF hx h9 h10 z2 l3
        | 20 => intro _; exact rf20 hF hx h9 h10 z2 l3
        | 21 => intro _; exact rf21 hF hx h9 h10 z2 l3
        | 22 => intro _; exact rf22 hF hx h9 h10 z2 l3
        | 23 => intro _; exact rf23 hF hx h9 h10 z2 l3
        | 24 => intro _; exact rf24 hF hx h9 h10 z2 l3
        | 25 => intro _; exact rf25 hF hx h9 h10 z2 l3
        | 26 => intro _; exact rf26 hF hx h9 h10 z2 l3
        | 27 => intro _; exact rf27 hF hx h9 h10 z2 l3
        | 28 => intro _; exact rf28 hF hx h9 h10 z2 l3
        | 29 => intro _; exact rf29 hF hx h9 h10 z2 l3
        | 30 => intro _; exact rf30 hF hx h9 h10 z2 l3
        | 31 => intro _; exact rf31 hF hx h9 h10 z2 l3
        | 32 => intro _; exact rf32 hF hx h9 h10 z2 l3
        | 33 => intro _; exact rf33 hF hx h9 h10 z2 l3
        | 34 => intro _; exact rf34 hF hx h9 h10 z2 l3
        | n + 35 => intro h; exact absurd h (by omega)
    · have e : l1[z4.toNat]? = none := List.getElem?_eq_none (by omega)
      refine ⟨0, fun n _ => ?_⟩
      show F34 n _ _ _ _ _ _ _ _ _ _ _ _ _ = _
      unfold F34
      rw [if_neg (by omega : ¬ z4 < 0), lenF_eq, if_pos (by omega : (l1.length : Int) ≤ z4)]
      simp only [okIns, e, Bool.and_false]; rfl
  · refine ⟨0, fun n _ => ?_⟩
    show F34 n _ _ _ _ _ _ _ _ _ _ _ _ _ = _
    unfold F34
    rw [if_pos (by omega : z4 < 0)]
    simp only [okIns, g0, decide_false, Bool.false_and]; rfl
end

theorem tot32 (z1 z2 z3 z4 : Int) (l5 : List D) {l6 : List D} (h6 : ListS tab 9 l6) (z7 : Int) (s8 : ByteArray) (l9 : List D) : ∃ r, Ev (fun n => F32 n z1 z2 z3 z4 l5 l6 z7 s8 l9) r := by
  have loop : ∀ i, i ≤ l6.length → ∃ r, Ev (fun n => L32_1 n l6 (i : Int)) r := by
    refine down l6.length ⟨false, Ev.succ (by simp [L32_1, lenF, Ev.ret])⟩ (fun i hi ih => ?_)
    obtain ⟨x, hx, hm, hr⟩ := h6.get hi
    obtain ⟨s, rfl, _⟩ := rs9 hr
    obtain ⟨r, h⟩ := ih
    by_cases g : 1000 < (s.size : Int)
    · refine ⟨true, Ev.succ ?_⟩
      simp only [L32_1, lenF, szF, if_pos (ilt hi), getF_nat hx, ds_str, if_pos g]; exact Ev.ret
    · refine ⟨r, Ev.succ ?_⟩
      simpa only [L32_1, lenF, szF, letF, if_pos (ilt hi), getF_nat hx, ds_str, if_neg g, wrap_succ hi h6.1] using h
  obtain ⟨r, h⟩ := loop 0 (Nat.zero_le _)
  simp only [F32, lenF, szF]
  by_cases g1 : 60 < (l6.length : Int)
  · exact ⟨true, by simp only [if_pos g1]; exact Ev.ret⟩
  by_cases g2 : 60 < (l5.length : Int)
  · exact ⟨true, by simp only [if_neg g1, if_pos g2]; exact Ev.ret⟩
  by_cases g3 : 60 < (l9.length : Int)
  · exact ⟨true, by simp only [if_neg g1, if_neg g2, if_pos g3]; exact Ev.ret⟩
  by_cases g4 : 1000 < (s8.size : Int)
  · exact ⟨true, by simp only [if_neg g1, if_neg g2, if_neg g3, if_pos g4]; exact Ev.ret⟩
  exact ⟨r, by simp only [if_neg g1, if_neg g2, if_neg g3, if_neg g4]; exact h⟩

theorem tot31 {l1 : List D} (hF : ListS tab 56 l1) (z2 : Int) {l3 : List D} (hT : ListS tab 82 l3) : ∃ r, Ev (fun n => F31 n l1 z2 l3) r := by
  have loop3 : ∀ i, i ≤ l3.length → ∃ r, Ev (fun n => L31_3 n l3 (i : Int)) r := by
    refine down l3.length ⟨false, Ev.succ (by simp [L31_3, lenF, Ev.ret])⟩ (fun i hi ih => ?_)
    obtain ⟨x, hx, hm, hr⟩ := hT.get hi
    obtain ⟨a0, a1, a2, a3, a4, a5, a6, a7, a8, a9, a10, a11, a12, a13, a14, a15, rfl, _⟩ := rs82 hr
    obtain ⟨r, h⟩ := ih
    by_cases g1 : 20 < (a2.length : Int)
    · refine ⟨true, Ev.succ ?_⟩
      simp only [L31_3, lenF, if_pos (ilt hi), getF_nat hx, ds_t82, if_pos g1]; exact Ev.ret
    by_cases g2 : 1000 < (a1.size : Int)
    · refine ⟨true, Ev.succ ?_⟩
      simp only [L31_3, lenF, szF, if_pos (ilt hi), getF_nat hx, ds_t82, if_neg g1, if_pos g2]; exact Ev.ret
    · refine ⟨r, Ev.succ ?_⟩
      simpa only [L31_3, lenF, szF, letF, if_pos (ilt hi), getF_nat hx, ds_t82, if_neg g1, if_neg g2, wrap_succ hi hT.1] using h
  have loop1 : ∀ i, i ≤ l1.length → ∃ r, Ev (fun n => L31_1 n l1 l3 (i : Int)) r := by
    obtain ⟨r3, h3⟩ := loop3 0 (Nat.zero_le _)
    refine down l1.length ⟨r3, Ev.succ (by simp only [L31_1, lenF, Int.lt_irrefl, if_false]; exact h3)⟩ (fun i hi ih => ?_)
    obtain ⟨x, hx, hm, hr⟩ := hF.get hi
    obtain ⟨s, p, q, cd, rfl, _, _, _, hc⟩ := rs56 hr
    by_cases g1 : 300 < (cd.length : Int)
    · refine ⟨true, Ev.succ ?_⟩
      simp only [L31_1, lenF, if_pos (ilt hi), getF_nat hx, ds_t56, if_pos g1]; exact Ev.ret
    by_cases g2 : 1000 < (s.size : Int)
    · refine ⟨true, Ev.succ ?_⟩
      simp only [L31_1, lenF, szF, if_pos (ilt hi), getF_nat hx, ds_t56, if_neg g1, if_pos g2]; exact Ev.ret
    have loop2 : ∀ j, j ≤ cd.length → ∃ r, Ev (fun n => L31_2 n l1 l3 (i : Int) (j : Int)) r := by
      obtain ⟨r1, h1⟩ := ih
      refine down cd.length ⟨r1, Ev.succ (by simpa only [L31_2, lenF, letF, getF_nat hx, ds_t56, Int.lt_irrefl, if_false, wrap_succ hi hF.1] using h1)⟩ (fun j hj ihj => ?_)
      obtain ⟨y, hy, _, hry⟩ := hc.get hj
      obtain ⟨b0, b1, b2, b3, b4, b5, b6, b7, b8, rfl, _, _, _, _, _, w5, _⟩ := rs48 hry
      obtain ⟨rl, hl⟩ := tot32 b0 b1 b2 b3 b4 w5 b6 b7 b8
      obtain ⟨r, h⟩ := ihj
      cases rl
      · refine ⟨r, Ev.succ ?_⟩
        simp only [L31_2, lenF, letF, getF_nat hx, getF_nat hy, ds_t56, ds_t48, if_pos (ilt hj), wrap_succ hj hc.1]
        exact Ev.bO1 hl (by simpa only [if_neg Bool.false_ne_true] using h)
      · refine ⟨true, Ev.succ ?_⟩
        simp only [L31_2, lenF, letF, getF_nat hx, getF_nat hy, ds_t56, ds_t48, if_pos (ilt hj), wrap_succ hj hc.1]
        exact Ev.bO1 hl (by simp only [if_true]; exact Ev.ret)
    obtain ⟨r, h⟩ := loop2 0 (Nat.zero_le _)
    refine ⟨r, Ev.succ ?_⟩
    simp only [L31_1, lenF, szF, if_pos (ilt hi), getF_nat hx, ds_t56, if_neg g1, if_neg g2]; exact h
  obtain ⟨r, h⟩ := loop1 0 (Nat.zero_le _)
  simp only [F31, lenF]
  by_cases g1 : 30 < (l1.length : Int)
  · exact ⟨true, by simp only [if_pos g1]; exact Ev.ret⟩
  by_cases g2 : 40 < (l3.length : Int)
  · exact ⟨true, by simp only [if_neg g1, if_pos g2]; exact Ev.ret⟩
  exact ⟨r, by simp only [if_neg g1, if_neg g2]; exact h⟩

/-- CodeInstr. -/
theorem code_instr_law {l1 : List D} (hF : ListS tab 56 l1) (z2 : Int) {l3 : List D} (hT : ListS tab 82 l3) {op a b c i : Int} (h0 : 0 ≤ op) (h1 : op < 256) {l9 l10 l13 : List D} {s12 : ByteArray} (h9 : ListS tab 3 l9) (h10 : ListS tab 9 l10) (z4 : Int) :
    Ev (fun n => F10 n l1 z2 l3 z4 op a b c l9 l10 i s12 l13) true := by
  obtain ⟨r, hr⟩ := tot31 hF z2 hT
  obtain ⟨r', hr'⟩ := tot32 op a b c l9 h10 i s12 l13
  unfold F10
  refine Ev.bO1 hr ?_
  cases r
  rotate_left
  · simp only [if_true]; exact Ev.ret
  simp only [if_neg Bool.false_ne_true]
  refine Ev.bO1 hr' ?_
  cases r'
  rotate_left
  · simp only [if_true]; exact Ev.ret
  simp only [if_neg Bool.false_ne_true]
  refine Ev.bO1 (ev33a hF h0 h1 h9 h10 z2 l3 z4) (Ev.bO1 (ev34a hF h0 h1 h9 h10 z2 l3 z4) ?_)
  simp only [if_true]
  exact Ev.bO1 ev35 Ev.ret
end Go.Proofs.YtjobleemmjjocaaDoor
end

/- The abstract machine, part R: a law that returns true, out of its contract over typed data. No condition. -/
namespace Go.AM
open Go Go.RowKit Go.ChangeShapes Go.WideShapes

/-- Arguments of given types. -/
def Shapes (ti : Types) : List TypeId → List D → Prop
  | [], [] => True
  | t :: ts, x :: xs => Shape ti t x.cells ∧ (∀ y, ti t = some y → x.isAgg = rowD y.desc) ∧ Shapes ti ts xs
  | _, _ => False

theorem Shapes.length {ti : Types} : ∀ {ts : List TypeId} {xs : List D}, Shapes ti ts xs → xs.length = ts.length
  | [], [], _ => rfl
  | _ :: _, _ :: _, h => by simp [Shapes.length h.2.2]
  | [], _ :: _, h => h.elim
  | _ :: _, [], h => h.elim

theorem rowD_cases {d : TypeDesc} : (∃ fs, d = .struct fs) ∨ (∃ n e, d = .array n e) ∨ rowD d = false := by
  cases d <;> simp [rowD]

section
variable {H : Type} {enc : TypeId × Value → H} {P : Program} {ti : Types} {T : List TypeId} {w : World}

/-- One argument. -/
theorem conv_arg (hti : TIok P ti) (hT : plainB ti T = true) {Z : Zone} (hZ : ∀ b o, ¬ Z b o) {base base' : Nat} {spare : Nat → Bool} {held : Bool} {r : Reach} {t : TypeId} {v : Value} {d : DataW H} {ps : List MemPlace} (ht : t ∈ T)
    (hok : Value.okWide P w r base' t v) (h : DataW.Trod enc P w base spare held t v d ps) : ∃ x : D, Shape ti t x.cells ∧ (∀ y, ti t = some y → x.isAgg = rowD y.desc) ∧ RelD w Z x v := by
  obtain ⟨fuel, h⟩ := h
  obtain ⟨ds, hs, h1, h2, h3⟩ := conv hti hT (Z := Z) hZ fuel t _ _ _ ht h
  have hp := List.all_eq_true.1 hT t ht
  split at hp
  · rename_i y hy
    have hu := (hti t y hy).1
    have single : rowD y.desc = false → v.cells.toList = [v] → ∃ x : D, Shape ti t x.cells ∧ (∀ y, ti t = some y → x.isAgg = rowD y.desc) ∧ RelD w Z x v := by
      intro hr hv
      rw [hv] at h1 h3
      obtain ⟨c, rfl⟩ := List.length_eq_one_iff.1 h1
      have hc := h2 c (by simp)
      have e : c.cells = [c] := by cases c <;> first | rfl | simp [D.isAgg] at hc
      refine ⟨c, by rw [e]; exact hs, fun y' hy' => ?_, h3 0 c v rfl rfl⟩
      rw [hy] at hy'
      obtain rfl : y = y' := by simpa using hy'
      rw [hc, hr]
    split at hp
    · rename_i hd
      rw [hd] at hu
      obtain ⟨b, rfl⟩ := okWide_bool hu hok
      exact single (by rw [hd]; rfl) rfl
    · rename_i k hd
      rw [hd] at hu
      obtain ⟨b, rfl⟩ := okWide_int hu hok
      exact single (by rw [hd]; rfl) rfl
    · rename_i hd
      rw [hd] at hu
      obtain ⟨b, rfl⟩ := okWide_string hu hok
      exact single (by rw [hd]; rfl) rfl
    · rename_i e hd
      rw [hd] at hu
      obtain ⟨a, l, c, rfl⟩ := okWide_slice hu hok
      exact single (by rw [hd]; rfl) rfl
    · rename_i fs hd
      rw [hd] at hu
      obtain ⟨cs, rfl, _⟩ := okWide_struct hu hok
      refine ⟨.agg ds, hs, fun y' hy' => ?_, .agg ds cs (by simpa [Value.cells] using h1.symm) h2 (fun j c u hc hu' => h3 j c u hc (by simpa [Value.cells] using hu'))⟩
      rw [hy] at hy'
      obtain rfl : y = y' := by simpa using hy'
      rw [hd]; rfl
    · simp at hp
  · simp at hp

theorem conv_args (hti : TIok P ti) (hT : plainB ti T = true) {Z : Zone} (hZ : ∀ b o, ¬ Z b o) {base base' : Nat} {spare : Nat → Bool} {held : Bool} {r : Reach} :
    ∀ (ts : List TypeId) (vs : List Value) (ds : List (DataW H)) (ps : List MemPlace), (∀ t ∈ ts, t ∈ T) → DataW.TrodAll enc P w base spare held ts vs ds ps →
      (∀ (j : Nat) t v, ts[j]? = some t → vs[j]? = some v → Value.okWide P w r base' t v) →
      ∃ xs, Shapes ti ts xs ∧ ∀ (j : Nat) x v, xs[j]? = some x → vs[j]? = some v → RelD w Z x v
  | [], vs, ds, ps, _, h, _ => ⟨[], trivial, by simp⟩
  | t :: ts, vs, ds, ps, ht, h, hok => by
    obtain ⟨v, vs1, d, ds1, a, b, rfl, rfl, rfl, h1, h2⟩ := trodAll_cons h
    obtain ⟨x, k1, k2, k3⟩ := conv_arg hti hT hZ (ht t (by simp)) (hok 0 t v rfl rfl) h1
    obtain ⟨xs, k4, k5⟩ := conv_args hti hT hZ ts vs1 ds1 b (fun t ht' => ht t (by simp [ht'])) h2 (fun j t v h1 h2 => hok (j + 1) t v (by simpa using h1) (by simpa using h2))
    refine ⟨x :: xs, ⟨k1, k2, k4⟩, fun j x' v' hx hv => ?_⟩
    match j with
    | 0 => simp at hx hv; subst hx; subst hv; exact k3
    | j + 1 => simp at hx hv; exact k5 j x' v' hx hv

theorem again_all (hl : laidOutB P = true) {W W' : World} (hb : Below W.heap.size W W') : ∀ (ts : List TypeId) (vs : List Value) (ds : List (DataW H)) (ps : List MemPlace),
    (∀ t ∈ ts, P.readableRec t = true ∧ t < P.types.size) → DataW.TrodAll enc P W 0 (fun _ => true) true ts vs ds ps → (∀ x ∈ ps, x.block < W.heap.size) →
    DataW.TrodAll enc P W' 0 (fun b => decide (b < W.heap.size)) true ts vs ds ps
  | [], vs, ds, ps, _, h, _ => by
    obtain ⟨rfl, rfl, rfl⟩ := trodAll_nil h
    exact rfl
  | t :: ts, vs, ds, ps, ht, h, hlt => by
    obtain ⟨v, vs1, d, ds1, a, b, rfl, rfl, rfl, h1, h2⟩ := trodAll_cons h
    have ht1 := ht t (by simp)
    exact ⟨a, b, Below.trod hl ht1.1 ht1.2 h1 hb (fun x hx => hlt x (by simp [hx])), again_all hl hb ts vs1 ds1 b (fun t ht' => ht t (by simp [ht'])) h2 (fun x hx => hlt x (by simp [hx])), rfl⟩

/-- A law: its contract over every typed input makes its row. -/
theorem law_calls {I : Inv} (hti : TIok P ti) (hT : plainB ti T = true) {s : ChangeSpec} {fn : Func} {f : FuncId} {ts : List TypeId} {bt : TypeId}
    (hp : fn.params.toList = ts) (hv : s.vars = []) (hr : fn.resultTypes = #[bt]) (hb : P.underlying bt = some .bool) (htT : ∀ t ∈ ts, t ∈ T)
    (hs : ∀ ds : List (DataW H), ds.length = ts.length → (s.fn H ds).results = [.lit (.bool true)] ∧ (s.fn H ds).args = ds ∧ (s.fn H ds).vars = [])
    (hl : laidOutB P = true) (hrec : ∀ t ∈ ts, P.readableRec t = true ∧ t < P.types.size)
    (hc : ∀ xs : List D, Shapes ti ts xs → Trip P I f (xs.map V1.d) [] (.v (.d (.bool true))) [] [])
    {W : World} {base : Nat} {args : Array Value} {ds gs : List (DataW H)} {before : List MemPlace}
    (hI : I.at W fun _ _ => False) (hval : ∀ (j : Nat) t v, fn.params[j]? = some t → args[j]? = some v → Value.okWide P W .any base t v)
    (hW : DataW.Whole enc P fn.params.toList s.vars false W args.toList ds gs before) :
    Calls P f args W fun e W' => ∃ v, e = .returned v ∧ s.post enc P fn false true false false W args v W' := by
  have hW' := hW
  obtain ⟨p, q, hA, hV, rfl, _, _⟩ := hW
  rw [hv] at hV
  obtain ⟨rfl, rfl⟩ : gs = [] ∧ q = [] := by
    cases gs with
    | nil => exact ⟨rfl, hV⟩
    | cons _ _ => exact hV.elim
  rw [hp] at hA
  obtain ⟨hlen, hdl⟩ := trodAll_length hA
  obtain ⟨xs, hsh, hrel⟩ := conv_args hti hT (Z := fun _ _ => False) (fun _ _ h => h) (r := .any) (base' := base) ts args.toList ds p htT hA (fun j t v h1 h2 => hval j t v (by
    rw [← Array.getElem?_toList, hp]; exact h1) (by simpa using h2))
  have hxl := hsh.length
  have hcall := hc xs hsh
  have hheap : ∀ i o, heapOf [] i = some o → False := by
    intro i o h
    cases i <;> simp [heapOf] at h
  have hzone : ∀ (g : Ghost) b o, ¬ zone g (heapOf []) b o := by
    rintro g b o ⟨i, ob, h, _⟩
    exact hheap i ob h
  refine (hcall.calls (w := W) (X := fun _ _ => False) (g := fun _ => undef) (vals := args) (fun _ _ h => h.elim) (hI.mono fun b o hz => hz.elim (hzone _ b o) id) ⟨fun i o h => (hheap i o h).elim, fun i _ _ _ _ h => (hheap i _ h).elim, fun i _ _ _ h => (hheap i _ h).elim⟩ (fun _ => rfl)
    (by simp at hlen; simp; omega) (fun j x v hx hvv => ?_)).mono ?_
  · simp only [List.getElem?_map, Option.map_eq_some_iff] at hx
    obtain ⟨d, hd, rfl⟩ := hx
    exact (hrel j d v hd (by simpa using hvv)).mono (fun b o u hu _ => ⟨hu, fun hz => hz.elim (hzone _ b o) id⟩)
  · rintro e W' ⟨v, g', rfl, hpost⟩
    obtain rfl : v = .bool true := by cases (show RelD _ _ (.bool true) v from hpost.res); rfl
    have hbel : Below W.heap.size W W' := ⟨hpost.frame.os, hpost.frame.tape, hpost.frame.output, hpost.frame.size, fun k hk => hpost.frame.block k hk (fun o => hzone _ k o)⟩
    obtain ⟨s1, s2, s3⟩ := hs (ds ++ []) (by simp [hdl])
    refine ⟨_, rfl, ds, [], p ++ [], [], p, [], hW', ?_, ?_, ?_, hbel.frame _, fun h => by cases h⟩
    · rw [s1, hr]
      exact trodAll_mk1 (shut_bool hb true)
    · rw [s2, hp, List.append_nil]
      exact again_all hl hbel ts args.toList ds p hrec hA (fun x hx => hW'.lt x (by simp [hx]))
    · rw [s3, hv]; rfl
end
end Go.AM

/- Printed by lift.py: functional texts of functions, and their contracts. No condition. -/
set_option linter.unusedVariables false
noncomputable section
namespace Go.Proofs.YtjobleemmjjocaaDoor
open Go Go.AM
def F12 (n : Nat) (l1 : List D) (z2 : Int) (l3 : List D) (z4 : Int) (z5 : Int) (z6 : Int) (z7 : Int) (z8 : Int) (l9 : List D) (l10 : List D) (z11 : Int) (s12 : ByteArray) (l13 : List D) : Option (Bool) :=
  bO1 (F31 n l1 z2 l3) fun b14 => (if b14 = true then bO1 (F35 n) fun b15 => some b15 else bO1 (F32 n z5 z6 z7 z8 l9 l10 z11 s12 l13) fun b16 => (if b16 = true then bO1 (F35 n) fun b17 => some b17 else bO1 (F33 n l1 z2 l3 z4 z5 z6 z7 z8 l9 l10 z11 s12 l13) fun z18 => (if z18 = (0 : Int) then bO1 (F33 n l1 z2 l3 z4 z5 z6 z7 (1 : Int) l9 l10 z11 s12 l13) fun z19 => (if z19 = (170 : Int) then bO1 (F33 n l1 z2 l3 z4 z5 z6 z7 z8 l9 l10 z11 s12 ([.str k_a])) fun z20 => (if z20 = (170 : Int) then (if z5 = (3 : Int) then (if z5 = (16 : Int) then bO1 (F35 n) fun b21 => some b21 else bO1 (F33 n l1 z2 l3 z4 z5 z6 z7 z8 ([.int .i64 0]) l10 z11 s12 l13) fun z22 => (if z22 = (170 : Int) then bO1 (F35 n) fun b23 => some b23 else some false)) else (if z5 = (27 : Int) then (if z5 = (16 : Int) then bO1 (F35 n) fun b24 => some b24 else bO1 (F33 n l1 z2 l3 z4 z5 z6 z7 z8 ([.int .i64 0]) l10 z11 s12 l13) fun z25 => (if z25 = (170 : Int) then bO1 (F35 n) fun b26 => some b26 else some false)) else bO1 (F33 n l1 z2 l3 z4 z5 z6 z7 z8 l9 l10 (1 : Int) s12 l13) fun z27 => (if z27 = (170 : Int) then (if z5 = (16 : Int) then bO1 (F35 n) fun b28 => some b28 else bO1 (F33 n l1 z2 l3 z4 z5 z6 z7 z8 ([.int .i64 0]) l10 z11 s12 l13) fun z29 => (if z29 = (170 : Int) then bO1 (F35 n) fun b30 => some b30 else some false)) else some false))) else some false) else some false) else bO1 (F35 n) fun b31 => some b31)))
set_option maxRecDepth 100000 in
set_option maxHeartbeats 40000000 in
theorem T12 (n : Nat) : ∀ ⦃l1 : List D⦄ ⦃z2 : Int⦄ ⦃l3 : List D⦄ ⦃z4 : Int⦄ ⦃z5 : Int⦄ ⦃z6 : Int⦄ ⦃z7 : Int⦄ ⦃z8 : Int⦄ ⦃l9 : List D⦄ ⦃l10 : List D⦄ ⦃z11 : Int⦄ ⦃s12 : ByteArray⦄ ⦃l13 : List D⦄ ⦃r1 : Bool⦄, F12 n l1 z2 l3 z4 z5 z6 z7 z8 l9 l10 z11 s12 l13 = some r1 →
    Trip Tryd.prog inv 12 [.d (.agg [.list true 4 l1, .int .i64 z2, .list true 16 l3]), .d (.int .i64 z4), .d (.agg [.int .u8 z5, .int .i64 z6, .int .i64 z7, .int .i64 z8, .list false 1 l9, .list false 1 l10, .int .i64 z11, .str s12, .list false 1 l13])] [] (.v (.d (.bool r1))) [] [] := by
  intro l1 z2 l3 z4 z5 z6 z7 z8 l9 l10 z11 s12 l13 r1 h
  unfold F12 at h
  refine Trip.of tab_ok tab_one fol Tryd.func12 rfl (by kernel_rfl) rfl rfl rfl (fun M hM hI => ?_)
  try cbv
  replace h := bO1_inv h
  obtain ⟨b14, hr, h⟩ := h
  refine call_go rfl rfl ?_
  try cbv
  refine call_pure hM hI (T31 _ hr) rfl ?_
  clear hr
  try cbv
  cases b14
  · replace h := ite_f Bool.false_ne_true h
    try cbv
    replace h := bO1_inv h
    obtain ⟨b16, hr, h⟩ := h
    refine call_go rfl rfl ?_
    try cbv
    refine call_pure hM hI (T32 _ hr) rfl ?_
    clear hr
    try cbv
    cases b16
    · replace h := ite_f Bool.false_ne_true h
      try cbv
      replace h := bO1_inv h
      obtain ⟨z18, hr, h⟩ := h
      refine call_go rfl rfl ?_
      try cbv
      refine call_pure hM hI (T33 _ hr) rfl ?_
      clear hr
      try cbv
      refine splitI (fun e => ?_) (fun e => ?_)
      · replace h := ite_t e h
        clear e
        try cbv
        refine ⟨false, ?_⟩
        try cbv
        refine ⟨true, ?_⟩
        try cbv
        replace h := bO1_inv h
        obtain ⟨z19, hr, h⟩ := h
        refine call_go rfl rfl ?_
        try cbv
        refine call_pure hM hI (T33 _ hr) rfl ?_
        clear hr
        try cbv
        refine splitI (fun e => ?_) (fun e => ?_)
        · replace h := ite_t e h
          clear e
          try cbv
          replace h := bO1_inv h
          obtain ⟨z20, hr, h⟩ := h
          refine call_go rfl rfl ?_
          try cbv
          refine call_pure hM hI (T33 _ hr) rfl ?_
          clear hr
          try cbv
          refine splitI (fun e => ?_) (fun e => ?_)
          · replace h := ite_t e h
            clear e
            try cbv
            refine splitI (fun e => ?_) (fun e => ?_)
            · replace h := ite_t e h
              clear e
              try cbv
              refine splitI (fun e => ?_) (fun e => ?_)
              · replace h := ite_t e h
                clear e
                try cbv
                replace h := bO1_inv h
                obtain ⟨b21, hr, h⟩ := h
                refine call_go rfl rfl ?_
                try cbv
                refine call_pure hM hI (T35 _ hr) rfl ?_
                clear hr
                try cbv
                obtain rfl := Option.some.inj h
                refine fin_go ?_
                try cbv
                exact ⟨[], rfl, rfl, trivial, trivial, trivial⟩
              · replace h := ite_f e h
                clear e
                try cbv
                refine ⟨false, ?_⟩
                try cbv
                refine ⟨true, ?_⟩
                try cbv
                replace h := bO1_inv h
                obtain ⟨z22, hr, h⟩ := h
                refine call_go rfl rfl ?_
                try cbv
                refine call_pure hM hI (T33 _ hr) rfl ?_
                clear hr
                try cbv
                refine splitI (fun e => ?_) (fun e => ?_)
                · replace h := ite_t e h
                  clear e
                  try cbv
                  replace h := bO1_inv h
                  obtain ⟨b23, hr, h⟩ := h
                  refine call_go rfl rfl ?_
                  try cbv
                  refine call_pure hM hI (T35 _ hr) rfl ?_
                  clear hr
                  try cbv
                  obtain rfl := Option.some.inj h
                  refine fin_go ?_
                  try cbv
                  exact ⟨[], rfl, rfl, trivial, trivial, trivial⟩
                · replace h := ite_f e h
                  clear e
                  try cbv
                  obtain rfl := Option.some.inj h
                  refine fin_go ?_
                  try cbv
                  exact ⟨[], rfl, rfl, trivial, trivial, trivial⟩
            · replace h := ite_f e h
              clear e
              try cbv
              refine splitI (fun e => ?_) (fun e => ?_)
              · replace h := ite_t e h
                clear e
                try cbv
                refine splitI (fun e => ?_) (fun e => ?_)
                · replace h := ite_t e h
                  clear e
                  try cbv
                  replace h := bO1_inv h
                  obtain ⟨b24, hr, h⟩ := h
                  refine call_go rfl rfl ?_
                  try cbv
                  refine call_pure hM hI (T35 _ hr) rfl ?_
                  clear hr
                  try cbv
                  obtain rfl := Option.some.inj h
                  refine fin_go ?_
                  try cbv
                  exact ⟨[], rfl, rfl, trivial, trivial, trivial⟩
                · replace h := ite_f e h
                  clear e
                  try cbv
                  refine ⟨false, ?_⟩
                  try cbv
                  refine ⟨true, ?_⟩
                  try cbv
                  replace h := bO1_inv h
                  obtain ⟨z25, hr, h⟩ := h
                  refine call_go rfl rfl ?_
                  try cbv
                  refine call_pure hM hI (T33 _ hr) rfl ?_
                  clear hr
                  try cbv
                  refine splitI (fun e => ?_) (fun e => ?_)
                  · replace h := ite_t e h
                    clear e
                    try cbv
                    replace h := bO1_inv h
                    obtain ⟨b26, hr, h⟩ := h
                    refine call_go rfl rfl ?_
                    try cbv
                    refine call_pure hM hI (T35 _ hr) rfl ?_
                    clear hr
                    try cbv
                    obtain rfl := Option.some.inj h
                    refine fin_go ?_
                    try cbv
                    exact ⟨[], rfl, rfl, trivial, trivial, trivial⟩
                  · replace h := ite_f e h
                    clear e
                    try cbv
                    obtain rfl := Option.some.inj h
                    refine fin_go ?_
                    try cbv
                    exact ⟨[], rfl, rfl, trivial, trivial, trivial⟩
              · replace h := ite_f e h
                clear e
                try cbv
                replace h := bO1_inv h
                obtain ⟨z27, hr, h⟩ := h
                refine call_go rfl rfl ?_
                try cbv
                refine call_pure hM hI (T33 _ hr) rfl ?_
                clear hr
                try cbv
                refine splitI (fun e => ?_) (fun e => ?_)
                · replace h := ite_t e h
                  clear e
                  try cbv
                  refine splitI (fun e => ?_) (fun e => ?_)
                  · replace h := ite_t e h
                    clear e
                    try cbv
                    replace h := bO1_inv h
                    obtain ⟨b28, hr, h⟩ := h
                    refine call_go rfl rfl ?_
                    try cbv
                    refine call_pure hM hI (T35 _ hr) rfl ?_
                    clear hr
                    try cbv
                    obtain rfl := Option.some.inj h
                    refine fin_go ?_
                    try cbv
                    exact ⟨[], rfl, rfl, trivial, trivial, trivial⟩
                  · replace h := ite_f e h
                    clear e
                    try cbv
                    refine ⟨false, ?_⟩
                    try cbv
                    refine ⟨true, ?_⟩
                    try cbv
                    replace h := bO1_inv h
                    obtain ⟨z29, hr, h⟩ := h
                    refine call_go rfl rfl ?_
                    try cbv
                    refine call_pure hM hI (T33 _ hr) rfl ?_
                    clear hr
                    try cbv
                    refine splitI (fun e => ?_) (fun e => ?_)
                    · replace h := ite_t e h
                      clear e
                      try cbv
                      replace h := bO1_inv h
                      obtain ⟨b30, hr, h⟩ := h
                      refine call_go rfl rfl ?_
                      try cbv
                      refine call_pure hM hI (T35 _ hr) rfl ?_
                      clear hr
                      try cbv
                      obtain rfl := Option.some.inj h
                      refine fin_go ?_
                      try cbv
                      exact ⟨[], rfl, rfl, trivial, trivial, trivial⟩
                    · replace h := ite_f e h
                      clear e
                      try cbv
                      obtain rfl := Option.some.inj h
                      refine fin_go ?_
                      try cbv
                      exact ⟨[], rfl, rfl, trivial, trivial, trivial⟩
                · replace h := ite_f e h
                  clear e
                  try cbv
                  obtain rfl := Option.some.inj h
                  refine fin_go ?_
                  try cbv
                  exact ⟨[], rfl, rfl, trivial, trivial, trivial⟩
          · replace h := ite_f e h
            clear e
            try cbv
            obtain rfl := Option.some.inj h
            refine fin_go ?_
            try cbv
            exact ⟨[], rfl, rfl, trivial, trivial, trivial⟩
        · replace h := ite_f e h
          clear e
          try cbv
          obtain rfl := Option.some.inj h
          refine fin_go ?_
          try cbv
          exact ⟨[], rfl, rfl, trivial, trivial, trivial⟩
      · replace h := ite_f e h
        clear e
        try cbv
        replace h := bO1_inv h
        obtain ⟨b31, hr, h⟩ := h
        refine call_go rfl rfl ?_
        try cbv
        refine call_pure hM hI (T35 _ hr) rfl ?_
        clear hr
        try cbv
        obtain rfl := Option.some.inj h
        refine fin_go ?_
        try cbv
        exact ⟨[], rfl, rfl, trivial, trivial, trivial⟩
    · replace h := ite_t rfl h
      try cbv
      replace h := bO1_inv h
      obtain ⟨b17, hr, h⟩ := h
      refine call_go rfl rfl ?_
      try cbv
      refine call_pure hM hI (T35 _ hr) rfl ?_
      clear hr
      try cbv
      obtain rfl := Option.some.inj h
      refine fin_go ?_
      try cbv
      exact ⟨[], rfl, rfl, trivial, trivial, trivial⟩
  · replace h := ite_t rfl h
    try cbv
    replace h := bO1_inv h
    obtain ⟨b15, hr, h⟩ := h
    refine call_go rfl rfl ?_
    try cbv
    refine call_pure hM hI (T35 _ hr) rfl ?_
    clear hr
    try cbv
    obtain rfl := Option.some.inj h
    refine fin_go ?_
    try cbv
    exact ⟨[], rfl, rfl, trivial, trivial, trivial⟩
end Go.Proofs.YtjobleemmjjocaaDoor
end

/- Chapter 17, the plain law: CodeOthers. No condition. -/
set_option linter.unusedVariables false
noncomputable section
namespace Go.Proofs.YtjobleemmjjocaaDoor
open Go Go.AM

/-- Which ops have numbers, and which have slots. -/
theorem shp_has {op : Int} (h0 : 0 ≤ op) (h1 : op < 256) : ((shp op).2.2.2.2.2.1 = true → op = 3 ∨ op = 27) ∧ ((shp op).2.2.2.2.1 = true → op = 16) := by
  by_cases hb : 35 ≤ op
  · unfold shp
    rw [shB 0 hb h1]
    exact ⟨fun h => (Bool.false_ne_true h).elim, fun h => (Bool.false_ne_true h).elim⟩
  · obtain ⟨k, rfl⟩ : ∃ k : Nat, op = k := ⟨op.toNat, by omega⟩
    have hk : k < 35 := by omega
    have key : ∀ j : Fin 35, ((shp (j.val : Int)).2.2.2.2.2.1 = true → j.val = 3 ∨ j.val = 27) ∧ ((shp (j.val : Int)).2.2.2.2.1 = true → j.val = 16) := by
      intro j
      match j with
      | ⟨0, _⟩ => exact ⟨fun h => (Bool.false_ne_true h).elim, fun h => (Bool.false_ne_true h).elim⟩
      | ⟨1, _⟩ => exact ⟨fun h => (Bool.false_ne_true h).elim, fun h => (Bool.false_ne_true h).elim⟩
      | ⟨2, _⟩ => exact ⟨fun h => (Bool.false_ne_true h).elim, fun h => (Bool.false_ne_true h).elim⟩
      | ⟨3, _⟩ => exact ⟨fun _ => .inl rfl, fun h => (Bool.false_ne_true h).elim⟩
      | ⟨4, _⟩ => exact ⟨fun h => (Bool.false_ne_true h).elim, fun h => (Bool.false_ne_true h).elim⟩
      | ⟨5, _⟩ => exact ⟨fun h => (Bool.false_ne_true h).elim, fun h => (Bool.false_ne_true h).elim⟩
      | ⟨6, _⟩ => exact ⟨fun h => (Bool.false_ne_true h).elim, fun h => (Bool.false_ne_true h).elim⟩
      | ⟨7, _⟩ => exact ⟨fun h => (Bool.false_ne_true h).elim, fun h => (Bool.false_ne_true h).elim⟩
      | ⟨8, _⟩ => exact ⟨fun h => (Bool.false_ne_true h).elim, fun h => (Bool.false_ne_true h).elim⟩
      | ⟨9, _⟩ => exact ⟨fun h => (Bool.false_ne_true h).elim, fun h => (Bool.false_ne_true h).elim⟩
      | ⟨10, _⟩ => exact ⟨fun h => (Bool.false_ne_true h).elim, fun h => (Bool.false_ne_true h).elim⟩
      | ⟨11, _⟩ => exact ⟨fun h => (Bool.false_ne_true h).elim, fun h => (Bool.false_ne_true h).elim⟩
      | ⟨12, _⟩ => exact ⟨fun h => (Bool.false_ne_true h).elim, fun h => (Bool.false_ne_true h).elim⟩
      | ⟨13, _⟩ => exact ⟨fun h => (Bool.false_ne_true h).elim, fun h => (Bool.false_ne_true h).elim⟩
      | ⟨14, _⟩ => exact ⟨fun h => (Bool.false_ne_true h).elim, fun h => (Bool.false_ne_true h).elim⟩
      | ⟨15, _⟩ => exact ⟨fun h => (Bool.false_ne_true h).elim, fun h => (Bool.false_ne_true h).elim⟩
      | ⟨16, _⟩ => exact ⟨fun h => (Bool.false_ne_true h).elim, fun _ => rfl⟩
      | ⟨17, _⟩ => exact ⟨fun h => (Bool.false_ne_true h).elim, fun h => (Bool.false_ne_true h).elim⟩
      | ⟨18, _⟩ => exact ⟨fun h => (Bool.false_ne_true h).elim, fun h => (Bool.false_ne_true h).elim⟩
      | ⟨19, _⟩ => exact ⟨fun h => (Bool.false_ne_true h).elim, fun h => (Bool.false_ne_true h).elim⟩
      | ⟨20, _⟩ => exact ⟨fun h => (Bool.false_ne_true h).elim, fun h => (Bool.false_ne_true h).elim⟩
      | ⟨21, _⟩ => exact ⟨fun h => (Bool.false_ne_true h).elim, fun h => (Bool.false_ne_true h).elim⟩
      | ⟨22, _⟩ => exact ⟨fun h => (Bool.false_ne_true h).elim, fun h => (Bool.false_ne_true h).elim⟩
      | ⟨23, _⟩ => exact ⟨fun h => (Bool.false_ne_true h).elim, fun h => (Bool.false_ne_true h).elim⟩
      | ⟨24, _⟩ => exact ⟨fun h => (Bool.false_ne_true h).elim, fun h => (Bool.false_ne_true h).elim⟩
      | ⟨25, _⟩ => exact ⟨fun h => (Bool.false_ne_true h).elim, fun h => (Bool.false_ne_true h).elim⟩
      | ⟨26, _⟩ => exact ⟨fun h => (Bool.false_ne_true h).elim, fun h => (Bool.false_ne_true h).elim⟩
      | ⟨27, _⟩ => exact ⟨fun _ => .inr rfl, fun h => (Bool.false_ne_true h).elim⟩
      | ⟨28, _⟩ => exact ⟨fun h => (Bool.false_ne_true h).elim, fun h => (Bool.false_ne_true h).elim⟩
      | ⟨29, _⟩ => exact ⟨fun h => (Bool.false_ne_true h).elim, fun h => (Bool.false_ne_true h).elim⟩
      | ⟨30, _⟩ => exact ⟨fun h => (Bool.false_ne_true h).elim, fun h => (Bool.false_ne_true h).elim⟩
      | ⟨31, _⟩ => exact ⟨fun h => (Bool.false_ne_true h).elim, fun h => (Bool.false_ne_true h).elim⟩
      | ⟨32, _⟩ => exact ⟨fun h => (Bool.false_ne_true h).elim, fun h => (Bool.false_ne_true h).elim⟩
      | ⟨33, _⟩ => exact ⟨fun h => (Bool.false_ne_true h).elim, fun h => (Bool.false_ne_true h).elim⟩
      | ⟨34, _⟩ => exact ⟨fun h => (Bool.false_ne_true h).elim, fun h => (Bool.false_ne_true h).elim⟩
      | ⟨n + 35, h⟩ => exact absurd h (by omega)
    have := key ⟨k, hk⟩
    simp only at this
    exact ⟨fun h => by rcases this.1 h with e | e <;> omega, fun h => by have := this.2 h; omega⟩

theorem okIns_false {l1 : List D} {z4 op a b c i : Int} {l9 l10 l13 : List D} {s12 : ByteArray} (h : ∀ sl en, insB l1 sl en (shp op) op a b c l9 l10 i s12 l13 = false) : okIns l1 z4 op a b c l9 l10 i s12 l13 = false := by
  unfold okIns
  cases decide (0 ≤ z4)
  · rfl
  · rw [Bool.true_and]
    split
    · exact h _ _
    · rfl
theorem ins_c {l1 : List D} {sl en op a b c i : Int} {l9 l10 l13 : List D} {s12 : ByteArray} {s : ByteArray × Int × Int × Bool × Bool × Bool × Bool × List D × Bool} (h : ¬ c = 0) : insB l1 sl en s op a b c l9 l10 i s12 l13 = false := by
  unfold insB
  simp only [h, decide_false, Bool.and_false, Bool.false_and]
theorem ins_13 {l1 : List D} {sl en op a b c i : Int} {l9 l10 l13 : List D} {s12 : ByteArray} {s : ByteArray × Int × Int × Bool × Bool × Bool × Bool × List D × Bool} (h : nilB l13 = false) : insB l1 sl en s op a b c l9 l10 i s12 l13 = false := by
  unfold insB
  simp only [h, Bool.and_false, Bool.false_and]
theorem ins_i {l1 : List D} {sl en op a b c i : Int} {l9 l10 l13 : List D} {s12 : ByteArray} {s : ByteArray × Int × Int × Bool × Bool × Bool × Bool × List D × Bool} (h : s.2.2.2.2.2.1 = false) (hi : ¬ i = 0) : insB l1 sl en s op a b c l9 l10 i s12 l13 = false := by
  unfold insB
  have : wholeB s.2.2.2.2.2.1 op a i = false := by rw [h]; simp [wholeB, hi]
  simp only [this, Bool.and_false, Bool.false_and]
theorem ins_9 {l1 : List D} {sl en op a b c i : Int} {l9 l10 l13 : List D} {s12 : ByteArray} {s : ByteArray × Int × Int × Bool × Bool × Bool × Bool × List D × Bool} (h : s.2.2.2.2.1 = false) (hi : nilB l9 = false) : insB l1 sl en s op a b c l9 l10 i s12 l13 = false := by
  unfold insB
  simp only [h, hi, Bool.or_self, Bool.and_false, Bool.false_and]

theorem code_others_law {l1 : List D} (hF : ListS tab 56 l1) (z2 : Int) {l3 : List D} (hT : ListS tab 82 l3) {op a b c i : Int} (h0 : 0 ≤ op) (h1 : op < 256) {l9 l10 l13 : List D} {s12 : ByteArray} (h9 : ListS tab 3 l9) (h10 : ListS tab 9 l10) (z4 : Int) :
    Ev (fun n => F12 n l1 z2 l3 z4 op a b c l9 l10 i s12 l13) true := by
  obtain ⟨r, hr⟩ := tot31 hF z2 hT
  obtain ⟨r', hr'⟩ := tot32 op a b c l9 h10 i s12 l13
  obtain ⟨hw, hs⟩ := shp_has h0 h1
  have aw : Ev (fun n => bO1 (F35 n) fun b => some b) true := Ev.bO1 ev35 Ev.ret
  have bad : rc false = 170 := rfl
  unfold F12
  refine Ev.bO1 hr ?_
  cases r
  rotate_left
  · simp only [if_true]; exact aw
  simp only [if_neg Bool.false_ne_true]
  refine Ev.bO1 hr' ?_
  cases r'
  rotate_left
  · simp only [if_true]; exact aw
  simp only [if_neg Bool.false_ne_true]
  refine Ev.bO1 (ev33a hF h0 h1 h9 h10 z2 l3 z4) ?_
  cases okIns l1 z4 op a b c l9 l10 i s12 l13
  · simp only [rc, if_neg Bool.false_ne_true, if_neg (show ¬ (170 : Int) = 0 by decide)]; exact aw
  simp only [rc, if_true]
  have e1 := ev33a hF h0 h1 h9 h10 (a := a) (b := b) (c := 1) (i := i) (s12 := s12) (l13 := l13) z2 l3 z4
  rw [okIns_false (fun sl en => ins_c (by decide)), bad] at e1
  refine Ev.bO1 e1 ?_
  simp only [if_true]
  have e2 := ev33a hF h0 h1 h9 h10 (a := a) (b := b) (c := c) (i := i) (s12 := s12) (l13 := [.str k_a]) z2 l3 z4
  rw [okIns_false (fun sl en => ins_13 (by decide)), bad] at e2
  refine Ev.bO1 e2 ?_
  simp only [if_true]
  have h9' : ListS tab 3 [.int .i64 0] := list3 [0] (by decide) (by decide)
  have last : Ev (fun n => if op = 16 then bO1 (F35 n) fun b => some b else bO1 (F33 n l1 z2 l3 z4 op a b c ([.int .i64 0]) l10 i s12 l13) fun z22 => (if z22 = (170 : Int) then bO1 (F35 n) fun b23 => some b23 else some false)) true := by
    by_cases g : op = 16
    · simp only [if_pos g]; exact aw
    · simp only [if_neg g]
      have e4 := ev33a hF h0 h1 h9' h10 (a := a) (b := b) (c := c) (i := i) (s12 := s12) (l13 := l13) z2 l3 z4
      rw [okIns_false (fun sl en => ins_9 (by cases h : (shp op).2.2.2.2.1 with | false => rfl | true => exact absurd (hs h) g) (by decide)), bad] at e4
      refine Ev.bO1 e4 ?_
      simp only [if_true]; exact aw
  by_cases g3 : op = 3
  · simp only [if_pos g3]; exact last
  by_cases g27 : op = 27
  · simp only [if_neg g3, if_pos g27]; exact last
  simp only [if_neg g3, if_neg g27]
  have e3 := ev33a hF h0 h1 h9 h10 (a := a) (b := b) (c := c) (i := 1) (s12 := s12) (l13 := l13) z2 l3 z4
  rw [okIns_false (fun sl en => ins_i (by cases h : (shp op).2.2.2.2.2.1 with | false => rfl | true => exact absurd (hw h) (by omega)) (by decide)), bad] at e3
  refine Ev.bO1 e3 ?_
  simp only [if_true]; exact last

theorem code_others_trip : ∀ xs : List D, Shapes tab [45, 3, 48] xs → Trip Tryd.prog inv 12 (xs.map V1.d) [] (.v (.d (.bool true))) [] [] := by
  intro xs h
  match xs, h with
  | [u, f, x], ⟨u1, u2, f1, f2, x1, x2, _⟩ =>
    obtain ⟨l1, z2, l3, rfl, hF, _, hT⟩ := rs45 ⟨u1, u2⟩
    obtain ⟨z4, rfl, _⟩ := rs3 ⟨f1, f2⟩
    obtain ⟨op, a, b, c, l9, l10, i, s12, l13, rfl, w0, _, _, _, h9, h10, _⟩ := rs48 ⟨x1, x2⟩
    obtain ⟨n, hn⟩ := (code_others_law hF z2 hT (u8_range w0).1 (u8_range w0).2 h9 h10 z4 (a := a) (b := b) (c := c) (i := i) (s12 := s12) (l13 := l13)).run
    exact T12 n hn
end Go.Proofs.YtjobleemmjjocaaDoor
end

/- CodeOthers holds: fields that an Op has not may not be set. No condition. -/
namespace Go.Proofs.YtjobleemmjjocaaDoor
open Go Go.ChangeShapes Go.WideShapes Go.ChangeAt Go.RowKit Go.AM

theorem code_others_reads : ∀ t ∈ [45, 3, 48], Tryd.prog.readableRec t = true ∧ t < Tryd.prog.types.size := by
  have h : ([45, 3, 48].all fun t => Tryd.prog.readableRec t && decide (t < Tryd.prog.types.size)) = true := by kernel_rfl
  intro t ht
  have := List.all_eq_true.1 h t ht
  simpa using this

/-- What the row knows of the library's table. -/
theorem code_others_inv {W : World} (h : laidMet Tryd.prog Rows.codeOthersRow.laid W) : inv.at W fun _ _ => False := by
  have e : (Rows.codeOthersRow.laid.filter fun x => x.1 == "internal/strconv.uint64pow10") = [("internal/strconv.uint64pow10", Lib.tabData .u64 Lib.pow10Tab)] := by kernel_rfl
  have h2 := laidMet.filter (fun x => x.1 == "internal/strconv.uint64pow10") h
  rw [e] at h2
  have ht : Lib.TabIs Tryd.prog W "internal/strconv.uint64pow10" .u64 Lib.pow10Tab := by
    exact Lib.tabIs_of_head (g := 0) (t := 138) (e := 35) (n := 20) (by kernel_rfl) (by kernel_rfl) (by kernel_rfl) (by kernel_rfl) (by kernel_rfl) (by kernel_rfl) h2
  refine ⟨ht, fun b hb => ⟨?_, fun _ h => h⟩⟩
  have hb : Tryd.prog.globalNamed "internal/strconv.uint64pow10" = some b := hb
  unfold Lib.TabIs World.var? at ht
  rw [hb] at ht
  simp only [Option.bind_some] at ht
  cases hx : W.heap[b]? with
  | none => rw [hx] at ht; simp at ht
  | some o => exact (Array.getElem?_eq_some_iff.1 hx).1

set_option maxRecDepth 100000 in
theorem code_others_lifted (os : Os) (started : os.Started) (H : Type) (enc : TypeId × Value → H) :
    ReturnsInHanded {} Tryd.checked os 12 .any (fun w args => (Rows.codeOthersSpec.pre enc Tryd.prog Tryd.f12 Rows.codeOthersRow.domain false w args ∧ laidMetH Tryd.prog Rows.codeOthersRow.laid w) ∧ sizedMet enc Tryd.prog Tryd.f12 (OpenSpec.ofChange Rows.codeOthersSpec) false w args)
      (Rows.codeOthersSpec.post enc Tryd.prog Tryd.f12 false true false false) := by
  refine returnsInHanded_of_change_and (C := Tryd.checked) (X := fun w _ => laidMetH Tryd.prog Rows.codeOthersRow.laid w) (fun _ _ _ hh h => h.of_heap hh) (by kernel_rfl) started (by kernel_rfl) Tryd.func12
    (ChangeSpec.witness_shaped (enc := enc) (C := Tryd.checked) (os := os) (X := fun w _ => laidMetH Tryd.prog Rows.codeOthersRow.laid w) false (World.laidAll Tryd.prog os Rows.codeOthersRow.laid) #[.agg #[.slice none 0 0, .int .i64 0, .slice none 0 0], .int .i64 0, .agg #[.int .u8 0, .int .i64 0, .int .i64 0, .int .i64 0, .slice none 0 0, .slice none 0 0, .int .i64 0, .string ⟨#[]⟩, .slice none 0 0]] 8 (World.laidAll_os _ _ _)
      (World.shaped_of_ZipB (by kernel_rfl) (by kernel_rfl)) (by kernel_rfl) (by kernel_rfl) (by kernel_rfl)
      (by rw [MakeChecks.laidMetH_plain _ _ _ (by kernel_rfl)]; exact laidMet_laidAll _ (by kernel_rfl) (by kernel_rfl))) ?_
  intro W base args ds gs before hval0 hW _ _ hL _
  rw [MakeChecks.laidMetH_plain _ _ _ (by kernel_rfl)] at hL
  refine law_calls (ti := tab) (T := [2, 3, 5, 9, 30, 42, 43, 45, 46, 48, 54, 56, 71, 72, 74, 75, 77, 78, 80, 82, 98, 162, 164, 166]) tab_ok (by kernel_rfl) (ts := [45, 3, 48]) (bt := 4) rfl rfl rfl (by kernel_rfl) (by decide) ?_ (by kernel_rfl) code_others_reads code_others_trip (code_others_inv hL) hval0 hW
  intro ds h
  match ds, h with
  | [_, _, _], _ => exact ⟨rfl, rfl, rfl⟩
theorem code_others_row : Rows.CodeOthersSaid :=
  OpenClaim.holds_of_wide 12 Tryd.f12 rfl rfl rfl rfl rfl rfl rfl ⟨rfl, rfl, rfl, rfl, rfl⟩ rfl rfl rfl rfl rfl (by kernel_rfl) Tryd.func12 (by kernel_rfl)
    (of_decide_eq_true (by kernel_rfl)) (by unfold Func.isWrapper; first | (rw [if_pos (by decide +kernel)]; kernel_rfl) | (rw [if_neg (by decide +kernel)]; exact ⟨rfl, rfl⟩))
    (fun os started H enc _ => code_others_lifted os started H enc)
theorem code_others : Rows.CodeOthersCardSaid :=
  Claim7.holds_tied_plain_at .later [] [.data, .data, .data] true Rows.codeOthersCard.stood.harness false code_others_row (fun _ h => by cases h) (by kernel_rfl) (fun _ h => by cases h) codeOthers_row_tie rfl ⟨rfl, rfl⟩ (by kernel_rfl) rfl
    (fun f fn hf hfn => by
      obtain rfl : f = 12 := Option.some.inj ((show Tryd.prog.funcNamed "weftway/weftwaylaw17.CodeOthers" = some 12 by kernel_rfl).symm.trans hf) |>.symm
      obtain rfl : fn = Tryd.f12 := (Option.some.inj (Tryd.func12.symm.trans hfn)).symm
      exact ⟨by kernel_rfl, fun j t ht => by
        have hm : t ∈ [45, 3, 48] := by
          have hp : Tryd.f12.params.toList = [45, 3, 48] := rfl
          rw [← hp]; simpa using Array.mem_of_getElem? ht
        have hall : ([45, 3, 48].all fun u => !Tryd.prog.wantsStandIn u) = true := by kernel_rfl
        exact (show Tryd.prog.wantsStandIn t = false by simpa using List.all_eq_true.1 hall t hm)⟩)
    (by kernel_rfl)
end Go.Proofs.YtjobleemmjjocaaDoor
