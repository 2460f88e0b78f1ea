/- CodeMay: whether a unit may be is what the chapter says. No condition. (Part 6: YtjobleemmjjocaaDoorX32, YtjobleemmjjocaaDoorX31, YtjobleemmjjocaaDoorX10, CdF, AmR, YtjobleemmjjocaaDoorX78, YtjobleemmjjocaaDoorX88, YtjobleemmjjocaaDoorX79, YtjobleemmjjocaaDoorX66, YtjobleemmjjocaaDoorX39, YtjobleemmjjocaaDoorX67, YtjobleemmjjocaaDoorX68, YtjobleemmjjocaaDoorX40, Ytjobleemmjjoca.) -/
import Derived.Carry
import Derived.ChangeSame
import Derived.ChangeOld
import Derived.ChangeCalls
import Derived.WideShapes
import Derived.Test.YtjobleemmjjocaaDoorRows
import Derived.Test.YtjobleemmjjocaaDoorTie
import Derived.Test.YtjobleemmjjocaaDoorCards
import Derived.JoinedOf
import Derived.JoinedAt
import Derived.RowKit
import Derived.RowKit2
import Derived.ReadAgain
import Derived.ChangeAlike
import Derived.Lay
import Derived.Handed
import Derived.LaidSub
import Derived.LaidLaws
import Derived.LaidHandle
import Derived.MakeChecks
import Derived.SevenTiedAt
import Derived.Lib.LaidTab
import Derived.Lib.LaidU8
import Derived.Test.YtjobleemmjjocaaDoorCodE
set_option linter.unusedVariables false
set_option linter.unusedSimpArgs false
/- Printed by lift.py: functional texts of functions, and their contracts. No condition. -/
set_option linter.unusedVariables false
noncomputable section
namespace Go.Proofs.YtjobleemmjjocaaDoor
open Go Go.AM
def L32_1 : Nat → (List D) → Int → Option (Bool)
  | 0, _, _ => none
  | n + 1, l6, z14 =>
    lenF l6 fun z15 => (if z14 < z15 then getF l6 z14 fun x16 => ds_str x16 fun s17 => szF s17 fun z18 => (if (1000 : Int) < z18 then some true else letF (IntKind.wrap .i64 (z14 + 1)) fun z19 => L32_1 n l6 z19) else some false)
def F32 (n : Nat) (z1 : Int) (z2 : Int) (z3 : Int) (z4 : Int) (l5 : List D) (l6 : List D) (z7 : Int) (s8 : ByteArray) (l9 : List D) : Option (Bool) :=
  lenF l6 fun z10 => (if (60 : Int) < z10 then some true else lenF l5 fun z11 => (if (60 : Int) < z11 then some true else lenF l9 fun z12 => (if (60 : Int) < z12 then some true else szF s8 fun z13 => (if (1000 : Int) < z13 then some true else L32_1 n l6 (0 : Int)))))
set_option maxRecDepth 100000 in
set_option maxHeartbeats 40000000 in
theorem T32 (n : Nat) : ∀ ⦃z1 : Int⦄ ⦃z2 : Int⦄ ⦃z3 : Int⦄ ⦃z4 : Int⦄ ⦃l5 : List D⦄ ⦃l6 : List D⦄ ⦃z7 : Int⦄ ⦃s8 : ByteArray⦄ ⦃l9 : List D⦄ ⦃r1 : Bool⦄, F32 n z1 z2 z3 z4 l5 l6 z7 s8 l9 = some r1 →
    Trip Tryd.prog inv 32 [.d (.agg [.int .u8 z1, .int .i64 z2, .int .i64 z3, .int .i64 z4, .list false 1 l5, .list false 1 l6, .int .i64 z7, .str s8, .list false 1 l9])] [] (.v (.d (.bool r1))) [] [] := by
  intro z1 z2 z3 z4 l5 l6 z7 s8 l9 r1 h
  unfold F32 at h
  refine Trip.of tab_ok tab_one fol Tryd.func32 rfl (by kernel_rfl) rfl rfl rfl (fun M hM hI => ?_)
  try cbv
  replace h := lenF_inv M h
  obtain ⟨z10, hz, h⟩ := h
  refine ⟨z10, hz, ?_⟩
  clear hz
  try cbv
  refine splitL (fun e => ?_) (fun e => ?_)
  · replace h := ite_t e h
    clear e
    try cbv
    obtain rfl := Option.some.inj h
    refine fin_go ?_
    try cbv
    exact ⟨[], rfl, rfl, trivial, trivial, trivial⟩
  · replace h := ite_f (Int.not_lt.2 e) h
    clear e
    try cbv
    replace h := lenF_inv M h
    obtain ⟨z11, hz, h⟩ := h
    refine ⟨z11, hz, ?_⟩
    clear hz
    try cbv
    refine splitL (fun e => ?_) (fun e => ?_)
    · replace h := ite_t e h
      clear e
      try cbv
      obtain rfl := Option.some.inj h
      refine fin_go ?_
      try cbv
      exact ⟨[], rfl, rfl, trivial, trivial, trivial⟩
    · replace h := ite_f (Int.not_lt.2 e) h
      clear e
      try cbv
      replace h := lenF_inv M h
      obtain ⟨z12, hz, h⟩ := h
      refine ⟨z12, hz, ?_⟩
      clear hz
      try cbv
      refine splitL (fun e => ?_) (fun e => ?_)
      · replace h := ite_t e h
        clear e
        try cbv
        obtain rfl := Option.some.inj h
        refine fin_go ?_
        try cbv
        exact ⟨[], rfl, rfl, trivial, trivial, trivial⟩
      · replace h := ite_f (Int.not_lt.2 e) h
        clear e
        try cbv
        replace h := szF_inv M h
        obtain ⟨z13, hz, h⟩ := h
        refine ⟨z13, hz, ?_⟩
        clear hz
        try cbv
        refine splitL (fun e => ?_) (fun e => ?_)
        · replace h := ite_t e h
          clear e
          try cbv
          obtain rfl := Option.some.inj h
          refine fin_go ?_
          try cbv
          exact ⟨[], rfl, rfl, trivial, trivial, trivial⟩
        · replace h := ite_f (Int.not_lt.2 e) h
          clear e
          try cbv
          refine loop_inv (T := Nat × Int) [1, 2, 3] [.loc 0] 800 (fun t => ⟨[(1, .v (.c (.ptr (.loc 0) 0))), (2, .v (.d (.bool false))), (3, .v (.d (.int .i64 t.2)))], [(.loc 0, .cells [.d (.int .u8 z1), .d (.int .i64 z2), .d (.int .i64 z3), .d (.int .i64 z4), .d (.list false 1 l5), .d (.list false 1 l6), .d (.int .i64 z7), .d (.str s8), .d (.list false 1 l9)])], 800⟩)
            (fun t => t.1 ≤ n ∧ L32_1 t.1 l6 t.2 = some r1) (fun t => t.1) (n, (0 : Int)) ⟨Nat.le_refl _, h⟩ (by cbv) ?_
          clear h
          rintro ⟨m1, z14⟩ ⟨hm1, h⟩
          replace hm1 : m1 ≤ n := hm1
          cases m1 with
          | zero => cases (show (none : Option _) = some _ from h)
          | succ m1 =>
            replace h : L32_1 (m1 + 1) l6 z14 = some r1 := h
            rw [L32_1] at h
            try cbv
            replace h := lenF_inv M h
            obtain ⟨z15, hz, h⟩ := h
            refine ⟨z15, hz, ?_⟩
            clear hz
            try cbv
            refine splitL (fun e => ?_) (fun e => ?_)
            · replace h := ite_t e h
              clear e
              try cbv
              replace h := getF_inv h
              obtain ⟨x16, ⟨hx0, hx⟩, h⟩ := h
              refine ⟨x16, hx0, hx, ?_⟩
              clear hx0 hx
              replace h := ds_str_inv h
              obtain ⟨s17, rfl, h⟩ := h
              try cbv
              replace h := szF_inv M h
              obtain ⟨z18, hz, h⟩ := h
              refine ⟨z18, hz, ?_⟩
              clear hz
              try cbv
              refine splitL (fun e => ?_) (fun e => ?_)
              · replace h := ite_t e h
                clear e
                try cbv
                obtain rfl := Option.some.inj h
                refine fin_go ?_
                try cbv
                exact ⟨[], rfl, rfl, trivial, trivial, trivial⟩
              · replace h := ite_f (Int.not_lt.2 e) h
                clear e
                try cbv
                replace h := letF_inv h
                obtain ⟨z19, hz, h⟩ := h
                refine ⟨z19, hz, ?_⟩
                clear hz
                try cbv
                exact loop_next (m1, z19) [1, 2, 3] [.loc 0] 800 ⟨by omega, h⟩ (Nat.lt_succ_of_le (by omega)) (by cbv)
            · replace h := ite_f (Int.not_lt.2 e) h
              clear e
              try cbv
              obtain rfl := Option.some.inj h
              refine fin_go ?_
              try cbv
              exact ⟨[], rfl, rfl, trivial, trivial, trivial⟩
end Go.Proofs.YtjobleemmjjocaaDoor
end

/- Printed by lift.py: functional texts of functions, and their contracts. No condition. -/
set_option linter.unusedVariables false
noncomputable section
namespace Go.Proofs.YtjobleemmjjocaaDoor
open Go Go.AM
def L31_3 : Nat → (List D) → Int → Option (Bool)
  | 0, _, _ => none
  | n + 1, l3, z45 =>
    lenF l3 fun z46 => (if z45 < z46 then getF l3 z45 fun x47 => ds_t82 x47 fun z48 s49 l50 z51 s52 l53 l54 z55 z56 s57 s58 s59 l60 l61 z62 z63 => lenF l50 fun z64 => (if (20 : Int) < z64 then some true else getF l3 z45 fun x65 => ds_t82 x65 fun z66 s67 l68 z69 s70 l71 l72 z73 z74 s75 s76 s77 l78 l79 z80 z81 => szF s67 fun z82 => (if (1000 : Int) < z82 then some true else letF (IntKind.wrap .i64 (z45 + 1)) fun z83 => L31_3 n l3 z83)) else some false)
mutual
def L31_1 : Nat → (List D) → (List D) → Int → Option (Bool)
  | 0, _, _, _ => none
  | n + 1, l1, l3, z6 =>
    lenF l1 fun z7 => (if z6 < z7 then getF l1 z6 fun x8 => ds_t56 x8 fun s9 z10 z11 l12 => lenF l12 fun z13 => (if (300 : Int) < z13 then some true else getF l1 z6 fun x14 => ds_t56 x14 fun s15 z16 z17 l18 => szF s15 fun z19 => (if (1000 : Int) < z19 then some true else L31_2 n l1 l3 z6 (0 : Int))) else L31_3 n l3 (0 : Int))
def L31_2 : Nat → (List D) → (List D) → Int → Int → Option (Bool)
  | 0, _, _, _, _ => none
  | n + 1, l1, l3, z6, z20 =>
    getF l1 z6 fun x21 => ds_t56 x21 fun s22 z23 z24 l25 => lenF l25 fun z26 => (if z20 < z26 then getF l1 z6 fun x27 => ds_t56 x27 fun s28 z29 z30 l31 => getF l31 z20 fun x32 => ds_t48 x32 fun z33 z34 z35 z36 l37 l38 z39 s40 l41 => bO1 (F32 n z33 z34 z35 z36 l37 l38 z39 s40 l41) fun b42 => (if b42 = true then some true else letF (IntKind.wrap .i64 (z20 + 1)) fun z43 => L31_2 n l1 l3 z6 z43) else letF (IntKind.wrap .i64 (z6 + 1)) fun z44 => L31_1 n l1 l3 z44)
end
def F31 (n : Nat) (l1 : List D) (z2 : Int) (l3 : List D) : Option (Bool) :=
  lenF l1 fun z4 => (if (30 : Int) < z4 then some true else lenF l3 fun z5 => (if (40 : Int) < z5 then some true else L31_1 n l1 l3 (0 : Int)))
set_option maxRecDepth 100000 in
set_option maxHeartbeats 40000000 in
theorem T31 (n : Nat) : ∀ ⦃l1 : List D⦄ ⦃z2 : Int⦄ ⦃l3 : List D⦄ ⦃r1 : Bool⦄, F31 n l1 z2 l3 = some r1 →
    Trip Tryd.prog inv 31 [.d (.agg [.list true 4 l1, .int .i64 z2, .list true 16 l3])] [] (.v (.d (.bool r1))) [] [] := by
  intro l1 z2 l3 r1 h
  unfold F31 at h
  refine Trip.of tab_ok tab_one fol Tryd.func31 rfl (by kernel_rfl) rfl rfl rfl (fun M hM hI => ?_)
  try cbv
  replace h := lenF_inv M h
  obtain ⟨z4, hz, h⟩ := h
  refine ⟨z4, hz, ?_⟩
  clear hz
  try cbv
  refine splitL (fun e => ?_) (fun e => ?_)
  · replace h := ite_t e h
    clear e
    try cbv
    obtain rfl := Option.some.inj h
    refine fin_go ?_
    try cbv
    exact ⟨[], rfl, rfl, trivial, trivial, trivial⟩
  · replace h := ite_f (Int.not_lt.2 e) h
    clear e
    try cbv
    replace h := lenF_inv M h
    obtain ⟨z5, hz, h⟩ := h
    refine ⟨z5, hz, ?_⟩
    clear hz
    try cbv
    refine splitL (fun e => ?_) (fun e => ?_)
    · replace h := ite_t e h
      clear e
      try cbv
      obtain rfl := Option.some.inj h
      refine fin_go ?_
      try cbv
      exact ⟨[], rfl, rfl, trivial, trivial, trivial⟩
    · replace h := ite_f (Int.not_lt.2 e) h
      clear e
      try cbv
      refine loop_inv (T := Nat × Int) [1, 2, 3] [.loc 0] 416 (fun t => ⟨[(1, .v (.c (.ptr (.loc 0) 0))), (2, .v (.d (.bool false))), (3, .v (.d (.int .i64 t.2)))], [(.loc 0, .cells [.d (.list true 4 l1), .d (.int .i64 z2), .d (.list true 16 l3)])], 416⟩)
        (fun t => t.1 ≤ n ∧ L31_1 t.1 l1 l3 t.2 = some r1) (fun t => t.1) (n, (0 : Int)) ⟨Nat.le_refl _, h⟩ (by cbv) ?_
      clear h
      rintro ⟨m1, z6⟩ ⟨hm1, h⟩
      replace hm1 : m1 ≤ n := hm1
      cases m1 with
      | zero => cases (show (none : Option _) = some _ from h)
      | succ m1 =>
        replace h : L31_1 (m1 + 1) l1 l3 z6 = some r1 := h
        rw [L31_1] at h
        try cbv
        replace h := lenF_inv M h
        obtain ⟨z7, hz, h⟩ := h
        refine ⟨z7, hz, ?_⟩
        clear hz
        try cbv
        refine splitL (fun e => ?_) (fun e => ?_)
        · replace h := ite_t e h
          clear e
          try cbv
          replace h := getF_inv h
          obtain ⟨x8, ⟨hx0, hx⟩, h⟩ := h
          refine ⟨x8, hx0, hx, ?_⟩
          clear hx0 hx
          replace h := ds_t56_inv h
          obtain ⟨s9, z10, z11, l12, rfl, h⟩ := h
          try cbv
          replace h := lenF_inv M h
          obtain ⟨z13, hz, h⟩ := h
          refine ⟨z13, hz, ?_⟩
          clear hz
          try cbv
          refine splitL (fun e => ?_) (fun e => ?_)
          · replace h := ite_t e h
            clear e
            try cbv
            obtain rfl := Option.some.inj h
            refine fin_go ?_
            try cbv
            exact ⟨[], rfl, rfl, trivial, trivial, trivial⟩
          · replace h := ite_f (Int.not_lt.2 e) h
            clear e
            try cbv
            replace h := getF_inv h
            obtain ⟨x14, ⟨hx0, hx⟩, h⟩ := h
            refine ⟨x14, hx0, hx, ?_⟩
            clear hx0 hx
            replace h := ds_t56_inv h
            obtain ⟨s15, z16, z17, l18, rfl, h⟩ := h
            try cbv
            replace h := szF_inv M h
            obtain ⟨z19, hz, h⟩ := h
            refine ⟨z19, hz, ?_⟩
            clear hz
            try cbv
            refine splitL (fun e => ?_) (fun e => ?_)
            · replace h := ite_t e h
              clear e
              try cbv
              obtain rfl := Option.some.inj h
              refine fin_go ?_
              try cbv
              exact ⟨[], rfl, rfl, trivial, trivial, trivial⟩
            · replace h := ite_f (Int.not_lt.2 e) h
              clear e
              try cbv
              refine loop_inv (T := Nat × Int) [1, 2, 3, 4] [.loc 0] 1184 (fun t => ⟨[(1, .v (.c (.ptr (.loc 0) 0))), (2, .v (.d (.bool false))), (3, .v (.d (.int .i64 z6))), (4, .v (.d (.int .i64 t.2)))], [(.loc 0, .cells [.d (.list true 4 l1), .d (.int .i64 z2), .d (.list true 16 l3)])], 1184⟩)
                (fun t => t.1 ≤ m1 ∧ L31_2 t.1 l1 l3 z6 t.2 = some r1) (fun t => t.1) (m1, (0 : Int)) ⟨Nat.le_refl _, h⟩ (by cbv) ?_
              clear h
              rintro ⟨m2, z20⟩ ⟨hm2, h⟩
              replace hm2 : m2 ≤ m1 := hm2
              cases m2 with
              | zero => cases (show (none : Option _) = some _ from h)
              | succ m2 =>
                replace h : L31_2 (m2 + 1) l1 l3 z6 z20 = some r1 := h
                rw [L31_2] at h
                try cbv
                replace h := getF_inv h
                obtain ⟨x21, ⟨hx0, hx⟩, h⟩ := h
                refine ⟨x21, hx0, hx, ?_⟩
                clear hx0 hx
                replace h := ds_t56_inv h
                obtain ⟨s22, z23, z24, l25, rfl, h⟩ := h
                try cbv
                replace h := lenF_inv M h
                obtain ⟨z26, hz, h⟩ := h
                refine ⟨z26, hz, ?_⟩
                clear hz
                try cbv
                refine splitL (fun e => ?_) (fun e => ?_)
                · replace h := ite_t e h
                  clear e
                  try cbv
                  replace h := getF_inv h
                  obtain ⟨x27, ⟨hx0, hx⟩, h⟩ := h
                  refine ⟨x27, hx0, hx, ?_⟩
                  clear hx0 hx
                  replace h := ds_t56_inv h
                  obtain ⟨s28, z29, z30, l31, rfl, h⟩ := h
                  try cbv
                  replace h := getF_inv h
                  obtain ⟨x32, ⟨hx0, hx⟩, h⟩ := h
                  refine ⟨x32, hx0, hx, ?_⟩
                  clear hx0 hx
                  replace h := ds_t48_inv h
                  obtain ⟨z33, z34, z35, z36, l37, l38, z39, s40, l41, rfl, h⟩ := h
                  try cbv
                  replace h := bO1_inv h
                  obtain ⟨b42, hr, h⟩ := h
                  refine call_go rfl rfl ?_
                  try cbv
                  refine call_pure hM hI (T32 _ hr) rfl ?_
                  clear hr
                  try cbv
                  cases b42
                  · replace h := ite_f Bool.false_ne_true h
                    try cbv
                    replace h := letF_inv h
                    obtain ⟨z43, hz, h⟩ := h
                    refine ⟨z43, hz, ?_⟩
                    clear hz
                    try cbv
                    exact loop_next (m2, z43) [1, 2, 3, 4] [.loc 0] 1184 ⟨by omega, h⟩ (Nat.lt_succ_of_le (by omega)) (by cbv)
                  · replace h := ite_t rfl h
                    try cbv
                    obtain rfl := Option.some.inj h
                    refine fin_go ?_
                    try cbv
                    exact ⟨[], rfl, rfl, trivial, trivial, trivial⟩
                · replace h := ite_f (Int.not_lt.2 e) h
                  clear e
                  try cbv
                  replace h := letF_inv h
                  obtain ⟨z44, hz, h⟩ := h
                  refine ⟨z44, hz, ?_⟩
                  clear hz
                  try cbv
                  exact loop_next (m2, z44) [1, 2, 3] [.loc 0] 416 ⟨by omega, h⟩ (Nat.lt_succ_of_le (by omega)) (by cbv)
        · replace h := ite_f (Int.not_lt.2 e) h
          clear e
          try cbv
          refine loop_inv (T := Nat × Int) [1, 2, 3, 5] [.loc 0] 608 (fun t => ⟨[(1, .v (.c (.ptr (.loc 0) 0))), (2, .v (.d (.bool false))), (3, .v (.d (.int .i64 z6))), (5, .v (.d (.int .i64 t.2)))], [(.loc 0, .cells [.d (.list true 4 l1), .d (.int .i64 z2), .d (.list true 16 l3)])], 608⟩)
            (fun t => t.1 ≤ m1 ∧ L31_3 t.1 l3 t.2 = some r1) (fun t => t.1) (m1, (0 : Int)) ⟨Nat.le_refl _, h⟩ (by cbv) ?_
          clear h
          rintro ⟨m3, z45⟩ ⟨hm3, h⟩
          replace hm3 : m3 ≤ m1 := hm3
          cases m3 with
          | zero => cases (show (none : Option _) = some _ from h)
          | succ m3 =>
            replace h : L31_3 (m3 + 1) l3 z45 = some r1 := h
            rw [L31_3] at h
            try cbv
            replace h := lenF_inv M h
            obtain ⟨z46, hz, h⟩ := h
            refine ⟨z46, hz, ?_⟩
            clear hz
            try cbv
            refine splitL (fun e => ?_) (fun e => ?_)
            · replace h := ite_t e h
              clear e
              try cbv
              replace h := getF_inv h
              obtain ⟨x47, ⟨hx0, hx⟩, h⟩ := h
              refine ⟨x47, hx0, hx, ?_⟩
              clear hx0 hx
              replace h := ds_t82_inv h
              obtain ⟨z48, s49, l50, z51, s52, l53, l54, z55, z56, s57, s58, s59, l60, l61, z62, z63, rfl, h⟩ := h
              try cbv
              replace h := lenF_inv M h
              obtain ⟨z64, hz, h⟩ := h
              refine ⟨z64, hz, ?_⟩
              clear hz
              try cbv
              refine splitL (fun e => ?_) (fun e => ?_)
              · replace h := ite_t e h
                clear e
                try cbv
                obtain rfl := Option.some.inj h
                refine fin_go ?_
                try cbv
                exact ⟨[], rfl, rfl, trivial, trivial, trivial⟩
              · replace h := ite_f (Int.not_lt.2 e) h
                clear e
                try cbv
                replace h := getF_inv h
                obtain ⟨x65, ⟨hx0, hx⟩, h⟩ := h
                refine ⟨x65, hx0, hx, ?_⟩
                clear hx0 hx
                replace h := ds_t82_inv h
                obtain ⟨z66, s67, l68, z69, s70, l71, l72, z73, z74, s75, s76, s77, l78, l79, z80, z81, rfl, h⟩ := h
                try cbv
                replace h := szF_inv M h
                obtain ⟨z82, hz, h⟩ := h
                refine ⟨z82, hz, ?_⟩
                clear hz
                try cbv
                refine splitL (fun e => ?_) (fun e => ?_)
                · replace h := ite_t e h
                  clear e
                  try cbv
                  obtain rfl := Option.some.inj h
                  refine fin_go ?_
                  try cbv
                  exact ⟨[], rfl, rfl, trivial, trivial, trivial⟩
                · replace h := ite_f (Int.not_lt.2 e) h
                  clear e
                  try cbv
                  replace h := letF_inv h
                  obtain ⟨z83, hz, h⟩ := h
                  refine ⟨z83, hz, ?_⟩
                  clear hz
                  try cbv
                  exact loop_next (m3, z83) [1, 2, 3, 5] [.loc 0] 608 ⟨by omega, h⟩ (Nat.lt_succ_of_le (by omega)) (by cbv)
            · replace h := ite_f (Int.not_lt.2 e) h
              clear e
              try cbv
              obtain rfl := Option.some.inj h
              refine fin_go ?_
              try cbv
              exact ⟨[], rfl, rfl, trivial, trivial, trivial⟩
end Go.Proofs.YtjobleemmjjocaaDoor
end

/- Printed by lift.py: functional texts of functions, and their contracts. No condition. -/
set_option linter.unusedVariables false
noncomputable section
namespace Go.Proofs.YtjobleemmjjocaaDoor
open Go Go.AM
def F10 (n : Nat) (l1 : List D) (z2 : Int) (l3 : List D) (z4 : Int) (z5 : Int) (z6 : Int) (z7 : Int) (z8 : Int) (l9 : List D) (l10 : List D) (z11 : Int) (s12 : ByteArray) (l13 : List D) : Option (Bool) :=
  bO1 (F31 n l1 z2 l3) fun b14 => (if b14 = true then some true else bO1 (F32 n z5 z6 z7 z8 l9 l10 z11 s12 l13) fun b15 => (if b15 = true then some true else bO1 (F33 n l1 z2 l3 z4 z5 z6 z7 z8 l9 l10 z11 s12 l13) fun z16 => bO1 (F34 n l1 z2 l3 z4 z5 z6 z7 z8 l9 l10 z11 s12 l13) fun z17 => (if z16 = z17 then bO1 (F35 n) fun b18 => some b18 else some false)))
set_option maxRecDepth 100000 in
set_option maxHeartbeats 40000000 in
theorem T10 (n : Nat) : ∀ ⦃l1 : List D⦄ ⦃z2 : Int⦄ ⦃l3 : List D⦄ ⦃z4 : Int⦄ ⦃z5 : Int⦄ ⦃z6 : Int⦄ ⦃z7 : Int⦄ ⦃z8 : Int⦄ ⦃l9 : List D⦄ ⦃l10 : List D⦄ ⦃z11 : Int⦄ ⦃s12 : ByteArray⦄ ⦃l13 : List D⦄ ⦃r1 : Bool⦄, F10 n l1 z2 l3 z4 z5 z6 z7 z8 l9 l10 z11 s12 l13 = some r1 →
    Trip Tryd.prog inv 10 [.d (.agg [.list true 4 l1, .int .i64 z2, .list true 16 l3]), .d (.int .i64 z4), .d (.agg [.int .u8 z5, .int .i64 z6, .int .i64 z7, .int .i64 z8, .list false 1 l9, .list false 1 l10, .int .i64 z11, .str s12, .list false 1 l13])] [] (.v (.d (.bool r1))) [] [] := by
  intro l1 z2 l3 z4 z5 z6 z7 z8 l9 l10 z11 s12 l13 r1 h
  unfold F10 at h
  refine Trip.of tab_ok tab_one fol Tryd.func10 rfl (by kernel_rfl) rfl rfl rfl (fun M hM hI => ?_)
  try cbv
  replace h := bO1_inv h
  obtain ⟨b14, hr, h⟩ := h
  refine call_go rfl rfl ?_
  try cbv
  refine call_pure hM hI (T31 _ hr) rfl ?_
  clear hr
  try cbv
  cases b14
  · replace h := ite_f Bool.false_ne_true h
    try cbv
    replace h := bO1_inv h
    obtain ⟨b15, hr, h⟩ := h
    refine call_go rfl rfl ?_
    try cbv
    refine call_pure hM hI (T32 _ hr) rfl ?_
    clear hr
    try cbv
    cases b15
    · replace h := ite_f Bool.false_ne_true h
      try cbv
      replace h := bO1_inv h
      obtain ⟨z16, hr, h⟩ := h
      refine ⟨[], ?_⟩
      try cbv
      refine call_pure hM hI (T33 _ hr) rfl ?_
      clear hr
      try cbv
      replace h := bO1_inv h
      obtain ⟨z17, hr, h⟩ := h
      refine ⟨[], ?_⟩
      try cbv
      refine call_pure hM hI (T34 _ hr) rfl ?_
      clear hr
      try cbv
      refine splitI (fun e => ?_) (fun e => ?_)
      · replace h := ite_t e h
        clear e
        try cbv
        replace h := bO1_inv h
        obtain ⟨b18, hr, h⟩ := h
        refine ⟨[], ?_⟩
        try cbv
        refine call_pure hM hI (T35 _ hr) rfl ?_
        clear hr
        try cbv
        refine drawn ?_ ?_
        · show _ = true
          kernel_rfl
        try cbv
        obtain rfl := Option.some.inj h
        refine fin_go ?_
        try cbv
        exact ⟨[], rfl, rfl, trivial, trivial, trivial⟩
      · replace h := ite_f e h
        clear e
        try cbv
        refine drawn ?_ ?_
        · show _ = true
          kernel_rfl
        try cbv
        obtain rfl := Option.some.inj h
        refine fin_go ?_
        try cbv
        exact ⟨[], rfl, rfl, trivial, trivial, trivial⟩
    · replace h := ite_t rfl h
      try cbv
      obtain rfl := Option.some.inj h
      refine fin_go ?_
      try cbv
      exact ⟨[], rfl, rfl, trivial, trivial, trivial⟩
  · replace h := ite_t rfl h
    try cbv
    obtain rfl := Option.some.inj h
    refine fin_go ?_
    try cbv
    exact ⟨[], rfl, rfl, trivial, trivial, trivial⟩
end Go.Proofs.YtjobleemmjjocaaDoor
end

/- Chapter 17, the plain law, part F: both answers at any instruction are one row; what is large comes to an end; CodeInstr. Printed in part by cdf.py. No condition. -/
set_option linter.unusedVariables false
noncomputable section
namespace Go.Proofs.YtjobleemmjjocaaDoor
open Go Go.AM

theorem row3 {z : Int} (h : (Lit.int .i64 z).wf = true) : RowS tab 3 (.int .i64 z) :=
  ⟨.int (x := tyD tab 3) z (by kernel_rfl) rfl h, fun y hy => by
    have : tab 3 = some (tyD tab 3) := by kernel_rfl
    rw [this] at hy; cases hy; rfl⟩
theorem list3 : ∀ (l : List Int), l.length ≤ maxLen → (∀ z ∈ l, (Lit.int .i64 z).wf = true) → ListS tab 3 (l.map (D.int .i64)) := fun l h0 h => ⟨by simpa using h0, fun x hx => by
  obtain ⟨z, hz, rfl⟩ := List.mem_map.1 hx
  exact row3 (h z hz)⟩
theorem list3_nil : ListS tab 3 [] := list3 [] (Nat.zero_le _) (by simp)
/-- An op's row. -/
def shp (op : Int) : ByteArray × Int × Int × Bool × Bool × Bool × Bool × List D × Bool := (F51 0 op).getD (ByteArray.empty, 0, 0, false, false, false, false, [], false)
theorem shp_ok {op : Int} (h0 : 0 ≤ op) (h1 : op < 256) : (∀ n, F51 n op = some (shp op)) ∧ ListS tab 3 (shp op).2.2.2.2.2.2.2.1 := by
  by_cases hb : 35 ≤ op
  · unfold shp
    rw [shB 0 hb h1]
    exact ⟨fun n => shB n hb h1, list3_nil⟩
  · obtain ⟨k, rfl⟩ : ∃ k : Nat, op = k := ⟨op.toNat, by omega⟩
    have hk : k < 35 := by omega
    clear h0 h1 hb
    revert k

    intro k hk
    match k, hk with
    | 0, _ => exact ⟨sh0, list3_nil⟩
    | 1, _ => exact ⟨sh1, list3_nil⟩
    | 2, _ => exact ⟨sh2, list3_nil⟩
    | 3, _ => exact ⟨sh3, list3 [1, 2, 3] (by decide) (by decide)⟩
    | 4, _ => exact ⟨sh4, list3_nil⟩
    | 5, _ => exact ⟨sh5, list3_nil⟩
    | 6, _ => exact ⟨sh6, list3_nil⟩
    | 7, _ => exact ⟨sh7, list3_nil⟩
    | 8, _ => exact ⟨sh8, list3_nil⟩
    | 9, _ => exact ⟨sh9, list3 [7, 8] (by decide) (by decide)⟩
    | 10, _ => exact ⟨sh10, list3 [9, 10, 11, 12, 13, 14, 15, 16, 17] (by decide) (by decide)⟩
    | 11, _ => exact ⟨sh11, list3_nil⟩
    | 12, _ => exact ⟨sh12, list3_nil⟩
    | 13, _ => exact ⟨sh13, list3_nil⟩
    | 14, _ => exact ⟨sh14, list3_nil⟩
    | 15, _ => exact ⟨sh15, list3_nil⟩
    | 16, _ => exact ⟨sh16, list3_nil⟩
    | 17, _ => exact ⟨sh17, list3_nil⟩
    | 18, _ => exact ⟨sh18, list3_nil⟩
    | 19, _ => exact ⟨sh19, list3 [6, 7, 8, 9, 10, 11] (by decide) (by decide)⟩
    | 20, _ => exact ⟨sh20, list3 [6, 10] (by decide) (by decide)⟩
    | 21, _ => exact ⟨sh21, list3_nil⟩
    | 22, _ => exact ⟨sh22, list3_nil⟩
    | 23, _ => exact ⟨sh23, list3_nil⟩
    | 24, _ => exact ⟨sh24, list3_nil⟩
    | 25, _ => exact ⟨sh25, list3_nil⟩
    | 26, _ => exact ⟨sh26, list3_nil⟩
    | 27, _ => exact ⟨sh27, list3_nil⟩
    | 28, _ => exact ⟨sh28, list3_nil⟩
    | 29, _ => exact ⟨sh29, list3_nil⟩
    | 30, _ => exact ⟨sh30, list3_nil⟩
    | 31, _ => exact ⟨sh31, list3_nil⟩
    | 32, _ => exact ⟨sh32, list3_nil⟩
    | 33, _ => exact ⟨sh33, list3_nil⟩
    | 34, _ => exact ⟨sh34, list3_nil⟩
    | n + 35, h => exact absurd h (by omega)

def okIns (l1 : List D) (z4 op a b c : Int) (l9 l10 : List D) (i : Int) (s12 : ByteArray) (l13 : List D) : Bool :=
  decide (0 ≤ z4) && match l1[z4.toNat]? with
    | some (.agg [_, _, .int _ sl, .list _ _ cd]) => insB l1 sl cd.length (shp op) op a b c l9 l10 i s12 l13
    | _ => false

section
variable {l1 : List D} (hF : ListS tab 56 l1) {op a b c i : Int} (h0 : 0 ≤ op) (h1 : op < 256) {l9 l10 l13 : List D} {s12 : ByteArray} (h9 : ListS tab 3 l9) (h10 : ListS tab 9 l10) (z2 : Int) (l3 : List D) (z4 : Int)
include hF h0 h1 h9 h10
theorem ev33a : Ev (fun n => F33 n l1 z2 l3 z4 op a b c l9 l10 i s12 l13) (rc (okIns l1 z4 op a b c l9 l10 i s12 l13)) := by
  obtain ⟨hs, hk⟩ := shp_ok h0 h1
  by_cases g0 : 0 ≤ z4
  · by_cases g1 : z4 < l1.length
    · obtain ⟨x, rfl⟩ : ∃ x : Nat, z4 = x := ⟨z4.toNat, by omega⟩
      obtain ⟨v, hx, _, hr⟩ := hF.get (i := x) (by omega)
      obtain ⟨nm, pa, sl, cd, rfl, _⟩ := rs56 hr
      simp only [okIns, Int.toNat_natCast, hx, g0, decide_true, Bool.true_and]
      exact ev33 hF rfl hx h9 h10 z2 l3 hk (fun n => hs n)
    · have e : l1[z4.toNat]? = none := List.getElem?_eq_none (by omega)
      refine ⟨0, fun n _ => ?_⟩
      show F33 n _ _ _ _ _ _ _ _ _ _ _ _ _ = _
      simp only [F33, okIns, e, Bool.and_false, hs n, bO9, lenF, if_neg (by omega : ¬ z4 < 0), if_pos (by omega : (l1.length : Int) ≤ z4)]
      cases (shp op).2.2.2.2.2.2.2.2 <;> rfl
  · refine ⟨0, fun n _ => ?_⟩
    show F33 n _ _ _ _ _ _ _ _ _ _ _ _ _ = _
    simp only [F33, okIns, g0, decide_false, Bool.false_and, hs n, bO9, if_pos (by omega : z4 < 0)]
    cases (shp op).2.2.2.2.2.2.2.2 <;> rfl
theorem ev34a : Ev (fun n => F34 n l1 z2 l3 z4 op a b c l9 l10 i s12 l13) (rc (okIns l1 z4 op a b c l9 l10 i s12 l13)) := by
  by_cases g0 : 0 ≤ z4
  · by_cases g1 : z4 < l1.length
    · obtain ⟨x, rfl⟩ : ∃ x : Nat, z4 = x := ⟨z4.toNat, by omega⟩
      obtain ⟨v, hx, _, hr⟩ := hF.get (i := x) (by omega)
      obtain ⟨nm, pa, sl, cd, rfl, _⟩ := rs56 hr
      simp only [okIns, Int.toNat_natCast, hx, g0, decide_true, Bool.true_and]
      by_cases hb : 35 ≤ op
      · have e : shp op = _ := Option.some.inj (((shp_ok h0 h1).1 0).symm.trans (shB 0 hb h1))
        have e2 : insB l1 sl cd.length (shp op) op a b c l9 l10 i s12 l13 = false := by rw [e]; simp [insB]
        rw [e2]
        exact rfB hF hx h9 h10 z2 l3 hb
      · obtain ⟨k, rfl⟩ : ∃ k : Nat, op = k := ⟨op.toNat, by omega⟩
        have hk : k < 35 := by omega
        clear h0 h1 hb g0 g1
        revert hk
        match k with
        | 0 => intro _; exact rf0 hF hx h9 h10 z2 l3
        | 1 => intro _; exact rf1 hF hx h9 h10 z2 l3
        | 2 => intro _; exact rf2 hF hx h9 h10 z2 l3
        | 3 => intro _; exact rf3 hF hx h9 h10 z2 l3
        | 4 => intro _; exact rf4 hF hx h9 h10 z2 l3
        | 5 => intro _; exact rf5 hF hx h9 h10 z2 l3
        | 6 => intro _; exact rf6 hF hx h9 h10 z2 l3
        | 7 => intro _; exact rf7 hF hx h9 h10 z2 l3
        | 8 => intro _; exact rf8 hF hx h9 h10 z2 l3
        | 9 => intro _; exact rf9 hF hx h9 h10 z2 l3
        | 10 => intro _; exact rf10 hF hx h9 h10 z2 l3
        | 11 => intro _; exact rf11 hF hx h9 h10 z2 l3
        | 12 => intro _; exact rf12 hF hx h9 h10 z2 l3
        | 13 => intro _; exact rf13 hF hx h9 h10 z2 l3
        | 14 => intro _; exact rf14 hF hx h9 h10 z2 l3
        | 15 => intro _; exact rf15 hF hx h9 h10 z2 l3
        | 16 => intro _; exact rf16 hF hx h9 h10 z2 l3
        | 17 => intro _; exact rf17 hF hx h9 h10 z2 l3
        | 18 => intro _; exact rf18 hF hx h9 h10 z2 l3
        | 19 => intro _; exact rf19 hF hx h9 h10 z2 l3
        | 20 => intro _; exact rf20 hF hx h9 h10 z2 l3
        | 21 => intro _; exact rf21 hF hx h9 h10 z2 l3
        | 22 => intro _; exact rf22 hF hx h9 h10 z2 l3
        | 23 => intro _; exact rf23 hF hx h9 h10 z2 l3
        | 24 => intro _; exact rf24 hF hx h9 h10 z2 l3
        | 25 => intro _; exact rf25 hF hx h9 h10 z2 l3
        | 26 => intro _; exact rf26 hF hx h9 h10 z2 l3
        | 27 => intro _; exact rf27 hF hx h9 h10 z2 l3
        | 28 => intro _; exact rf28 hF hx h9 h10 z2 l3
        | 29 => intro _; exact rf29 hF hx h9 h10 z2 l3
        | 30 => intro _; exact rf30 hF hx h9 h10 z2 l3
        | 31 => intro _; exact rf31 hF hx h9 h10 z2 l3
        | 32 => intro _; exact rf32 hF hx h9 h10 z2 l3
        | 33 => intro _; exact rf33 hF hx h9 h10 z2 l3
        | 34 => intro _; exact rf34 hF hx h9 h10 z2 l3
        | n + 35 => intro h; exact absurd h (by omega)
    · have e : l1[z4.toNat]? = none := List.getElem?_eq_none (by omega)
      refine ⟨0, fun n _ => ?_⟩
      show F34 n _ _ _ _ _ _ _ _ _ _ _ _ _ = _
      unfold F34
      rw [if_neg (by omega : ¬ z4 < 0), lenF_eq, if_pos (by omega : (l1.length : Int) ≤ z4)]
      simp only [okIns, e, Bool.and_false]; rfl
  · refine ⟨0, fun n _ => ?_⟩
    show F34 n _ _ _ _ _ _ _ _ _ _ _ _ _ = _
    unfold F34
    rw [if_pos (by omega : z4 < 0)]
    simp only [okIns, g0, decide_false, Bool.false_and]; rfl
end

theorem tot32 (z1 z2 z3 z4 : Int) (l5 : List D) {l6 : List D} (h6 : ListS tab 9 l6) (z7 : Int) (s8 : ByteArray) (l9 : List D) : ∃ r, Ev (fun n => F32 n z1 z2 z3 z4 l5 l6 z7 s8 l9) r := by
  have loop : ∀ i, i ≤ l6.length → ∃ r, Ev (fun n => L32_1 n l6 (i : Int)) r := by
    refine down l6.length ⟨false, Ev.succ (by simp [L32_1, lenF, Ev.ret])⟩ (fun i hi ih => ?_)
    obtain ⟨x, hx, hm, hr⟩ := h6.get hi
    obtain ⟨s, rfl, _⟩ := rs9 hr
    obtain ⟨r, h⟩ := ih
    by_cases g : 1000 < (s.size : Int)
    · refine ⟨true, Ev.succ ?_⟩
      simp only [L32_1, lenF, szF, if_pos (ilt hi), getF_nat hx, ds_str, if_pos g]; exact Ev.ret
    · refine ⟨r, Ev.succ ?_⟩
      simpa only [L32_1, lenF, szF, letF, if_pos (ilt hi), getF_nat hx, ds_str, if_neg g, wrap_succ hi h6.1] using h
  obtain ⟨r, h⟩ := loop 0 (Nat.zero_le _)
  simp only [F32, lenF, szF]
  by_cases g1 : 60 < (l6.length : Int)
  · exact ⟨true, by simp only [if_pos g1]; exact Ev.ret⟩
  by_cases g2 : 60 < (l5.length : Int)
  · exact ⟨true, by simp only [if_neg g1, if_pos g2]; exact Ev.ret⟩
  by_cases g3 : 60 < (l9.length : Int)
  · exact ⟨true, by simp only [if_neg g1, if_neg g2, if_pos g3]; exact Ev.ret⟩
  by_cases g4 : 1000 < (s8.size : Int)
  · exact ⟨true, by simp only [if_neg g1, if_neg g2, if_neg g3, if_pos g4]; exact Ev.ret⟩
  exact ⟨r, by simp only [if_neg g1, if_neg g2, if_neg g3, if_neg g4]; exact h⟩

theorem tot31 {l1 : List D} (hF : ListS tab 56 l1) (z2 : Int) {l3 : List D} (hT : ListS tab 82 l3) : ∃ r, Ev (fun n => F31 n l1 z2 l3) r := by
  have loop3 : ∀ i, i ≤ l3.length → ∃ r, Ev (fun n => L31_3 n l3 (i : Int)) r := by
    refine down l3.length ⟨false, Ev.succ (by simp [L31_3, lenF, Ev.ret])⟩ (fun i hi ih => ?_)
    obtain ⟨x, hx, hm, hr⟩ := hT.get hi
    obtain ⟨a0, a1, a2, a3, a4, a5, a6, a7, a8, a9, a10, a11, a12, a13, a14, a15, rfl, _⟩ := rs82 hr
    obtain ⟨r, h⟩ := ih
    by_cases g1 : 20 < (a2.length : Int)
    · refine ⟨true, Ev.succ ?_⟩
      simp only [L31_3, lenF, if_pos (ilt hi), getF_nat hx, ds_t82, if_pos g1]; exact Ev.ret
    by_cases g2 : 1000 < (a1.size : Int)
    · refine ⟨true, Ev.succ ?_⟩
      simp only [L31_3, lenF, szF, if_pos (ilt hi), getF_nat hx, ds_t82, if_neg g1, if_pos g2]; exact Ev.ret
    · refine ⟨r, Ev.succ ?_⟩
      simpa only [L31_3, lenF, szF, letF, if_pos (ilt hi), getF_nat hx, ds_t82, if_neg g1, if_neg g2, wrap_succ hi hT.1] using h
  have loop1 : ∀ i, i ≤ l1.length → ∃ r, Ev (fun n => L31_1 n l1 l3 (i : Int)) r := by
    obtain ⟨r3, h3⟩ := loop3 0 (Nat.zero_le _)
    refine down l1.length ⟨r3, Ev.succ (by simp only [L31_1, lenF, Int.lt_irrefl, if_false]; exact h3)⟩ (fun i hi ih => ?_)
    obtain ⟨x, hx, hm, hr⟩ := hF.get hi
    obtain ⟨s, p, q, cd, rfl, _, _, _, hc⟩ := rs56 hr
    by_cases g1 : 300 < (cd.length : Int)
    · refine ⟨true, Ev.succ ?_⟩
      simp only [L31_1, lenF, if_pos (ilt hi), getF_nat hx, ds_t56, if_pos g1]; exact Ev.ret
    by_cases g2 : 1000 < (s.size : Int)
    · refine ⟨true, Ev.succ ?_⟩
      simp only [L31_1, lenF, szF, if_pos (ilt hi), getF_nat hx, ds_t56, if_neg g1, if_pos g2]; exact Ev.ret
    have loop2 : ∀ j, j ≤ cd.length → ∃ r, Ev (fun n => L31_2 n l1 l3 (i : Int) (j : Int)) r := by
      obtain ⟨r1, h1⟩ := ih
      refine down cd.length ⟨r1, Ev.succ (by simpa only [L31_2, lenF, letF, getF_nat hx, ds_t56, Int.lt_irrefl, if_false, wrap_succ hi hF.1] using h1)⟩ (fun j hj ihj => ?_)
      obtain ⟨y, hy, _, hry⟩ := hc.get hj
      obtain ⟨b0, b1, b2, b3, b4, b5, b6, b7, b8, rfl, _, _, _, _, _, w5, _⟩ := rs48 hry
      obtain ⟨rl, hl⟩ := tot32 b0 b1 b2 b3 b4 w5 b6 b7 b8
      obtain ⟨r, h⟩ := ihj
      cases rl
      · refine ⟨r, Ev.succ ?_⟩
        simp only [L31_2, lenF, letF, getF_nat hx, getF_nat hy, ds_t56, ds_t48, if_pos (ilt hj), wrap_succ hj hc.1]
        exact Ev.bO1 hl (by simpa only [if_neg Bool.false_ne_true] using h)
      · refine ⟨true, Ev.succ ?_⟩
        simp only [L31_2, lenF, letF, getF_nat hx, getF_nat hy, ds_t56, ds_t48, if_pos (ilt hj), wrap_succ hj hc.1]
        exact Ev.bO1 hl (by simp only [if_true]; exact Ev.ret)
    obtain ⟨r, h⟩ := loop2 0 (Nat.zero_le _)
    refine ⟨r, Ev.succ ?_⟩
    simp only [L31_1, lenF, szF, if_pos (ilt hi), getF_nat hx, ds_t56, if_neg g1, if_neg g2]; exact h
  obtain ⟨r, h⟩ := loop1 0 (Nat.zero_le _)
  simp only [F31, lenF]
  by_cases g1 : 30 < (l1.length : Int)
  · exact ⟨true, by simp only [if_pos g1]; exact Ev.ret⟩
  by_cases g2 : 40 < (l3.length : Int)
  · exact ⟨true, by simp only [if_neg g1, if_pos g2]; exact Ev.ret⟩
  exact ⟨r, by simp only [if_neg g1, if_neg g2]; exact h⟩

/-- CodeInstr. -/
theorem code_instr_law {l1 : List D} (hF : ListS tab 56 l1) (z2 : Int) {l3 : List D} (hT : ListS tab 82 l3) {op a b c i : Int} (h0 : 0 ≤ op) (h1 : op < 256) {l9 l10 l13 : List D} {s12 : ByteArray} (h9 : ListS tab 3 l9) (h10 : ListS tab 9 l10) (z4 : Int) :
    Ev (fun n => F10 n l1 z2 l3 z4 op a b c l9 l10 i s12 l13) true := by
  obtain ⟨r, hr⟩ := tot31 hF z2 hT
  obtain ⟨r', hr'⟩ := tot32 op a b c l9 h10 i s12 l13
  unfold F10
  refine Ev.bO1 hr ?_
  cases r
  rotate_left
  · simp only [if_true]; exact Ev.ret
  simp only [if_neg Bool.false_ne_true]
  refine Ev.bO1 hr' ?_
  cases r'
  rotate_left
  · simp only [if_true]; exact Ev.ret
  simp only [if_neg Bool.false_ne_true]
  refine Ev.bO1 (ev33a hF h0 h1 h9 h10 z2 l3 z4) (Ev.bO1 (ev34a hF h0 h1 h9 h10 z2 l3 z4) ?_)
  simp only [if_true]
  exact Ev.bO1 ev35 Ev.ret
end Go.Proofs.YtjobleemmjjocaaDoor
end

/- The abstract machine, part R: a law that returns true, out of its contract over typed data. No condition. -/
namespace Go.AM
open Go Go.RowKit Go.ChangeShapes Go.WideShapes

/-- Arguments of given types. -/
def Shapes (ti : Types) : List TypeId → List D → Prop
  | [], [] => True
  | t :: ts, x :: xs => Shape ti t x.cells ∧ (∀ y, ti t = some y → x.isAgg = rowD y.desc) ∧ Shapes ti ts xs
  | _, _ => False

theorem Shapes.length {ti : Types} : ∀ {ts : List TypeId} {xs : List D}, Shapes ti ts xs → xs.length = ts.length
  | [], [], _ => rfl
  | _ :: _, _ :: _, h => by simp [Shapes.length h.2.2]
  | [], _ :: _, h => h.elim
  | _ :: _, [], h => h.elim

theorem rowD_cases {d : TypeDesc} : (∃ fs, d = .struct fs) ∨ (∃ n e, d = .array n e) ∨ rowD d = false := by
  cases d <;> simp [rowD]

section
variable {H : Type} {enc : TypeId × Value → H} {P : Program} {ti : Types} {T : List TypeId} {w : World}

/-- One argument. -/
theorem conv_arg (hti : TIok P ti) (hT : plainB ti T = true) {Z : Zone} (hZ : ∀ b o, ¬ Z b o) {base base' : Nat} {spare : Nat → Bool} {held : Bool} {r : Reach} {t : TypeId} {v : Value} {d : DataW H} {ps : List MemPlace} (ht : t ∈ T)
    (hok : Value.okWide P w r base' t v) (h : DataW.Trod enc P w base spare held t v d ps) : ∃ x : D, Shape ti t x.cells ∧ (∀ y, ti t = some y → x.isAgg = rowD y.desc) ∧ RelD w Z x v := by
  obtain ⟨fuel, h⟩ := h
  obtain ⟨ds, hs, h1, h2, h3⟩ := conv hti hT (Z := Z) hZ fuel t _ _ _ ht h
  have hp := List.all_eq_true.1 hT t ht
  split at hp
  · rename_i y hy
    have hu := (hti t y hy).1
    have single : rowD y.desc = false → v.cells.toList = [v] → ∃ x : D, Shape ti t x.cells ∧ (∀ y, ti t = some y → x.isAgg = rowD y.desc) ∧ RelD w Z x v := by
      intro hr hv
      rw [hv] at h1 h3
      obtain ⟨c, rfl⟩ := List.length_eq_one_iff.1 h1
      have hc := h2 c (by simp)
      have e : c.cells = [c] := by cases c <;> first | rfl | simp [D.isAgg] at hc
      refine ⟨c, by rw [e]; exact hs, fun y' hy' => ?_, h3 0 c v rfl rfl⟩
      rw [hy] at hy'
      obtain rfl : y = y' := by simpa using hy'
      rw [hc, hr]
    split at hp
    · rename_i hd
      rw [hd] at hu
      obtain ⟨b, rfl⟩ := okWide_bool hu hok
      exact single (by rw [hd]; rfl) rfl
    · rename_i k hd
      rw [hd] at hu
      obtain ⟨b, rfl⟩ := okWide_int hu hok
      exact single (by rw [hd]; rfl) rfl
    · rename_i hd
      rw [hd] at hu
      obtain ⟨b, rfl⟩ := okWide_string hu hok
      exact single (by rw [hd]; rfl) rfl
    · rename_i e hd
      rw [hd] at hu
      obtain ⟨a, l, c, rfl⟩ := okWide_slice hu hok
      exact single (by rw [hd]; rfl) rfl
    · rename_i fs hd
      rw [hd] at hu
      obtain ⟨cs, rfl, _⟩ := okWide_struct hu hok
      refine ⟨.agg ds, hs, fun y' hy' => ?_, .agg ds cs (by simpa [Value.cells] using h1.symm) h2 (fun j c u hc hu' => h3 j c u hc (by simpa [Value.cells] using hu'))⟩
      rw [hy] at hy'
      obtain rfl : y = y' := by simpa using hy'
      rw [hd]; rfl
    · simp at hp
  · simp at hp

theorem conv_args (hti : TIok P ti) (hT : plainB ti T = true) {Z : Zone} (hZ : ∀ b o, ¬ Z b o) {base base' : Nat} {spare : Nat → Bool} {held : Bool} {r : Reach} :
    ∀ (ts : List TypeId) (vs : List Value) (ds : List (DataW H)) (ps : List MemPlace), (∀ t ∈ ts, t ∈ T) → DataW.TrodAll enc P w base spare held ts vs ds ps →
      (∀ (j : Nat) t v, ts[j]? = some t → vs[j]? = some v → Value.okWide P w r base' t v) →
      ∃ xs, Shapes ti ts xs ∧ ∀ (j : Nat) x v, xs[j]? = some x → vs[j]? = some v → RelD w Z x v
  | [], vs, ds, ps, _, h, _ => ⟨[], trivial, by simp⟩
  | t :: ts, vs, ds, ps, ht, h, hok => by
    obtain ⟨v, vs1, d, ds1, a, b, rfl, rfl, rfl, h1, h2⟩ := trodAll_cons h
    obtain ⟨x, k1, k2, k3⟩ := conv_arg hti hT hZ (ht t (by simp)) (hok 0 t v rfl rfl) h1
    obtain ⟨xs, k4, k5⟩ := conv_args hti hT hZ ts vs1 ds1 b (fun t ht' => ht t (by simp [ht'])) h2 (fun j t v h1 h2 => hok (j + 1) t v (by simpa using h1) (by simpa using h2))
    refine ⟨x :: xs, ⟨k1, k2, k4⟩, fun j x' v' hx hv => ?_⟩
    match j with
    | 0 => simp at hx hv; subst hx; subst hv; exact k3
    | j + 1 => simp at hx hv; exact k5 j x' v' hx hv

theorem again_all (hl : laidOutB P = true) {W W' : World} (hb : Below W.heap.size W W') : ∀ (ts : List TypeId) (vs : List Value) (ds : List (DataW H)) (ps : List MemPlace),
    (∀ t ∈ ts, P.readableRec t = true ∧ t < P.types.size) → DataW.TrodAll enc P W 0 (fun _ => true) true ts vs ds ps → (∀ x ∈ ps, x.block < W.heap.size) →
    DataW.TrodAll enc P W' 0 (fun b => decide (b < W.heap.size)) true ts vs ds ps
  | [], vs, ds, ps, _, h, _ => by
    obtain ⟨rfl, rfl, rfl⟩ := trodAll_nil h
    exact rfl
  | t :: ts, vs, ds, ps, ht, h, hlt => by
    obtain ⟨v, vs1, d, ds1, a, b, rfl, rfl, rfl, h1, h2⟩ := trodAll_cons h
    have ht1 := ht t (by simp)
    exact ⟨a, b, Below.trod hl ht1.1 ht1.2 h1 hb (fun x hx => hlt x (by simp [hx])), again_all hl hb ts vs1 ds1 b (fun t ht' => ht t (by simp [ht'])) h2 (fun x hx => hlt x (by simp [hx])), rfl⟩

/-- A law: its contract over every typed input makes its row. -/
theorem law_calls {I : Inv} (hti : TIok P ti) (hT : plainB ti T = true) {s : ChangeSpec} {fn : Func} {f : FuncId} {ts : List TypeId} {bt : TypeId}
    (hp : fn.params.toList = ts) (hv : s.vars = []) (hr : fn.resultTypes = #[bt]) (hb : P.underlying bt = some .bool) (htT : ∀ t ∈ ts, t ∈ T)
    (hs : ∀ ds : List (DataW H), ds.length = ts.length → (s.fn H ds).results = [.lit (.bool true)] ∧ (s.fn H ds).args = ds ∧ (s.fn H ds).vars = [])
    (hl : laidOutB P = true) (hrec : ∀ t ∈ ts, P.readableRec t = true ∧ t < P.types.size)
    (hc : ∀ xs : List D, Shapes ti ts xs → Trip P I f (xs.map V1.d) [] (.v (.d (.bool true))) [] [])
    {W : World} {base : Nat} {args : Array Value} {ds gs : List (DataW H)} {before : List MemPlace}
    (hI : I.at W fun _ _ => False) (hval : ∀ (j : Nat) t v, fn.params[j]? = some t → args[j]? = some v → Value.okWide P W .any base t v)
    (hW : DataW.Whole enc P fn.params.toList s.vars false W args.toList ds gs before) :
    Calls P f args W fun e W' => ∃ v, e = .returned v ∧ s.post enc P fn false true false false W args v W' := by
  have hW' := hW
  obtain ⟨p, q, hA, hV, rfl, _, _⟩ := hW
  rw [hv] at hV
  obtain ⟨rfl, rfl⟩ : gs = [] ∧ q = [] := by
    cases gs with
    | nil => exact ⟨rfl, hV⟩
    | cons _ _ => exact hV.elim
  rw [hp] at hA
  obtain ⟨hlen, hdl⟩ := trodAll_length hA
  obtain ⟨xs, hsh, hrel⟩ := conv_args hti hT (Z := fun _ _ => False) (fun _ _ h => h) (r := .any) (base' := base) ts args.toList ds p htT hA (fun j t v h1 h2 => hval j t v (by
    rw [← Array.getElem?_toList, hp]; exact h1) (by simpa using h2))
  have hxl := hsh.length
  have hcall := hc xs hsh
  have hheap : ∀ i o, heapOf [] i = some o → False := by
    intro i o h
    cases i <;> simp [heapOf] at h
  have hzone : ∀ (g : Ghost) b o, ¬ zone g (heapOf []) b o := by
    rintro g b o ⟨i, ob, h, _⟩
    exact hheap i ob h
  refine (hcall.calls (w := W) (X := fun _ _ => False) (g := fun _ => undef) (vals := args) (fun _ _ h => h.elim) (hI.mono fun b o hz => hz.elim (hzone _ b o) id) ⟨fun i o h => (hheap i o h).elim, fun i _ _ _ _ h => (hheap i _ h).elim, fun i _ _ _ h => (hheap i _ h).elim⟩ (fun _ => rfl)
    (by simp at hlen; simp; omega) (fun j x v hx hvv => ?_)).mono ?_
  · simp only [List.getElem?_map, Option.map_eq_some_iff] at hx
    obtain ⟨d, hd, rfl⟩ := hx
    exact (hrel j d v hd (by simpa using hvv)).mono (fun b o u hu _ => ⟨hu, fun hz => hz.elim (hzone _ b o) id⟩)
  · rintro e W' ⟨v, g', rfl, hpost⟩
    obtain rfl : v = .bool true := by cases (show RelD _ _ (.bool true) v from hpost.res); rfl
    have hbel : Below W.heap.size W W' := ⟨hpost.frame.os, hpost.frame.tape, hpost.frame.output, hpost.frame.size, fun k hk => hpost.frame.block k hk (fun o => hzone _ k o)⟩
    obtain ⟨s1, s2, s3⟩ := hs (ds ++ []) (by simp [hdl])
    refine ⟨_, rfl, ds, [], p ++ [], [], p, [], hW', ?_, ?_, ?_, hbel.frame _, fun h => by cases h⟩
    · rw [s1, hr]
      exact trodAll_mk1 (shut_bool hb true)
    · rw [s2, hp, List.append_nil]
      exact again_all hl hbel ts args.toList ds p hrec hA (fun x hx => hW'.lt x (by simp [hx]))
    · rw [s3, hv]; rfl
end
end Go.AM

/- Printed by lift.py: functional texts of functions, and their contracts. No condition. -/
set_option linter.unusedVariables false
noncomputable section
namespace Go.Proofs.YtjobleemmjjocaaDoor
open Go Go.AM
def F78 (n : Nat) (z1 : Int) (s2 : ByteArray) (l3 : List D) (z4 : Int) (s5 : ByteArray) (l6 : List D) (l7 : List D) (z8 : Int) (z9 : Int) (s10 : ByteArray) (s11 : ByteArray) (s12 : ByteArray) (l13 : List D) (l14 : List D) (z15 : Int) (z16 : Int) (z17 : Int) (s18 : ByteArray) (l19 : List D) (z20 : Int) (s21 : ByteArray) (l22 : List D) (l23 : List D) (z24 : Int) (z25 : Int) (s26 : ByteArray) (s27 : ByteArray) (s28 : ByteArray) (l29 : List D) (l30 : List D) (z31 : Int) (z32 : Int) : Option (Bool × Int × ByteArray × List D × Int × ByteArray × List D × List D × Int × Int × ByteArray × ByteArray × ByteArray × List D × List D × Int × Int) :=
  (if s2 = s18 then some (true, z17, s18, l19, z20, s21, l22, l23, z24, z25, s26, s27, s28, l29, l30, z31, z32) else some (false, z17, s18, l19, z20, s21, l22, l23, z24, z25, s26, s27, s28, l29, l30, z31, z32))
set_option maxRecDepth 100000 in
set_option maxHeartbeats 40000000 in
theorem T78 (n : Nat) : ∀ ⦃z1 : Int⦄ ⦃s2 : ByteArray⦄ ⦃l3 : List D⦄ ⦃z4 : Int⦄ ⦃s5 : ByteArray⦄ ⦃l6 : List D⦄ ⦃l7 : List D⦄ ⦃z8 : Int⦄ ⦃z9 : Int⦄ ⦃s10 : ByteArray⦄ ⦃s11 : ByteArray⦄ ⦃s12 : ByteArray⦄ ⦃l13 : List D⦄ ⦃l14 : List D⦄ ⦃z15 : Int⦄ ⦃z16 : Int⦄ ⦃z17 : Int⦄ ⦃s18 : ByteArray⦄ ⦃l19 : List D⦄ ⦃z20 : Int⦄ ⦃s21 : ByteArray⦄ ⦃l22 : List D⦄ ⦃l23 : List D⦄ ⦃z24 : Int⦄ ⦃z25 : Int⦄ ⦃s26 : ByteArray⦄ ⦃s27 : ByteArray⦄ ⦃s28 : ByteArray⦄ ⦃l29 : List D⦄ ⦃l30 : List D⦄ ⦃z31 : Int⦄ ⦃z32 : Int⦄ ⦃r1 : Bool⦄ ⦃r2 : Int⦄ ⦃r3 : ByteArray⦄ ⦃r4 : List D⦄ ⦃r5 : Int⦄ ⦃r6 : ByteArray⦄ ⦃r7 : List D⦄ ⦃r8 : List D⦄ ⦃r9 : Int⦄ ⦃r10 : Int⦄ ⦃r11 : ByteArray⦄ ⦃r12 : ByteArray⦄ ⦃r13 : ByteArray⦄ ⦃r14 : List D⦄ ⦃r15 : List D⦄ ⦃r16 : Int⦄ ⦃r17 : Int⦄, F78 n z1 s2 l3 z4 s5 l6 l7 z8 z9 s10 s11 s12 l13 l14 z15 z16 z17 s18 l19 z20 s21 l22 l23 z24 z25 s26 s27 s28 l29 l30 z31 z32 = some (r1, r2, r3, r4, r5, r6, r7, r8, r9, r10, r11, r12, r13, r14, r15, r16, r17) →
    Trip Tryd.prog inv 78 [.d (.agg [.int .u8 z1, .str s2, .list true 4 l3, .int .u8 z4, .str s5, .list true 3 l6, .list true 15 l7, .int .u8 z8, .int .i64 z9, .str s10, .str s11, .str s12, .list false 1 l13, .list true 8 l14, .int .i64 z15, .int .i64 z16]), .c (.ptr (.ext 0) 0)] [.cells [.d (.int .u8 z17), .d (.str s18), .d (.list true 4 l19), .d (.int .u8 z20), .d (.str s21), .d (.list true 3 l22), .d (.list true 15 l23), .d (.int .u8 z24), .d (.int .i64 z25), .d (.str s26), .d (.str s27), .d (.str s28), .d (.list false 1 l29), .d (.list true 8 l30), .d (.int .i64 z31), .d (.int .i64 z32)]] (.v (.d (.bool r1))) [.cells [.d (.int .u8 r2), .d (.str r3), .d (.list true 4 r4), .d (.int .u8 r5), .d (.str r6), .d (.list true 3 r7), .d (.list true 15 r8), .d (.int .u8 r9), .d (.int .i64 r10), .d (.str r11), .d (.str r12), .d (.str r13), .d (.list false 1 r14), .d (.list true 8 r15), .d (.int .i64 r16), .d (.int .i64 r17)]] [] := by
  intro z1 s2 l3 z4 s5 l6 l7 z8 z9 s10 s11 s12 l13 l14 z15 z16 z17 s18 l19 z20 s21 l22 l23 z24 z25 s26 s27 s28 l29 l30 z31 z32 r1 r2 r3 r4 r5 r6 r7 r8 r9 r10 r11 r12 r13 r14 r15 r16 r17 h
  unfold F78 at h
  refine Trip.of tab_ok tab_one fol Tryd.func78 rfl (by kernel_rfl) rfl rfl rfl (fun M hM hI => ?_)
  try cbv
  refine splitS (fun e => ?_) (fun e => ?_)
  · replace h := ite_t (bytes_eq.1 e) h
    clear e
    try cbv
    obtain ⟨rfl, rfl, rfl, rfl, rfl, rfl, rfl, rfl, rfl, rfl, rfl, rfl, rfl, rfl, rfl, rfl, rfl⟩ := inj17 h
    refine fin_go ?_
    try cbv
    exact ⟨[], rfl, rfl, ⟨rfl, trivial⟩, trivial, trivial⟩
  · replace h := ite_f (bytes_ne.1 e) h
    clear e
    try cbv
    obtain ⟨rfl, rfl, rfl, rfl, rfl, rfl, rfl, rfl, rfl, rfl, rfl, rfl, rfl, rfl, rfl, rfl, rfl⟩ := inj17 h
    refine fin_go ?_
    try cbv
    exact ⟨[], rfl, rfl, ⟨rfl, trivial⟩, trivial, trivial⟩
end Go.Proofs.YtjobleemmjjocaaDoor
end

/- Printed by lift.py: functional texts of functions, and their contracts. No condition. -/
set_option linter.unusedVariables false
noncomputable section
namespace Go.Proofs.YtjobleemmjjocaaDoor
open Go Go.AM
def L88_1 : Nat → (List D) → Int → Int → Int → ByteArray → (List D) → Int → ByteArray → (List D) → (List D) → Int → Int → ByteArray → ByteArray → ByteArray → (List D) → (List D) → Int → Int → Option (Int × Int × ByteArray × List D × Int × ByteArray × List D × List D × Int × Int × ByteArray × ByteArray × ByteArray × List D × List D × Int × Int)
  | 0, _, _, _, _, _, _, _, _, _, _, _, _, _, _, _, _, _, _, _ => none
  | n + 1, l1, z18, z19, z20, s21, l22, z23, s24, l25, l26, z27, z28, s29, s30, s31, l32, l33, z34, z35 =>
    (if z19 < z18 then getF l1 z19 fun x36 => ds_t82 x36 fun z37 s38 l39 z40 s41 l42 l43 z44 z45 s46 s47 s48 l49 l50 z51 z52 => bO17 (F78 n z37 s38 l39 z40 s41 l42 l43 z44 z45 s46 s47 s48 l49 l50 z51 z52 z20 s21 l22 z23 s24 l25 l26 z27 z28 s29 s30 s31 l32 l33 z34 z35) fun b53 z54 s55 l56 z57 s58 l59 l60 z61 z62 s63 s64 s65 l66 l67 z68 z69 => (if b53 = true then some (z19, z54, s55, l56, z57, s58, l59, l60, z61, z62, s63, s64, s65, l66, l67, z68, z69) else letF (IntKind.wrap .i64 (z19 + 1)) fun z70 => L88_1 n l1 z18 z70 z54 s55 l56 z57 s58 l59 l60 z61 z62 s63 s64 s65 l66 l67 z68 z69) else some ((-1 : Int), z20, s21, l22, z23, s24, l25, l26, z27, z28, s29, s30, s31, l32, l33, z34, z35))
def F88 (n : Nat) (l1 : List D) (z2 : Int) (s3 : ByteArray) (l4 : List D) (z5 : Int) (s6 : ByteArray) (l7 : List D) (l8 : List D) (z9 : Int) (z10 : Int) (s11 : ByteArray) (s12 : ByteArray) (s13 : ByteArray) (l14 : List D) (l15 : List D) (z16 : Int) (z17 : Int) : Option (Int × Int × ByteArray × List D × Int × ByteArray × List D × List D × Int × Int × ByteArray × ByteArray × ByteArray × List D × List D × Int × Int) :=
  lenF l1 fun z18 => L88_1 n l1 z18 (0 : Int) z2 s3 l4 z5 s6 l7 l8 z9 z10 s11 s12 s13 l14 l15 z16 z17
set_option maxRecDepth 100000 in
set_option maxHeartbeats 40000000 in
theorem T88 (n : Nat) : ∀ ⦃l1 : List D⦄ ⦃z2 : Int⦄ ⦃s3 : ByteArray⦄ ⦃l4 : List D⦄ ⦃z5 : Int⦄ ⦃s6 : ByteArray⦄ ⦃l7 : List D⦄ ⦃l8 : List D⦄ ⦃z9 : Int⦄ ⦃z10 : Int⦄ ⦃s11 : ByteArray⦄ ⦃s12 : ByteArray⦄ ⦃s13 : ByteArray⦄ ⦃l14 : List D⦄ ⦃l15 : List D⦄ ⦃z16 : Int⦄ ⦃z17 : Int⦄ ⦃r1 : Int⦄ ⦃r2 : Int⦄ ⦃r3 : ByteArray⦄ ⦃r4 : List D⦄ ⦃r5 : Int⦄ ⦃r6 : ByteArray⦄ ⦃r7 : List D⦄ ⦃r8 : List D⦄ ⦃r9 : Int⦄ ⦃r10 : Int⦄ ⦃r11 : ByteArray⦄ ⦃r12 : ByteArray⦄ ⦃r13 : ByteArray⦄ ⦃r14 : List D⦄ ⦃r15 : List D⦄ ⦃r16 : Int⦄ ⦃r17 : Int⦄, F88 n l1 z2 s3 l4 z5 s6 l7 l8 z9 z10 s11 s12 s13 l14 l15 z16 z17 = some (r1, r2, r3, r4, r5, r6, r7, r8, r9, r10, r11, r12, r13, r14, r15, r16, r17) →
    Trip Tryd.prog inv 88 [.d (.list true 16 l1), .c (.fn 78 [.ext 0])] [.cells [.d (.int .u8 z2), .d (.str s3), .d (.list true 4 l4), .d (.int .u8 z5), .d (.str s6), .d (.list true 3 l7), .d (.list true 15 l8), .d (.int .u8 z9), .d (.int .i64 z10), .d (.str s11), .d (.str s12), .d (.str s13), .d (.list false 1 l14), .d (.list true 8 l15), .d (.int .i64 z16), .d (.int .i64 z17)]] (.v (.d (.int .i64 r1))) [.cells [.d (.int .u8 r2), .d (.str r3), .d (.list true 4 r4), .d (.int .u8 r5), .d (.str r6), .d (.list true 3 r7), .d (.list true 15 r8), .d (.int .u8 r9), .d (.int .i64 r10), .d (.str r11), .d (.str r12), .d (.str r13), .d (.list false 1 r14), .d (.list true 8 r15), .d (.int .i64 r16), .d (.int .i64 r17)]] [] := by
  intro l1 z2 s3 l4 z5 s6 l7 l8 z9 z10 s11 s12 s13 l14 l15 z16 z17 r1 r2 r3 r4 r5 r6 r7 r8 r9 r10 r11 r12 r13 r14 r15 r16 r17 h
  unfold F88 at h
  refine Trip.of tab_ok tab_one fol Tryd.func88 rfl (by kernel_rfl) rfl rfl rfl (fun M hM hI => ?_)
  try cbv
  replace h := lenF_inv M h
  obtain ⟨z18, hz, h⟩ := h
  refine ⟨z18, hz, ?_⟩
  clear hz
  try cbv
  refine loop_inv (T := Nat × Int × Int × ByteArray × List D × Int × ByteArray × List D × List D × Int × Int × ByteArray × ByteArray × ByteArray × List D × List D × Int × Int) [0, 1, 4, 7, 8] [.ext 0] 128 (fun t => ⟨[(0, .v (.d (.list true 16 l1))), (1, .v (.c (.fn 78 [.ext 0]))), (4, .v (.d (.int .i64 0))), (7, .v (.d (.int .i64 z18))), (8, .v (.d (.int .i64 t.2.1)))], [(.ext 0, .cells [.d (.int .u8 t.2.2.1), .d (.str t.2.2.2.1), .d (.list true 4 t.2.2.2.2.1), .d (.int .u8 t.2.2.2.2.2.1), .d (.str t.2.2.2.2.2.2.1), .d (.list true 3 t.2.2.2.2.2.2.2.1), .d (.list true 15 t.2.2.2.2.2.2.2.2.1), .d (.int .u8 t.2.2.2.2.2.2.2.2.2.1), .d (.int .i64 t.2.2.2.2.2.2.2.2.2.2.1), .d (.str t.2.2.2.2.2.2.2.2.2.2.2.1), .d (.str t.2.2.2.2.2.2.2.2.2.2.2.2.1), .d (.str t.2.2.2.2.2.2.2.2.2.2.2.2.2.1), .d (.list false 1 t.2.2.2.2.2.2.2.2.2.2.2.2.2.2.1), .d (.list true 8 t.2.2.2.2.2.2.2.2.2.2.2.2.2.2.2.1), .d (.int .i64 t.2.2.2.2.2.2.2.2.2.2.2.2.2.2.2.2.1), .d (.int .i64 t.2.2.2.2.2.2.2.2.2.2.2.2.2.2.2.2.2)])], 128⟩)
    (fun t => t.1 ≤ n ∧ L88_1 t.1 l1 z18 t.2.1 t.2.2.1 t.2.2.2.1 t.2.2.2.2.1 t.2.2.2.2.2.1 t.2.2.2.2.2.2.1 t.2.2.2.2.2.2.2.1 t.2.2.2.2.2.2.2.2.1 t.2.2.2.2.2.2.2.2.2.1 t.2.2.2.2.2.2.2.2.2.2.1 t.2.2.2.2.2.2.2.2.2.2.2.1 t.2.2.2.2.2.2.2.2.2.2.2.2.1 t.2.2.2.2.2.2.2.2.2.2.2.2.2.1 t.2.2.2.2.2.2.2.2.2.2.2.2.2.2.1 t.2.2.2.2.2.2.2.2.2.2.2.2.2.2.2.1 t.2.2.2.2.2.2.2.2.2.2.2.2.2.2.2.2.1 t.2.2.2.2.2.2.2.2.2.2.2.2.2.2.2.2.2 = some (r1, r2, r3, r4, r5, r6, r7, r8, r9, r10, r11, r12, r13, r14, r15, r16, r17)) (fun t => t.1) (n, ((0 : Int), z2, s3, l4, z5, s6, l7, l8, z9, z10, s11, s12, s13, l14, l15, z16, z17)) ⟨Nat.le_refl _, h⟩ (by cbv) ?_
  clear h
  rintro ⟨m1, z19, z20, s21, l22, z23, s24, l25, l26, z27, z28, s29, s30, s31, l32, l33, z34, z35⟩ ⟨hm1, h⟩
  replace hm1 : m1 ≤ n := hm1
  cases m1 with
  | zero => cases (show (none : Option _) = some _ from h)
  | succ m1 =>
    replace h : L88_1 (m1 + 1) l1 z18 z19 z20 s21 l22 z23 s24 l25 l26 z27 z28 s29 s30 s31 l32 l33 z34 z35 = some (r1, r2, r3, r4, r5, r6, r7, r8, r9, r10, r11, r12, r13, r14, r15, r16, r17) := h
    rw [L88_1] at h
    try cbv
    refine splitL (fun e => ?_) (fun e => ?_)
    · replace h := ite_t e h
      clear e
      try cbv
      replace h := getF_inv h
      obtain ⟨x36, ⟨hx0, hx⟩, h⟩ := h
      refine ⟨x36, hx0, hx, ?_⟩
      clear hx0 hx
      replace h := ds_t82_inv h
      obtain ⟨z37, s38, l39, z40, s41, l42, l43, z44, z45, s46, s47, s48, l49, l50, z51, z52, rfl, h⟩ := h
      try cbv
      replace h := bO17_inv h
      obtain ⟨b53, z54, s55, l56, z57, s58, l59, l60, z61, z62, s63, s64, s65, l66, l67, z68, z69, hr, h⟩ := h
      refine call_go rfl rfl ?_
      try cbv
      refine call_with hM hI [.ext 0] (T78 _ hr) rfl (by simp) ⟨rfl, trivial⟩ ⟨trivial, trivial⟩ (by simp) ?_
      clear hr
      try cbv
      cases b53
      · replace h := ite_f Bool.false_ne_true h
        try cbv
        replace h := letF_inv h
        obtain ⟨z70, hz, h⟩ := h
        refine ⟨z70, hz, ?_⟩
        clear hz
        try cbv
        exact loop_next (m1, (z70, z54, s55, l56, z57, s58, l59, l60, z61, z62, s63, s64, s65, l66, l67, z68, z69)) [0, 1, 4, 7, 8] [.ext 0] 128 ⟨by omega, h⟩ (Nat.lt_succ_of_le (by omega)) (by cbv)
      · replace h := ite_t rfl h
        try cbv
        obtain ⟨rfl, rfl, rfl, rfl, rfl, rfl, rfl, rfl, rfl, rfl, rfl, rfl, rfl, rfl, rfl, rfl, rfl⟩ := inj17 h
        refine fin_go ?_
        try cbv
        exact ⟨[], rfl, rfl, ⟨rfl, trivial⟩, trivial, trivial⟩
    · replace h := ite_f (Int.not_lt.2 e) h
      clear e
      try cbv
      obtain ⟨rfl, rfl, rfl, rfl, rfl, rfl, rfl, rfl, rfl, rfl, rfl, rfl, rfl, rfl, rfl, rfl, rfl⟩ := inj17 h
      refine fin_go ?_
      try cbv
      exact ⟨[], rfl, rfl, ⟨rfl, trivial⟩, trivial, trivial⟩
end Go.Proofs.YtjobleemmjjocaaDoor
end

/- Printed by lift.py: functional texts of functions, and their contracts. No condition. -/
set_option linter.unusedVariables false
noncomputable section
namespace Go.Proofs.YtjobleemmjjocaaDoor
open Go Go.AM
def F79 (n : Nat) (l1 : List D) (z2 : Int) (s3 : ByteArray) (l4 : List D) (z5 : Int) (s6 : ByteArray) (l7 : List D) (l8 : List D) (z9 : Int) (z10 : Int) (s11 : ByteArray) (s12 : ByteArray) (s13 : ByteArray) (l14 : List D) (l15 : List D) (z16 : Int) (z17 : Int) : Option (Bool × Int × ByteArray × List D × Int × ByteArray × List D × List D × Int × Int × ByteArray × ByteArray × ByteArray × List D × List D × Int × Int) :=
  bO17 (F88 n l1 z2 s3 l4 z5 s6 l7 l8 z9 z10 s11 s12 s13 l14 l15 z16 z17) fun z18 z19 s20 l21 z22 s23 l24 l25 z26 z27 s28 s29 s30 l31 l32 z33 z34 => (if (0 : Int) ≤ z18 then some (true, z19, s20, l21, z22, s23, l24, l25, z26, z27, s28, s29, s30, l31, l32, z33, z34) else some (false, z19, s20, l21, z22, s23, l24, l25, z26, z27, s28, s29, s30, l31, l32, z33, z34))
set_option maxRecDepth 100000 in
set_option maxHeartbeats 40000000 in
theorem T79 (n : Nat) : ∀ ⦃l1 : List D⦄ ⦃z2 : Int⦄ ⦃s3 : ByteArray⦄ ⦃l4 : List D⦄ ⦃z5 : Int⦄ ⦃s6 : ByteArray⦄ ⦃l7 : List D⦄ ⦃l8 : List D⦄ ⦃z9 : Int⦄ ⦃z10 : Int⦄ ⦃s11 : ByteArray⦄ ⦃s12 : ByteArray⦄ ⦃s13 : ByteArray⦄ ⦃l14 : List D⦄ ⦃l15 : List D⦄ ⦃z16 : Int⦄ ⦃z17 : Int⦄ ⦃r1 : Bool⦄ ⦃r2 : Int⦄ ⦃r3 : ByteArray⦄ ⦃r4 : List D⦄ ⦃r5 : Int⦄ ⦃r6 : ByteArray⦄ ⦃r7 : List D⦄ ⦃r8 : List D⦄ ⦃r9 : Int⦄ ⦃r10 : Int⦄ ⦃r11 : ByteArray⦄ ⦃r12 : ByteArray⦄ ⦃r13 : ByteArray⦄ ⦃r14 : List D⦄ ⦃r15 : List D⦄ ⦃r16 : Int⦄ ⦃r17 : Int⦄, F79 n l1 z2 s3 l4 z5 s6 l7 l8 z9 z10 s11 s12 s13 l14 l15 z16 z17 = some (r1, r2, r3, r4, r5, r6, r7, r8, r9, r10, r11, r12, r13, r14, r15, r16, r17) →
    Trip Tryd.prog inv 79 [.d (.list true 16 l1), .c (.fn 78 [.ext 0])] [.cells [.d (.int .u8 z2), .d (.str s3), .d (.list true 4 l4), .d (.int .u8 z5), .d (.str s6), .d (.list true 3 l7), .d (.list true 15 l8), .d (.int .u8 z9), .d (.int .i64 z10), .d (.str s11), .d (.str s12), .d (.str s13), .d (.list false 1 l14), .d (.list true 8 l15), .d (.int .i64 z16), .d (.int .i64 z17)]] (.v (.d (.bool r1))) [.cells [.d (.int .u8 r2), .d (.str r3), .d (.list true 4 r4), .d (.int .u8 r5), .d (.str r6), .d (.list true 3 r7), .d (.list true 15 r8), .d (.int .u8 r9), .d (.int .i64 r10), .d (.str r11), .d (.str r12), .d (.str r13), .d (.list false 1 r14), .d (.list true 8 r15), .d (.int .i64 r16), .d (.int .i64 r17)]] [] := by
  intro l1 z2 s3 l4 z5 s6 l7 l8 z9 z10 s11 s12 s13 l14 l15 z16 z17 r1 r2 r3 r4 r5 r6 r7 r8 r9 r10 r11 r12 r13 r14 r15 r16 r17 h
  unfold F79 at h
  refine Trip.of tab_ok tab_one fol Tryd.func79 rfl (by kernel_rfl) rfl rfl rfl (fun M hM hI => ?_)
  try cbv
  replace h := bO17_inv h
  obtain ⟨z18, z19, s20, l21, z22, s23, l24, l25, z26, z27, s28, s29, s30, l31, l32, z33, z34, hr, h⟩ := h
  refine call_go rfl rfl ?_
  try cbv
  refine call_with hM hI [.ext 0] (T88 _ hr) rfl (by simp) ⟨rfl, trivial⟩ ⟨trivial, trivial⟩ (by simp) ?_
  clear hr
  try cbv
  refine splitLe (fun e => ?_) (fun e => ?_)
  · replace h := ite_t e h
    clear e
    try cbv
    obtain ⟨rfl, rfl, rfl, rfl, rfl, rfl, rfl, rfl, rfl, rfl, rfl, rfl, rfl, rfl, rfl, rfl, rfl⟩ := inj17 h
    refine fin_go ?_
    try cbv
    exact ⟨[], rfl, rfl, ⟨rfl, trivial⟩, trivial, trivial⟩
  · replace h := ite_f (Int.not_le.2 e) h
    clear e
    try cbv
    obtain ⟨rfl, rfl, rfl, rfl, rfl, rfl, rfl, rfl, rfl, rfl, rfl, rfl, rfl, rfl, rfl, rfl, rfl⟩ := inj17 h
    refine fin_go ?_
    try cbv
    exact ⟨[], rfl, rfl, ⟨rfl, trivial⟩, trivial, trivial⟩
end Go.Proofs.YtjobleemmjjocaaDoor
end

/- Printed by lift.py: functional texts of functions, and their contracts. No condition. -/
set_option linter.unusedVariables false
noncomputable section
namespace Go.Proofs.YtjobleemmjjocaaDoor
open Go Go.AM
def L66_1 : Nat → (List D) → Int → Int → Option (Bool)
  | 0, _, _, _ => none
  | n + 1, l1, z3, z4 =>
    (if z4 < z3 then getF l1 z4 fun x5 => ds_t82 x5 fun z6 s7 l8 z9 s10 l11 l12 z13 z14 s15 s16 s17 l18 l19 z20 z21 => (if z6 = (1 : Int) then lenF l8 fun z22 => (if (6 : Int) < z22 then some false else sliceF l1 (0 : Int) z4 fun l23 => bO17 (F79 n l23 z6 s7 l8 z9 s10 l11 l12 z13 z14 s15 s16 s17 l18 l19 z20 z21) fun b24 z25 s26 l27 z28 s29 l30 l31 z32 z33 s34 s35 s36 l37 l38 z39 z40 => (if b24 = true then some false else letF (IntKind.wrap .i64 (z4 + 1)) fun z41 => L66_1 n l1 z3 z41)) else (if z6 = (2 : Int) then lenF l8 fun z42 => (if (6 : Int) < z42 then some false else sliceF l1 (0 : Int) z4 fun l43 => bO17 (F79 n l43 z6 s7 l8 z9 s10 l11 l12 z13 z14 s15 s16 s17 l18 l19 z20 z21) fun b44 z45 s46 l47 z48 s49 l50 l51 z52 z53 s54 s55 s56 l57 l58 z59 z60 => (if b44 = true then some false else letF (IntKind.wrap .i64 (z4 + 1)) fun z61 => L66_1 n l1 z3 z61)) else some false)) else some true)
def F66 (n : Nat) (l1 : List D) : Option (Bool) :=
  lenF l1 fun z2 => (if (30 : Int) < z2 then some false else lenF l1 fun z3 => L66_1 n l1 z3 (0 : Int))
set_option maxRecDepth 100000 in
set_option maxHeartbeats 40000000 in
theorem T66 (n : Nat) : ∀ ⦃l1 : List D⦄ ⦃r1 : Bool⦄, F66 n l1 = some r1 →
    Trip Tryd.prog inv 66 [.d (.list true 16 l1)] [] (.v (.d (.bool r1))) [] [] := by
  intro l1 r1 h
  unfold F66 at h
  refine Trip.of tab_ok tab_one fol Tryd.func66 rfl (by kernel_rfl) rfl rfl rfl (fun M hM hI => ?_)
  try cbv
  replace h := lenF_inv M h
  obtain ⟨z2, hz, h⟩ := h
  refine ⟨z2, hz, ?_⟩
  clear hz
  try cbv
  refine splitL (fun e => ?_) (fun e => ?_)
  · replace h := ite_t e h
    clear e
    try cbv
    obtain rfl := Option.some.inj h
    refine fin_go ?_
    try cbv
    exact ⟨[], rfl, rfl, trivial, trivial, trivial⟩
  · replace h := ite_f (Int.not_lt.2 e) h
    clear e
    try cbv
    replace h := lenF_inv M h
    obtain ⟨z3, hz, h⟩ := h
    refine ⟨z3, hz, ?_⟩
    clear hz
    try cbv
    refine loop_inv (T := Nat × Int) [0, 2, 9, 10, 11] [] 224 (fun t => ⟨[(0, .v (.d (.list true 16 l1))), (2, .v (.d (.bool false))), (9, .v (.d (.list true 16 l1))), (10, .v (.d (.int .i64 z3))), (11, .v (.d (.int .i64 t.2)))], [], 224⟩)
      (fun t => t.1 ≤ n ∧ L66_1 t.1 l1 z3 t.2 = some r1) (fun t => t.1) (n, (0 : Int)) ⟨Nat.le_refl _, h⟩ (by cbv) ?_
    clear h
    rintro ⟨m1, z4⟩ ⟨hm1, h⟩
    replace hm1 : m1 ≤ n := hm1
    cases m1 with
    | zero => cases (show (none : Option _) = some _ from h)
    | succ m1 =>
      replace h : L66_1 (m1 + 1) l1 z3 z4 = some r1 := h
      rw [L66_1] at h
      try cbv
      refine splitL (fun e => ?_) (fun e => ?_)
      · replace h := ite_t e h
        clear e
        try cbv
        replace h := getF_inv h
        obtain ⟨x5, ⟨hx0, hx⟩, h⟩ := h
        refine ⟨x5, hx0, hx, ?_⟩
        clear hx0 hx
        replace h := ds_t82_inv h
        obtain ⟨z6, s7, l8, z9, s10, l11, l12, z13, z14, s15, s16, s17, l18, l19, z20, z21, rfl, h⟩ := h
        try cbv
        refine splitI (fun e => ?_) (fun e => ?_)
        · replace h := ite_t e h
          clear e
          try cbv
          replace h := lenF_inv M h
          obtain ⟨z22, hz, h⟩ := h
          refine ⟨z22, hz, ?_⟩
          clear hz
          try cbv
          refine splitL (fun e => ?_) (fun e => ?_)
          · replace h := ite_t e h
            clear e
            try cbv
            obtain rfl := Option.some.inj h
            refine fin_go ?_
            try cbv
            exact ⟨[], rfl, rfl, trivial, trivial, trivial⟩
          · replace h := ite_f (Int.not_lt.2 e) h
            clear e
            try cbv
            replace h := sliceF_inv M h
            obtain ⟨l23, hb, hz, h⟩ := h
            refine ⟨l23, hb, hz, ?_⟩
            clear hb hz
            try cbv
            replace h := bO17_inv h
            obtain ⟨b24, z25, s26, l27, z28, s29, l30, l31, z32, z33, s34, s35, s36, l37, l38, z39, z40, hr, h⟩ := h
            refine call_go rfl rfl ?_
            try cbv
            refine call_with hM hI [.loc 352] (T79 _ hr) rfl (by simp) ⟨rfl, trivial⟩ ⟨trivial, trivial⟩ (by simp) ?_
            clear hr
            try cbv
            cases b24
            · replace h := ite_f Bool.false_ne_true h
              try cbv
              replace h := letF_inv h
              obtain ⟨z41, hz, h⟩ := h
              refine ⟨z41, hz, ?_⟩
              clear hz
              try cbv
              exact loop_next (m1, z41) [0, 2, 9, 10, 11] [] 224 ⟨by omega, h⟩ (Nat.lt_succ_of_le (by omega)) (by cbv)
            · replace h := ite_t rfl h
              try cbv
              obtain rfl := Option.some.inj h
              refine fin_go ?_
              try cbv
              exact ⟨[], rfl, rfl, trivial, trivial, trivial⟩
        · replace h := ite_f e h
          clear e
          try cbv
          refine splitI (fun e => ?_) (fun e => ?_)
          · replace h := ite_t e h
            clear e
            try cbv
            replace h := lenF_inv M h
            obtain ⟨z42, hz, h⟩ := h
            refine ⟨z42, hz, ?_⟩
            clear hz
            try cbv
            refine splitL (fun e => ?_) (fun e => ?_)
            · replace h := ite_t e h
              clear e
              try cbv
              obtain rfl := Option.some.inj h
              refine fin_go ?_
              try cbv
              exact ⟨[], rfl, rfl, trivial, trivial, trivial⟩
            · replace h := ite_f (Int.not_lt.2 e) h
              clear e
              try cbv
              replace h := sliceF_inv M h
              obtain ⟨l43, hb, hz, h⟩ := h
              refine ⟨l43, hb, hz, ?_⟩
              clear hb hz
              try cbv
              replace h := bO17_inv h
              obtain ⟨b44, z45, s46, l47, z48, s49, l50, l51, z52, z53, s54, s55, s56, l57, l58, z59, z60, hr, h⟩ := h
              refine call_go rfl rfl ?_
              try cbv
              refine call_with hM hI [.loc 352] (T79 _ hr) rfl (by simp) ⟨rfl, trivial⟩ ⟨trivial, trivial⟩ (by simp) ?_
              clear hr
              try cbv
              cases b44
              · replace h := ite_f Bool.false_ne_true h
                try cbv
                replace h := letF_inv h
                obtain ⟨z61, hz, h⟩ := h
                refine ⟨z61, hz, ?_⟩
                clear hz
                try cbv
                exact loop_next (m1, z61) [0, 2, 9, 10, 11] [] 224 ⟨by omega, h⟩ (Nat.lt_succ_of_le (by omega)) (by cbv)
              · replace h := ite_t rfl h
                try cbv
                obtain rfl := Option.some.inj h
                refine fin_go ?_
                try cbv
                exact ⟨[], rfl, rfl, trivial, trivial, trivial⟩
          · replace h := ite_f e h
            clear e
            try cbv
            obtain rfl := Option.some.inj h
            refine fin_go ?_
            try cbv
            exact ⟨[], rfl, rfl, trivial, trivial, trivial⟩
      · replace h := ite_f (Int.not_lt.2 e) h
        clear e
        try cbv
        obtain rfl := Option.some.inj h
        refine fin_go ?_
        try cbv
        exact ⟨[], rfl, rfl, trivial, trivial, trivial⟩
end Go.Proofs.YtjobleemmjjocaaDoor
end

/- Printed by lift.py: functional texts of functions, and their contracts. No condition. -/
set_option linter.unusedVariables false
noncomputable section
namespace Go.Proofs.YtjobleemmjjocaaDoor
open Go Go.AM
mutual
def L39_1 : Nat → (List D) → Int → (List D) → Int → Int → Option (Int)
  | 0, _, _, _, _, _ => none
  | n + 1, l1, z2, l3, z12, z13 =>
    (if z13 < z12 then getF l1 z13 fun x14 => ds_t56 x14 fun s15 z16 z17 l18 => bO1 (F53 n s15) fun b19 => (if b19 = true then (if z16 < (0 : Int) then some (170 : Int) else (if z17 < z16 then some (170 : Int) else (if (60 : Int) < z17 then some (170 : Int) else lenF l18 fun z20 => (if (4000 : Int) < z20 then some (170 : Int) else lenF l18 fun z21 => L39_2 n l1 z2 l3 z12 z13 l18 z21 (0 : Int))))) else some (170 : Int)) else some (0 : Int))
def L39_2 : Nat → (List D) → Int → (List D) → Int → Int → (List D) → Int → Int → Option (Int)
  | 0, _, _, _, _, _, _, _, _ => none
  | n + 1, l1, z2, l3, z12, z13, l18, z21, z22 =>
    (if z22 < z21 then getF l18 z22 fun x23 => ds_t48 x23 fun z24 z25 z26 z27 l28 l29 z30 s31 l32 => bO1 (F33 n l1 z2 l3 z13 z24 z25 z26 z27 l28 l29 z30 s31 l32) fun z33 => (if z33 = (0 : Int) then letF (IntKind.wrap .i64 (z22 + 1)) fun z34 => L39_2 n l1 z2 l3 z12 z13 l18 z21 z34 else some z33) else letF (IntKind.wrap .i64 (z13 + 1)) fun z35 => L39_1 n l1 z2 l3 z12 z35)
end
def F39 (n : Nat) (l1 : List D) (z2 : Int) (l3 : List D) : Option (Int) :=
  lenF l1 fun z4 => (if (200 : Int) < z4 then some (170 : Int) else (if z2 < (0 : Int) then some (170 : Int) else lenF l1 fun z5 => (if z5 ≤ z2 then some (170 : Int) else getF l1 z2 fun x6 => ds_t56 x6 fun s7 z8 z9 l10 => (if z8 = (0 : Int) then bO1 (F66 n l3) fun b11 => (if b11 = true then lenF l1 fun z12 => L39_1 n l1 z2 l3 z12 (0 : Int) else some (170 : Int)) else some (170 : Int)))))
set_option maxRecDepth 100000 in
set_option maxHeartbeats 40000000 in
theorem T39 (n : Nat) : ∀ ⦃l1 : List D⦄ ⦃z2 : Int⦄ ⦃l3 : List D⦄ ⦃r1 : Int⦄, F39 n l1 z2 l3 = some r1 →
    Trip Tryd.prog inv 39 [.d (.agg [.list true 4 l1, .int .i64 z2, .list true 16 l3])] [] (.v (.d (.int .i64 r1))) [] [] := by
  intro l1 z2 l3 r1 h
  unfold F39 at h
  refine Trip.of tab_ok tab_one fol Tryd.func39 rfl (by kernel_rfl) rfl rfl rfl (fun M hM hI => ?_)
  try cbv
  replace h := lenF_inv M h
  obtain ⟨z4, hz, h⟩ := h
  refine ⟨z4, hz, ?_⟩
  clear hz
  try cbv
  refine splitL (fun e => ?_) (fun e => ?_)
  · replace h := ite_t e h
    clear e
    try cbv
    obtain rfl := Option.some.inj h
    refine fin_go ?_
    try cbv
    exact ⟨[], rfl, rfl, trivial, trivial, trivial⟩
  · replace h := ite_f (Int.not_lt.2 e) h
    clear e
    try cbv
    refine splitL (fun e => ?_) (fun e => ?_)
    · replace h := ite_t e h
      clear e
      try cbv
      obtain rfl := Option.some.inj h
      refine fin_go ?_
      try cbv
      exact ⟨[], rfl, rfl, trivial, trivial, trivial⟩
    · replace h := ite_f (Int.not_lt.2 e) h
      clear e
      try cbv
      replace h := lenF_inv M h
      obtain ⟨z5, hz, h⟩ := h
      refine ⟨z5, hz, ?_⟩
      clear hz
      try cbv
      refine splitLe (fun e => ?_) (fun e => ?_)
      · replace h := ite_t e h
        clear e
        try cbv
        obtain rfl := Option.some.inj h
        refine fin_go ?_
        try cbv
        exact ⟨[], rfl, rfl, trivial, trivial, trivial⟩
      · replace h := ite_f (Int.not_le.2 e) h
        clear e
        try cbv
        replace h := getF_inv h
        obtain ⟨x6, ⟨hx0, hx⟩, h⟩ := h
        refine ⟨x6, hx0, hx, ?_⟩
        clear hx0 hx
        replace h := ds_t56_inv h
        obtain ⟨s7, z8, z9, l10, rfl, h⟩ := h
        try cbv
        refine splitI (fun e => ?_) (fun e => ?_)
        · replace h := ite_t e h
          clear e
          try cbv
          replace h := bO1_inv h
          obtain ⟨b11, hr, h⟩ := h
          refine call_go rfl rfl ?_
          try cbv
          refine call_pure hM hI (T66 _ hr) rfl ?_
          clear hr
          try cbv
          cases b11
          · replace h := ite_f Bool.false_ne_true h
            try cbv
            obtain rfl := Option.some.inj h
            refine fin_go ?_
            try cbv
            exact ⟨[], rfl, rfl, trivial, trivial, trivial⟩
          · replace h := ite_t rfl h
            try cbv
            replace h := lenF_inv M h
            obtain ⟨z12, hz, h⟩ := h
            refine ⟨z12, hz, ?_⟩
            clear hz
            try cbv
            refine loop_inv (T := Nat × Int) [1, 2, 42, 43, 44] [.loc 0] 1248 (fun t => ⟨[(1, .v (.c (.ptr (.loc 0) 0))), (2, .v (.d (.int .i64 0))), (42, .v (.d (.list true 4 l1))), (43, .v (.d (.int .i64 z12))), (44, .v (.d (.int .i64 t.2)))], [(.loc 0, .cells [.d (.list true 4 l1), .d (.int .i64 z2), .d (.list true 16 l3)])], 1248⟩)
              (fun t => t.1 ≤ n ∧ L39_1 t.1 l1 z2 l3 z12 t.2 = some r1) (fun t => t.1) (n, (0 : Int)) ⟨Nat.le_refl _, h⟩ (by cbv) ?_
            clear h
            rintro ⟨m1, z13⟩ ⟨hm1, h⟩
            replace hm1 : m1 ≤ n := hm1
            cases m1 with
            | zero => cases (show (none : Option _) = some _ from h)
            | succ m1 =>
              replace h : L39_1 (m1 + 1) l1 z2 l3 z12 z13 = some r1 := h
              rw [L39_1] at h
              try cbv
              refine splitL (fun e => ?_) (fun e => ?_)
              · replace h := ite_t e h
                clear e
                try cbv
                replace h := getF_inv h
                obtain ⟨x14, ⟨hx0, hx⟩, h⟩ := h
                refine ⟨x14, hx0, hx, ?_⟩
                clear hx0 hx
                replace h := ds_t56_inv h
                obtain ⟨s15, z16, z17, l18, rfl, h⟩ := h
                try cbv
                replace h := bO1_inv h
                obtain ⟨b19, hr, h⟩ := h
                refine call_go rfl rfl ?_
                try cbv
                refine call_pure hM hI (T53 _ hr) rfl ?_
                clear hr
                try cbv
                cases b19
                · replace h := ite_f Bool.false_ne_true h
                  try cbv
                  obtain rfl := Option.some.inj h
                  refine fin_go ?_
                  try cbv
                  exact ⟨[], rfl, rfl, trivial, trivial, trivial⟩
                · replace h := ite_t rfl h
                  try cbv
                  refine splitL (fun e => ?_) (fun e => ?_)
                  · replace h := ite_t e h
                    clear e
                    try cbv
                    obtain rfl := Option.some.inj h
                    refine fin_go ?_
                    try cbv
                    exact ⟨[], rfl, rfl, trivial, trivial, trivial⟩
                  · replace h := ite_f (Int.not_lt.2 e) h
                    clear e
                    try cbv
                    refine splitL (fun e => ?_) (fun e => ?_)
                    · replace h := ite_t e h
                      clear e
                      try cbv
                      obtain rfl := Option.some.inj h
                      refine fin_go ?_
                      try cbv
                      exact ⟨[], rfl, rfl, trivial, trivial, trivial⟩
                    · replace h := ite_f (Int.not_lt.2 e) h
                      clear e
                      try cbv
                      refine splitL (fun e => ?_) (fun e => ?_)
                      · replace h := ite_t e h
                        clear e
                        try cbv
                        obtain rfl := Option.some.inj h
                        refine fin_go ?_
                        try cbv
                        exact ⟨[], rfl, rfl, trivial, trivial, trivial⟩
                      · replace h := ite_f (Int.not_lt.2 e) h
                        clear e
                        try cbv
                        replace h := lenF_inv M h
                        obtain ⟨z20, hz, h⟩ := h
                        refine ⟨z20, hz, ?_⟩
                        clear hz
                        try cbv
                        refine splitL (fun e => ?_) (fun e => ?_)
                        · replace h := ite_t e h
                          clear e
                          try cbv
                          obtain rfl := Option.some.inj h
                          refine fin_go ?_
                          try cbv
                          exact ⟨[], rfl, rfl, trivial, trivial, trivial⟩
                        · replace h := ite_f (Int.not_lt.2 e) h
                          clear e
                          try cbv
                          replace h := lenF_inv M h
                          obtain ⟨z21, hz, h⟩ := h
                          refine ⟨z21, hz, ?_⟩
                          clear hz
                          try cbv
                          refine loop_inv (T := Nat × Int) [1, 2, 3, 42, 43, 44, 77, 78, 79] [.loc 0] 2464 (fun t => ⟨[(1, .v (.c (.ptr (.loc 0) 0))), (2, .v (.d (.int .i64 0))), (3, .v (.d (.int .i64 z13))), (42, .v (.d (.list true 4 l1))), (43, .v (.d (.int .i64 z12))), (44, .v (.d (.int .i64 z13))), (77, .v (.d (.list true 9 l18))), (78, .v (.d (.int .i64 z21))), (79, .v (.d (.int .i64 t.2)))], [(.loc 0, .cells [.d (.list true 4 l1), .d (.int .i64 z2), .d (.list true 16 l3)])], 2464⟩)
                            (fun t => t.1 ≤ m1 ∧ L39_2 t.1 l1 z2 l3 z12 z13 l18 z21 t.2 = some r1) (fun t => t.1) (m1, (0 : Int)) ⟨Nat.le_refl _, h⟩ (by cbv) ?_
                          clear h
                          rintro ⟨m2, z22⟩ ⟨hm2, h⟩
                          replace hm2 : m2 ≤ m1 := hm2
                          cases m2 with
                          | zero => cases (show (none : Option _) = some _ from h)
                          | succ m2 =>
                            replace h : L39_2 (m2 + 1) l1 z2 l3 z12 z13 l18 z21 z22 = some r1 := h
                            rw [L39_2] at h
                            try cbv
                            refine splitL (fun e => ?_) (fun e => ?_)
                            · replace h := ite_t e h
                              clear e
                              try cbv
                              replace h := getF_inv h
                              obtain ⟨x23, ⟨hx0, hx⟩, h⟩ := h
                              refine ⟨x23, hx0, hx, ?_⟩
                              clear hx0 hx
                              replace h := ds_t48_inv h
                              obtain ⟨z24, z25, z26, z27, l28, l29, z30, s31, l32, rfl, h⟩ := h
                              try cbv
                              replace h := bO1_inv h
                              obtain ⟨z33, hr, h⟩ := h
                              refine call_go rfl rfl ?_
                              try cbv
                              refine call_pure hM hI (T33 _ hr) rfl ?_
                              clear hr
                              try cbv
                              refine splitI (fun e => ?_) (fun e => ?_)
                              · replace h := ite_t e h
                                clear e
                                try cbv
                                replace h := letF_inv h
                                obtain ⟨z34, hz, h⟩ := h
                                refine ⟨z34, hz, ?_⟩
                                clear hz
                                try cbv
                                exact loop_next (m2, z34) [1, 2, 3, 42, 43, 44, 77, 78, 79] [.loc 0] 2464 ⟨by omega, h⟩ (Nat.lt_succ_of_le (by omega)) (by cbv)
                              · replace h := ite_f e h
                                clear e
                                try cbv
                                obtain rfl := Option.some.inj h
                                refine fin_go ?_
                                try cbv
                                exact ⟨[], rfl, rfl, trivial, trivial, trivial⟩
                            · replace h := ite_f (Int.not_lt.2 e) h
                              clear e
                              try cbv
                              replace h := letF_inv h
                              obtain ⟨z35, hz, h⟩ := h
                              refine ⟨z35, hz, ?_⟩
                              clear hz
                              try cbv
                              exact loop_next (m2, z35) [1, 2, 42, 43, 44] [.loc 0] 1248 ⟨by omega, h⟩ (Nat.lt_succ_of_le (by omega)) (by cbv)
              · replace h := ite_f (Int.not_lt.2 e) h
                clear e
                try cbv
                obtain rfl := Option.some.inj h
                refine fin_go ?_
                try cbv
                exact ⟨[], rfl, rfl, trivial, trivial, trivial⟩
        · replace h := ite_f e h
          clear e
          try cbv
          obtain rfl := Option.some.inj h
          refine fin_go ?_
          try cbv
          exact ⟨[], rfl, rfl, trivial, trivial, trivial⟩
end Go.Proofs.YtjobleemmjjocaaDoor
end

/- Printed by lift.py: functional texts of functions, and their contracts. No condition. -/
set_option linter.unusedVariables false
noncomputable section
namespace Go.Proofs.YtjobleemmjjocaaDoor
open Go Go.AM
mutual
def L67_1 : Nat → (List D) → Int → Option (Bool)
  | 0, _, _ => none
  | n + 1, l1, z3 =>
    lenF l1 fun z4 => (if z3 < z4 then getF l1 z3 fun x5 => ds_t82 x5 fun z6 s7 l8 z9 s10 l11 l12 z13 z14 s15 s16 s17 l18 l19 z20 z21 => (if z6 = (1 : Int) then getF l1 z3 fun x22 => ds_t82 x22 fun z23 s24 l25 z26 s27 l28 l29 z30 z31 s32 s33 s34 l35 l36 z37 z38 => lenF l25 fun z39 => (if (6 : Int) < z39 then some false else L67_2 n l1 z3 (0 : Int)) else getF l1 z3 fun x77 => ds_t82 x77 fun z78 s79 l80 z81 s82 l83 l84 z85 z86 s87 s88 s89 l90 l91 z92 z93 => (if z78 = (2 : Int) then getF l1 z3 fun x94 => ds_t82 x94 fun z95 s96 l97 z98 s99 l100 l101 z102 z103 s104 s105 s106 l107 l108 z109 z110 => lenF l97 fun z111 => (if (6 : Int) < z111 then some false else L67_3 n l1 z3 (0 : Int)) else some false)) else some true)
def L67_2 : Nat → (List D) → Int → Int → Option (Bool)
  | 0, _, _, _ => none
  | n + 1, l1, z3, z40 =>
    (if z40 < z3 then getF l1 z40 fun x41 => ds_t82 x41 fun z42 s43 l44 z45 s46 l47 l48 z49 z50 s51 s52 s53 l54 l55 z56 z57 => getF l1 z3 fun x58 => ds_t82 x58 fun z59 s60 l61 z62 s63 l64 l65 z66 z67 s68 s69 s70 l71 l72 z73 z74 => (if s43 = s60 then some false else letF (IntKind.wrap .i64 (z40 + 1)) fun z75 => L67_2 n l1 z3 z75) else letF (IntKind.wrap .i64 (z3 + 1)) fun z76 => L67_1 n l1 z76)
def L67_3 : Nat → (List D) → Int → Int → Option (Bool)
  | 0, _, _, _ => none
  | n + 1, l1, z3, z112 =>
    (if z112 < z3 then getF l1 z112 fun x113 => ds_t82 x113 fun z114 s115 l116 z117 s118 l119 l120 z121 z122 s123 s124 s125 l126 l127 z128 z129 => getF l1 z3 fun x130 => ds_t82 x130 fun z131 s132 l133 z134 s135 l136 l137 z138 z139 s140 s141 s142 l143 l144 z145 z146 => (if s115 = s132 then some false else letF (IntKind.wrap .i64 (z112 + 1)) fun z147 => L67_3 n l1 z3 z147) else letF (IntKind.wrap .i64 (z3 + 1)) fun z148 => L67_1 n l1 z148)
end
def F67 (n : Nat) (l1 : List D) : Option (Bool) :=
  lenF l1 fun z2 => (if (30 : Int) < z2 then some false else L67_1 n l1 (0 : Int))
set_option maxRecDepth 100000 in
set_option maxHeartbeats 40000000 in
theorem T67 (n : Nat) : ∀ ⦃l1 : List D⦄ ⦃r1 : Bool⦄, F67 n l1 = some r1 →
    Trip Tryd.prog inv 67 [.d (.list true 16 l1)] [] (.v (.d (.bool r1))) [] [] := by
  intro l1 r1 h
  unfold F67 at h
  refine Trip.of tab_ok tab_one fol Tryd.func67 rfl (by kernel_rfl) rfl rfl rfl (fun M hM hI => ?_)
  try cbv
  replace h := lenF_inv M h
  obtain ⟨z2, hz, h⟩ := h
  refine ⟨z2, hz, ?_⟩
  clear hz
  try cbv
  refine splitL (fun e => ?_) (fun e => ?_)
  · replace h := ite_t e h
    clear e
    try cbv
    obtain rfl := Option.some.inj h
    refine fin_go ?_
    try cbv
    exact ⟨[], rfl, rfl, trivial, trivial, trivial⟩
  · replace h := ite_f (Int.not_lt.2 e) h
    clear e
    try cbv
    refine loop_inv (T := Nat × Int) [0, 2, 3] [] 160 (fun t => ⟨[(0, .v (.d (.list true 16 l1))), (2, .v (.d (.bool false))), (3, .v (.d (.int .i64 t.2)))], [], 160⟩)
      (fun t => t.1 ≤ n ∧ L67_1 t.1 l1 t.2 = some r1) (fun t => t.1) (n, (0 : Int)) ⟨Nat.le_refl _, h⟩ (by cbv) ?_
    clear h
    rintro ⟨m1, z3⟩ ⟨hm1, h⟩
    replace hm1 : m1 ≤ n := hm1
    cases m1 with
    | zero => cases (show (none : Option _) = some _ from h)
    | succ m1 =>
      replace h : L67_1 (m1 + 1) l1 z3 = some r1 := h
      rw [L67_1] at h
      try cbv
      replace h := lenF_inv M h
      obtain ⟨z4, hz, h⟩ := h
      refine ⟨z4, hz, ?_⟩
      clear hz
      try cbv
      refine splitL (fun e => ?_) (fun e => ?_)
      · replace h := ite_t e h
        clear e
        try cbv
        replace h := getF_inv h
        obtain ⟨x5, ⟨hx0, hx⟩, h⟩ := h
        refine ⟨x5, hx0, hx, ?_⟩
        clear hx0 hx
        replace h := ds_t82_inv h
        obtain ⟨z6, s7, l8, z9, s10, l11, l12, z13, z14, s15, s16, s17, l18, l19, z20, z21, rfl, h⟩ := h
        try cbv
        refine splitI (fun e => ?_) (fun e => ?_)
        · replace h := ite_t e h
          clear e
          try cbv
          replace h := getF_inv h
          obtain ⟨x22, ⟨hx0, hx⟩, h⟩ := h
          refine ⟨x22, hx0, hx, ?_⟩
          clear hx0 hx
          replace h := ds_t82_inv h
          obtain ⟨z23, s24, l25, z26, s27, l28, l29, z30, z31, s32, s33, s34, l35, l36, z37, z38, rfl, h⟩ := h
          try cbv
          replace h := lenF_inv M h
          obtain ⟨z39, hz, h⟩ := h
          refine ⟨z39, hz, ?_⟩
          clear hz
          try cbv
          refine splitL (fun e => ?_) (fun e => ?_)
          · replace h := ite_t e h
            clear e
            try cbv
            obtain rfl := Option.some.inj h
            refine fin_go ?_
            try cbv
            exact ⟨[], rfl, rfl, trivial, trivial, trivial⟩
          · replace h := ite_f (Int.not_lt.2 e) h
            clear e
            try cbv
            refine loop_inv (T := Nat × Int) [0, 2, 3, 4] [] 1056 (fun t => ⟨[(0, .v (.d (.list true 16 l1))), (2, .v (.d (.bool false))), (3, .v (.d (.int .i64 z3))), (4, .v (.d (.int .i64 t.2)))], [], 1056⟩)
              (fun t => t.1 ≤ m1 ∧ L67_2 t.1 l1 z3 t.2 = some r1) (fun t => t.1) (m1, (0 : Int)) ⟨Nat.le_refl _, h⟩ (by cbv) ?_
            clear h
            rintro ⟨m2, z40⟩ ⟨hm2, h⟩
            replace hm2 : m2 ≤ m1 := hm2
            cases m2 with
            | zero => cases (show (none : Option _) = some _ from h)
            | succ m2 =>
              replace h : L67_2 (m2 + 1) l1 z3 z40 = some r1 := h
              rw [L67_2] at h
              try cbv
              refine splitL (fun e => ?_) (fun e => ?_)
              · replace h := ite_t e h
                clear e
                try cbv
                replace h := getF_inv h
                obtain ⟨x41, ⟨hx0, hx⟩, h⟩ := h
                refine ⟨x41, hx0, hx, ?_⟩
                clear hx0 hx
                replace h := ds_t82_inv h
                obtain ⟨z42, s43, l44, z45, s46, l47, l48, z49, z50, s51, s52, s53, l54, l55, z56, z57, rfl, h⟩ := h
                try cbv
                replace h := getF_inv h
                obtain ⟨x58, ⟨hx0, hx⟩, h⟩ := h
                refine ⟨x58, hx0, hx, ?_⟩
                clear hx0 hx
                replace h := ds_t82_inv h
                obtain ⟨z59, s60, l61, z62, s63, l64, l65, z66, z67, s68, s69, s70, l71, l72, z73, z74, rfl, h⟩ := h
                try cbv
                refine splitS (fun e => ?_) (fun e => ?_)
                · replace h := ite_t (bytes_eq.1 e) h
                  clear e
                  try cbv
                  refine drawn ?_ ?_
                  · show _ = true
                    kernel_rfl
                  try cbv
                  obtain rfl := Option.some.inj h
                  refine fin_go ?_
                  try cbv
                  exact ⟨[], rfl, rfl, trivial, trivial, trivial⟩
                · replace h := ite_f (bytes_ne.1 e) h
                  clear e
                  try cbv
                  refine drawn ?_ ?_
                  · show _ = true
                    kernel_rfl
                  try cbv
                  replace h := letF_inv h
                  obtain ⟨z75, hz, h⟩ := h
                  refine ⟨z75, hz, ?_⟩
                  clear hz
                  try cbv
                  exact loop_next (m2, z75) [0, 2, 3, 4] [] 1056 ⟨by omega, h⟩ (Nat.lt_succ_of_le (by omega)) (by cbv)
              · replace h := ite_f (Int.not_lt.2 e) h
                clear e
                try cbv
                replace h := letF_inv h
                obtain ⟨z76, hz, h⟩ := h
                refine ⟨z76, hz, ?_⟩
                clear hz
                try cbv
                exact loop_next (m2, z76) [0, 2, 3] [] 160 ⟨by omega, h⟩ (Nat.lt_succ_of_le (by omega)) (by cbv)
        · replace h := ite_f e h
          clear e
          try cbv
          replace h := getF_inv h
          obtain ⟨x77, ⟨hx0, hx⟩, h⟩ := h
          refine ⟨x77, hx0, hx, ?_⟩
          clear hx0 hx
          replace h := ds_t82_inv h
          obtain ⟨z78, s79, l80, z81, s82, l83, l84, z85, z86, s87, s88, s89, l90, l91, z92, z93, rfl, h⟩ := h
          try cbv
          refine splitI (fun e => ?_) (fun e => ?_)
          · replace h := ite_t e h
            clear e
            try cbv
            replace h := getF_inv h
            obtain ⟨x94, ⟨hx0, hx⟩, h⟩ := h
            refine ⟨x94, hx0, hx, ?_⟩
            clear hx0 hx
            replace h := ds_t82_inv h
            obtain ⟨z95, s96, l97, z98, s99, l100, l101, z102, z103, s104, s105, s106, l107, l108, z109, z110, rfl, h⟩ := h
            try cbv
            replace h := lenF_inv M h
            obtain ⟨z111, hz, h⟩ := h
            refine ⟨z111, hz, ?_⟩
            clear hz
            try cbv
            refine splitL (fun e => ?_) (fun e => ?_)
            · replace h := ite_t e h
              clear e
              try cbv
              obtain rfl := Option.some.inj h
              refine fin_go ?_
              try cbv
              exact ⟨[], rfl, rfl, trivial, trivial, trivial⟩
            · replace h := ite_f (Int.not_lt.2 e) h
              clear e
              try cbv
              refine loop_inv (T := Nat × Int) [0, 2, 3, 4] [] 1056 (fun t => ⟨[(0, .v (.d (.list true 16 l1))), (2, .v (.d (.bool false))), (3, .v (.d (.int .i64 z3))), (4, .v (.d (.int .i64 t.2)))], [], 1056⟩)
                (fun t => t.1 ≤ m1 ∧ L67_3 t.1 l1 z3 t.2 = some r1) (fun t => t.1) (m1, (0 : Int)) ⟨Nat.le_refl _, h⟩ (by cbv) ?_
              clear h
              rintro ⟨m3, z112⟩ ⟨hm3, h⟩
              replace hm3 : m3 ≤ m1 := hm3
              cases m3 with
              | zero => cases (show (none : Option _) = some _ from h)
              | succ m3 =>
                replace h : L67_3 (m3 + 1) l1 z3 z112 = some r1 := h
                rw [L67_3] at h
                try cbv
                refine splitL (fun e => ?_) (fun e => ?_)
                · replace h := ite_t e h
                  clear e
                  try cbv
                  replace h := getF_inv h
                  obtain ⟨x113, ⟨hx0, hx⟩, h⟩ := h
                  refine ⟨x113, hx0, hx, ?_⟩
                  clear hx0 hx
                  replace h := ds_t82_inv h
                  obtain ⟨z114, s115, l116, z117, s118, l119, l120, z121, z122, s123, s124, s125, l126, l127, z128, z129, rfl, h⟩ := h
                  try cbv
                  replace h := getF_inv h
                  obtain ⟨x130, ⟨hx0, hx⟩, h⟩ := h
                  refine ⟨x130, hx0, hx, ?_⟩
                  clear hx0 hx
                  replace h := ds_t82_inv h
                  obtain ⟨z131, s132, l133, z134, s135, l136, l137, z138, z139, s140, s141, s142, l143, l144, z145, z146, rfl, h⟩ := h
                  try cbv
                  refine splitS (fun e => ?_) (fun e => ?_)
                  · replace h := ite_t (bytes_eq.1 e) h
                    clear e
                    try cbv
                    refine drawn ?_ ?_
                    · show _ = true
                      kernel_rfl
                    try cbv
                    obtain rfl := Option.some.inj h
                    refine fin_go ?_
                    try cbv
                    exact ⟨[], rfl, rfl, trivial, trivial, trivial⟩
                  · replace h := ite_f (bytes_ne.1 e) h
                    clear e
                    try cbv
                    refine drawn ?_ ?_
                    · show _ = true
                      kernel_rfl
                    try cbv
                    replace h := letF_inv h
                    obtain ⟨z147, hz, h⟩ := h
                    refine ⟨z147, hz, ?_⟩
                    clear hz
                    try cbv
                    exact loop_next (m3, z147) [0, 2, 3, 4] [] 1056 ⟨by omega, h⟩ (Nat.lt_succ_of_le (by omega)) (by cbv)
                · replace h := ite_f (Int.not_lt.2 e) h
                  clear e
                  try cbv
                  replace h := letF_inv h
                  obtain ⟨z148, hz, h⟩ := h
                  refine ⟨z148, hz, ?_⟩
                  clear hz
                  try cbv
                  exact loop_next (m3, z148) [0, 2, 3] [] 160 ⟨by omega, h⟩ (Nat.lt_succ_of_le (by omega)) (by cbv)
          · replace h := ite_f e h
            clear e
            try cbv
            obtain rfl := Option.some.inj h
            refine fin_go ?_
            try cbv
            exact ⟨[], rfl, rfl, trivial, trivial, trivial⟩
      · replace h := ite_f (Int.not_lt.2 e) h
        clear e
        try cbv
        obtain rfl := Option.some.inj h
        refine fin_go ?_
        try cbv
        exact ⟨[], rfl, rfl, trivial, trivial, trivial⟩
end Go.Proofs.YtjobleemmjjocaaDoor
end

/- Printed by lift.py: functional texts of functions, and their contracts. No condition. -/
set_option linter.unusedVariables false
noncomputable section
namespace Go.Proofs.YtjobleemmjjocaaDoor
open Go Go.AM
def L68_1 : Nat → (List D) → Int → (List D) → Int → (List D) → Int → Option (Bool)
  | 0, _, _, _, _, _, _ => none
  | n + 1, l1, z2, l3, z4, l9, z12 =>
    lenF l9 fun z13 => (if z12 < z13 then getF l9 z12 fun x14 => ds_t48 x14 fun z15 z16 z17 z18 l19 l20 z21 s22 l23 => bO1 (F34 n l1 z2 l3 z4 z15 z16 z17 z18 l19 l20 z21 s22 l23) fun z24 => (if z24 = (0 : Int) then letF (IntKind.wrap .i64 (z12 + 1)) fun z25 => L68_1 n l1 z2 l3 z4 l9 z25 else some false) else some true)
def F68 (n : Nat) (l1 : List D) (z2 : Int) (l3 : List D) (z4 : Int) : Option (Bool) :=
  getF l1 z4 fun x5 => ds_t56 x5 fun s6 z7 z8 l9 => bO1 (F60 n s6) fun b10 => (if b10 = true then (if z7 < (0 : Int) then some false else (if z8 < z7 then some false else (if (60 : Int) < z8 then some false else lenF l9 fun z11 => (if (4000 : Int) < z11 then some false else L68_1 n l1 z2 l3 z4 l9 (0 : Int))))) else some false)
set_option maxRecDepth 100000 in
set_option maxHeartbeats 40000000 in
theorem T68 (n : Nat) : ∀ ⦃l1 : List D⦄ ⦃z2 : Int⦄ ⦃l3 : List D⦄ ⦃z4 : Int⦄ ⦃r1 : Bool⦄, F68 n l1 z2 l3 z4 = some r1 →
    Trip Tryd.prog inv 68 [.d (.agg [.list true 4 l1, .int .i64 z2, .list true 16 l3]), .d (.int .i64 z4)] [] (.v (.d (.bool r1))) [] [] := by
  intro l1 z2 l3 z4 r1 h
  unfold F68 at h
  refine Trip.of tab_ok tab_one fol Tryd.func68 rfl (by kernel_rfl) rfl rfl rfl (fun M hM hI => ?_)
  try cbv
  replace h := getF_inv h
  obtain ⟨x5, ⟨hx0, hx⟩, h⟩ := h
  refine ⟨x5, hx0, hx, ?_⟩
  clear hx0 hx
  replace h := ds_t56_inv h
  obtain ⟨s6, z7, z8, l9, rfl, h⟩ := h
  try cbv
  replace h := bO1_inv h
  obtain ⟨b10, hr, h⟩ := h
  refine call_go rfl rfl ?_
  try cbv
  refine call_pure hM hI (T60 _ hr) rfl ?_
  clear hr
  try cbv
  cases b10
  · replace h := ite_f Bool.false_ne_true h
    try cbv
    obtain rfl := Option.some.inj h
    refine fin_go ?_
    try cbv
    exact ⟨[], rfl, rfl, trivial, trivial, trivial⟩
  · replace h := ite_t rfl h
    try cbv
    refine splitL (fun e => ?_) (fun e => ?_)
    · replace h := ite_t e h
      clear e
      try cbv
      obtain rfl := Option.some.inj h
      refine fin_go ?_
      try cbv
      exact ⟨[], rfl, rfl, trivial, trivial, trivial⟩
    · replace h := ite_f (Int.not_lt.2 e) h
      clear e
      try cbv
      refine splitL (fun e => ?_) (fun e => ?_)
      · replace h := ite_t e h
        clear e
        try cbv
        obtain rfl := Option.some.inj h
        refine fin_go ?_
        try cbv
        exact ⟨[], rfl, rfl, trivial, trivial, trivial⟩
      · replace h := ite_f (Int.not_lt.2 e) h
        clear e
        try cbv
        refine splitL (fun e => ?_) (fun e => ?_)
        · replace h := ite_t e h
          clear e
          try cbv
          obtain rfl := Option.some.inj h
          refine fin_go ?_
          try cbv
          exact ⟨[], rfl, rfl, trivial, trivial, trivial⟩
        · replace h := ite_f (Int.not_lt.2 e) h
          clear e
          try cbv
          replace h := lenF_inv M h
          obtain ⟨z11, hz, h⟩ := h
          refine ⟨z11, hz, ?_⟩
          clear hz
          try cbv
          refine splitL (fun e => ?_) (fun e => ?_)
          · replace h := ite_t e h
            clear e
            try cbv
            obtain rfl := Option.some.inj h
            refine fin_go ?_
            try cbv
            exact ⟨[], rfl, rfl, trivial, trivial, trivial⟩
          · replace h := ite_f (Int.not_lt.2 e) h
            clear e
            try cbv
            refine loop_inv (T := Nat × Int) [1, 2, 4, 5, 6] [.loc 0, .loc 224] 1184 (fun t => ⟨[(1, .v (.d (.int .i64 z4))), (2, .v (.c (.ptr (.loc 0) 0))), (4, .v (.d (.bool false))), (5, .v (.c (.ptr (.loc 224) 0))), (6, .v (.d (.int .i64 t.2)))], [(.loc 0, .cells [.d (.list true 4 l1), .d (.int .i64 z2), .d (.list true 16 l3)]), (.loc 224, .cells [.d (.str s6), .d (.int .i64 z7), .d (.int .i64 z8), .d (.list true 9 l9)])], 1184⟩)
              (fun t => t.1 ≤ n ∧ L68_1 t.1 l1 z2 l3 z4 l9 t.2 = some r1) (fun t => t.1) (n, (0 : Int)) ⟨Nat.le_refl _, h⟩ (by cbv) ?_
            clear h
            rintro ⟨m1, z12⟩ ⟨hm1, h⟩
            replace hm1 : m1 ≤ n := hm1
            cases m1 with
            | zero => cases (show (none : Option _) = some _ from h)
            | succ m1 =>
              replace h : L68_1 (m1 + 1) l1 z2 l3 z4 l9 z12 = some r1 := h
              rw [L68_1] at h
              try cbv
              replace h := lenF_inv M h
              obtain ⟨z13, hz, h⟩ := h
              refine ⟨z13, hz, ?_⟩
              clear hz
              try cbv
              refine splitL (fun e => ?_) (fun e => ?_)
              · replace h := ite_t e h
                clear e
                try cbv
                replace h := getF_inv h
                obtain ⟨x14, ⟨hx0, hx⟩, h⟩ := h
                refine ⟨x14, hx0, hx, ?_⟩
                clear hx0 hx
                replace h := ds_t48_inv h
                obtain ⟨z15, z16, z17, z18, l19, l20, z21, s22, l23, rfl, h⟩ := h
                try cbv
                replace h := bO1_inv h
                obtain ⟨z24, hr, h⟩ := h
                refine ⟨[], ?_⟩
                try cbv
                refine call_pure hM hI (T34 _ hr) rfl ?_
                clear hr
                try cbv
                refine splitI (fun e => ?_) (fun e => ?_)
                · replace h := ite_t e h
                  clear e
                  try cbv
                  refine drawn ?_ ?_
                  · show _ = true
                    kernel_rfl
                  try cbv
                  replace h := letF_inv h
                  obtain ⟨z25, hz, h⟩ := h
                  refine ⟨z25, hz, ?_⟩
                  clear hz
                  try cbv
                  exact loop_next (m1, z25) [1, 2, 4, 5, 6] [.loc 0, .loc 224] 1184 ⟨by omega, h⟩ (Nat.lt_succ_of_le (by omega)) (by cbv)
                · replace h := ite_f e h
                  clear e
                  try cbv
                  refine drawn ?_ ?_
                  · show _ = true
                    kernel_rfl
                  try cbv
                  obtain rfl := Option.some.inj h
                  refine fin_go ?_
                  try cbv
                  exact ⟨[], rfl, rfl, trivial, trivial, trivial⟩
              · replace h := ite_f (Int.not_lt.2 e) h
                clear e
                try cbv
                obtain rfl := Option.some.inj h
                refine fin_go ?_
                try cbv
                exact ⟨[], rfl, rfl, trivial, trivial, trivial⟩
end Go.Proofs.YtjobleemmjjocaaDoor
end

/- Printed by lift.py: functional texts of functions, and their contracts. No condition. -/
set_option linter.unusedVariables false
noncomputable section
namespace Go.Proofs.YtjobleemmjjocaaDoor
open Go Go.AM
def L40_1 : Nat → (List D) → Int → (List D) → Int → Option (Int)
  | 0, _, _, _, _ => none
  | n + 1, l1, z2, l3, z12 =>
    lenF l1 fun z13 => (if z12 < z13 then bO1 (F68 n l1 z2 l3 z12) fun b14 => (if b14 = true then letF (IntKind.wrap .i64 (z12 + 1)) fun z15 => L40_1 n l1 z2 l3 z15 else some (170 : Int)) else some (0 : Int))
def F40 (n : Nat) (l1 : List D) (z2 : Int) (l3 : List D) : Option (Int) :=
  lenF l1 fun z4 => (if (200 : Int) < z4 then some (170 : Int) else (if z2 < (0 : Int) then some (170 : Int) else lenF l1 fun z5 => (if z5 ≤ z2 then some (170 : Int) else getF l1 z2 fun x6 => ds_t56 x6 fun s7 z8 z9 l10 => (if z8 = (0 : Int) then bO1 (F67 n l3) fun b11 => (if b11 = true then L40_1 n l1 z2 l3 (0 : Int) else some (170 : Int)) else some (170 : Int)))))
set_option maxRecDepth 100000 in
set_option maxHeartbeats 40000000 in
theorem T40 (n : Nat) : ∀ ⦃l1 : List D⦄ ⦃z2 : Int⦄ ⦃l3 : List D⦄ ⦃r1 : Int⦄, F40 n l1 z2 l3 = some r1 →
    Trip Tryd.prog inv 40 [.d (.agg [.list true 4 l1, .int .i64 z2, .list true 16 l3])] [] (.v (.d (.int .i64 r1))) [] [] := by
  intro l1 z2 l3 r1 h
  unfold F40 at h
  refine Trip.of tab_ok tab_one fol Tryd.func40 rfl (by kernel_rfl) rfl rfl rfl (fun M hM hI => ?_)
  try cbv
  replace h := lenF_inv M h
  obtain ⟨z4, hz, h⟩ := h
  refine ⟨z4, hz, ?_⟩
  clear hz
  try cbv
  refine splitL (fun e => ?_) (fun e => ?_)
  · replace h := ite_t e h
    clear e
    try cbv
    obtain rfl := Option.some.inj h
    refine fin_go ?_
    try cbv
    exact ⟨[], rfl, rfl, trivial, trivial, trivial⟩
  · replace h := ite_f (Int.not_lt.2 e) h
    clear e
    try cbv
    refine splitL (fun e => ?_) (fun e => ?_)
    · replace h := ite_t e h
      clear e
      try cbv
      obtain rfl := Option.some.inj h
      refine fin_go ?_
      try cbv
      exact ⟨[], rfl, rfl, trivial, trivial, trivial⟩
    · replace h := ite_f (Int.not_lt.2 e) h
      clear e
      try cbv
      replace h := lenF_inv M h
      obtain ⟨z5, hz, h⟩ := h
      refine ⟨z5, hz, ?_⟩
      clear hz
      try cbv
      refine splitLe (fun e => ?_) (fun e => ?_)
      · replace h := ite_t e h
        clear e
        try cbv
        obtain rfl := Option.some.inj h
        refine fin_go ?_
        try cbv
        exact ⟨[], rfl, rfl, trivial, trivial, trivial⟩
      · replace h := ite_f (Int.not_le.2 e) h
        clear e
        try cbv
        replace h := getF_inv h
        obtain ⟨x6, ⟨hx0, hx⟩, h⟩ := h
        refine ⟨x6, hx0, hx, ?_⟩
        clear hx0 hx
        replace h := ds_t56_inv h
        obtain ⟨s7, z8, z9, l10, rfl, h⟩ := h
        try cbv
        refine splitI (fun e => ?_) (fun e => ?_)
        · replace h := ite_t e h
          clear e
          try cbv
          replace h := bO1_inv h
          obtain ⟨b11, hr, h⟩ := h
          refine call_go rfl rfl ?_
          try cbv
          refine call_pure hM hI (T67 _ hr) rfl ?_
          clear hr
          try cbv
          cases b11
          · replace h := ite_f Bool.false_ne_true h
            try cbv
            obtain rfl := Option.some.inj h
            refine fin_go ?_
            try cbv
            exact ⟨[], rfl, rfl, trivial, trivial, trivial⟩
          · replace h := ite_t rfl h
            try cbv
            refine loop_inv (T := Nat × Int) [1, 2, 3] [.loc 0] 1152 (fun t => ⟨[(1, .v (.c (.ptr (.loc 0) 0))), (2, .v (.d (.int .i64 0))), (3, .v (.d (.int .i64 t.2)))], [(.loc 0, .cells [.d (.list true 4 l1), .d (.int .i64 z2), .d (.list true 16 l3)])], 1152⟩)
              (fun t => t.1 ≤ n ∧ L40_1 t.1 l1 z2 l3 t.2 = some r1) (fun t => t.1) (n, (0 : Int)) ⟨Nat.le_refl _, h⟩ (by cbv) ?_
            clear h
            rintro ⟨m1, z12⟩ ⟨hm1, h⟩
            replace hm1 : m1 ≤ n := hm1
            cases m1 with
            | zero => cases (show (none : Option _) = some _ from h)
            | succ m1 =>
              replace h : L40_1 (m1 + 1) l1 z2 l3 z12 = some r1 := h
              rw [L40_1] at h
              try cbv
              replace h := lenF_inv M h
              obtain ⟨z13, hz, h⟩ := h
              refine ⟨z13, hz, ?_⟩
              clear hz
              try cbv
              refine splitL (fun e => ?_) (fun e => ?_)
              · replace h := ite_t e h
                clear e
                try cbv
                replace h := bO1_inv h
                obtain ⟨b14, hr, h⟩ := h
                refine call_go rfl rfl ?_
                try cbv
                refine call_pure hM hI (T68 _ hr) rfl ?_
                clear hr
                try cbv
                cases b14
                · replace h := ite_f Bool.false_ne_true h
                  try cbv
                  obtain rfl := Option.some.inj h
                  refine fin_go ?_
                  try cbv
                  exact ⟨[], rfl, rfl, trivial, trivial, trivial⟩
                · replace h := ite_t rfl h
                  try cbv
                  replace h := letF_inv h
                  obtain ⟨z15, hz, h⟩ := h
                  refine ⟨z15, hz, ?_⟩
                  clear hz
                  try cbv
                  exact loop_next (m1, z15) [1, 2, 3] [.loc 0] 1152 ⟨by omega, h⟩ (Nat.lt_succ_of_le (by omega)) (by cbv)
              · replace h := ite_f (Int.not_lt.2 e) h
                clear e
                try cbv
                obtain rfl := Option.some.inj h
                refine fin_go ?_
                try cbv
                exact ⟨[], rfl, rfl, trivial, trivial, trivial⟩
        · replace h := ite_f e h
          clear e
          try cbv
          obtain rfl := Option.some.inj h
          refine fin_go ?_
          try cbv
          exact ⟨[], rfl, rfl, trivial, trivial, trivial⟩
end Go.Proofs.YtjobleemmjjocaaDoor
end

/- Printed by lift.py: functional texts of functions, and their contracts. No condition. -/
set_option linter.unusedVariables false
noncomputable section
namespace Go.Proofs.YtjobleemmjjocaaDoor
open Go Go.AM
def F14 (n : Nat) (l1 : List D) (z2 : Int) (l3 : List D) : Option (Bool) :=
  bO1 (F31 n l1 z2 l3) fun b4 => (if b4 = true then some true else bO1 (F39 n l1 z2 l3) fun z5 => bO1 (F40 n l1 z2 l3) fun z6 => (if z5 = z6 then bO1 (F35 n) fun b7 => some b7 else some false))
set_option maxRecDepth 100000 in
set_option maxHeartbeats 40000000 in
theorem T14 (n : Nat) : ∀ ⦃l1 : List D⦄ ⦃z2 : Int⦄ ⦃l3 : List D⦄ ⦃r1 : Bool⦄, F14 n l1 z2 l3 = some r1 →
    Trip Tryd.prog inv 14 [.d (.agg [.list true 4 l1, .int .i64 z2, .list true 16 l3])] [] (.v (.d (.bool r1))) [] [] := by
  intro l1 z2 l3 r1 h
  unfold F14 at h
  refine Trip.of tab_ok tab_one fol Tryd.func14 rfl (by kernel_rfl) rfl rfl rfl (fun M hM hI => ?_)
  try cbv
  replace h := bO1_inv h
  obtain ⟨b4, hr, h⟩ := h
  refine call_go rfl rfl ?_
  try cbv
  refine call_pure hM hI (T31 _ hr) rfl ?_
  clear hr
  try cbv
  cases b4
  · replace h := ite_f Bool.false_ne_true h
    try cbv
    replace h := bO1_inv h
    obtain ⟨z5, hr, h⟩ := h
    refine ⟨[], ?_⟩
    try cbv
    refine call_pure hM hI (T39 _ hr) rfl ?_
    clear hr
    try cbv
    replace h := bO1_inv h
    obtain ⟨z6, hr, h⟩ := h
    refine ⟨[], ?_⟩
    try cbv
    refine call_pure hM hI (T40 _ hr) rfl ?_
    clear hr
    try cbv
    refine splitI (fun e => ?_) (fun e => ?_)
    · replace h := ite_t e h
      clear e
      try cbv
      replace h := bO1_inv h
      obtain ⟨b7, hr, h⟩ := h
      refine ⟨[], ?_⟩
      try cbv
      refine call_pure hM hI (T35 _ hr) rfl ?_
      clear hr
      try cbv
      refine drawn ?_ ?_
      · show _ = true
        kernel_rfl
      try cbv
      obtain rfl := Option.some.inj h
      refine fin_go ?_
      try cbv
      exact ⟨[], rfl, rfl, trivial, trivial, trivial⟩
    · replace h := ite_f e h
      clear e
      try cbv
      refine drawn ?_ ?_
      · show _ = true
        kernel_rfl
      try cbv
      obtain rfl := Option.some.inj h
      refine fin_go ?_
      try cbv
      exact ⟨[], rfl, rfl, trivial, trivial, trivial⟩
  · replace h := ite_t rfl h
    try cbv
    obtain rfl := Option.some.inj h
    refine fin_go ?_
    try cbv
    exact ⟨[], rfl, rfl, trivial, trivial, trivial⟩
end Go.Proofs.YtjobleemmjjocaaDoor
end

/- Chapter 17, the plain law: whether a unit may be. No condition. -/
set_option linter.unusedVariables false
noncomputable section
namespace Go.Proofs.YtjobleemmjjocaaDoor
open Go Go.AM

def nameIs (s : ByteArray) : D → Bool
  | .agg (_ :: .str t :: _) => decide (t = s)
  | _ => false
theorem take_listS {L : List D} {t : TypeId} (h : ListS tab t L) (i : Nat) : ListS tab t (L.take i) := ⟨by have := h.1; simp; omega, fun x hx => h.2 x (List.mem_of_mem_take hx)⟩

theorem ev88 {M : List D} (hM : ListS tab 82 M) (z2 : Int) (s3 : ByteArray) (l4 : List D) (z5 : Int) (s6 : ByteArray) (l7 : List D) (l8 : List D) (z9 : Int) (z10 : Int) (s11 : ByteArray) (s12 : ByteArray) (s13 : ByteArray) (l14 : List D) (l15 : List D) (z16 : Int) (z17 : Int) :
    ∃ r, Ev (fun n => F88 n M z2 s3 l4 z5 s6 l7 l8 z9 z10 s11 s12 s13 l14 l15 z16 z17) (r, z2, s3, l4, z5, s6, l7, l8, z9, z10, s11, s12, s13, l14, l15, z16, z17) ∧ decide (0 ≤ r) = M.any (nameIs s3) := by
  have loop : ∀ i, i ≤ M.length → ∃ r, Ev (fun n => L88_1 n M (M.length : Int) (i : Int) z2 s3 l4 z5 s6 l7 l8 z9 z10 s11 s12 s13 l14 l15 z16 z17) (r, z2, s3, l4, z5, s6, l7, l8, z9, z10, s11, s12, s13, l14, l15, z16, z17) ∧ decide (0 ≤ r) = (M.drop i).any (nameIs s3) := by
    refine down M.length ⟨-1, Ev.succ (by simp [L88_1, Ev.ret]), by simp⟩ (fun i hi ih => ?_)
    obtain ⟨x, hx, hm, hr⟩ := hM.get hi
    obtain ⟨a0, a1, a2, a3, a4, a5, a6, a7, a8, a9, a10, a11, a12, a13, a14, a15, rfl, _⟩ := rs82 hr
    obtain ⟨r, h1, h2⟩ := ih
    rw [any_drop hx]
    by_cases h : a1 = s3
    · refine ⟨i, Ev.succ ?_, by simp [nameIs, h]⟩
      simp only [L88_1, if_pos (ilt hi), getF_nat hx, ds_t82, F78, if_pos h, bO17, if_true]; exact Ev.ret
    · refine ⟨r, Ev.succ ?_, by simpa [nameIs, h] using h2⟩
      simpa only [L88_1, letF, if_pos (ilt hi), getF_nat hx, ds_t82, F78, if_neg h, bO17, if_neg Bool.false_ne_true, wrap_succ hi hM.1] using h1
  obtain ⟨r, h1, h2⟩ := loop 0 (Nat.zero_le _)
  exact ⟨r, by simp only [F88, lenF]; exact h1, by simpa using h2⟩
theorem ev79 {M : List D} (hM : ListS tab 82 M) (z2 : Int) (s3 : ByteArray) (l4 : List D) (z5 : Int) (s6 : ByteArray) (l7 : List D) (l8 : List D) (z9 : Int) (z10 : Int) (s11 : ByteArray) (s12 : ByteArray) (s13 : ByteArray) (l14 : List D) (l15 : List D) (z16 : Int) (z17 : Int) :
    Ev (fun n => F79 n M z2 s3 l4 z5 s6 l7 l8 z9 z10 s11 s12 s13 l14 l15 z16 z17) (M.any (nameIs s3), z2, s3, l4, z5, s6, l7, l8, z9, z10, s11, s12, s13, l14, l15, z16, z17) := by
  obtain ⟨r, ⟨N, h1⟩, h2⟩ := ev88 hM z2 s3 l4 z5 s6 l7 l8 z9 z10 s11 s12 s13 l14 l15 z16 z17
  refine ⟨N, fun n hn => ?_⟩
  replace h1 : F88 n M z2 s3 l4 z5 s6 l7 l8 z9 z10 s11 s12 s13 l14 l15 z16 z17 = _ := h1 n hn
  show F79 n M z2 s3 l4 z5 s6 l7 l8 z9 z10 s11 s12 s13 l14 l15 z16 z17 = _
  unfold F79
  rw [h1, ← h2]
  by_cases h : 0 ≤ r <;> simp [bO17, h]
theorem Ev.bO17 {A1 A2 A3 A4 A5 A6 A7 A8 A9 A10 A11 A12 A13 A14 A15 A16 A17 γ : Type} {A : Nat → Option (A1 × A2 × A3 × A4 × A5 × A6 × A7 × A8 × A9 × A10 × A11 × A12 × A13 × A14 × A15 × A16 × A17)} {p : A1 × A2 × A3 × A4 × A5 × A6 × A7 × A8 × A9 × A10 × A11 × A12 × A13 × A14 × A15 × A16 × A17} {k : Nat → A1 → A2 → A3 → A4 → A5 → A6 → A7 → A8 → A9 → A10 → A11 → A12 → A13 → A14 → A15 → A16 → A17 → Option γ} {r : γ} (ha : Ev A p)
    (hk : Ev (fun n => k n p.1 p.2.1 p.2.2.1 p.2.2.2.1 p.2.2.2.2.1 p.2.2.2.2.2.1 p.2.2.2.2.2.2.1 p.2.2.2.2.2.2.2.1 p.2.2.2.2.2.2.2.2.1 p.2.2.2.2.2.2.2.2.2.1 p.2.2.2.2.2.2.2.2.2.2.1 p.2.2.2.2.2.2.2.2.2.2.2.1 p.2.2.2.2.2.2.2.2.2.2.2.2.1 p.2.2.2.2.2.2.2.2.2.2.2.2.2.1 p.2.2.2.2.2.2.2.2.2.2.2.2.2.2.1 p.2.2.2.2.2.2.2.2.2.2.2.2.2.2.2.1 p.2.2.2.2.2.2.2.2.2.2.2.2.2.2.2.2) r) : Ev (fun n => AM.bO17 (A n) (k n)) r := by
  obtain ⟨N, ha⟩ := ha
  obtain ⟨M, hk⟩ := hk
  exact ⟨N + M, fun n hn => by simp only [ha n (by omega)]; exact hk n (by omega)⟩

/-- The two texts on a unit's types. -/
theorem agTypes {l3 : List D} (hT : ListS tab 82 l3) : ∃ r, Ev (fun n => F66 n l3) r ∧ Ev (fun n => F67 n l3) r := by
  have loop : ∀ i, i ≤ l3.length → ∃ r, Ev (fun n => L66_1 n l3 (l3.length : Int) (i : Int)) r ∧ Ev (fun n => L67_1 n l3 (i : Int)) r := by
    refine down l3.length ⟨true, Ev.succ (by simp [L66_1, Ev.ret]), Ev.succ (by simp [L67_1, lenF, Ev.ret])⟩ (fun i hi ih => ?_)
    obtain ⟨x, hx, hm, hr⟩ := hT.get hi
    obtain ⟨a0, a1, a2, a3, a4, a5, a6, a7, a8, a9, a10, a11, a12, a13, a14, a15, rfl, _⟩ := rs82 hr
    obtain ⟨r, h1, h2⟩ := ih
    have e79 := ev79 (take_listS hT i) a0 a1 a2 a3 a4 a5 a6 a7 a8 a9 a10 a11 a12 a13 a14 a15
    have slice : ∀ {γ : Type} (k : List D → Option γ), sliceF l3 (0 : Int) (i : Int) k = k (l3.take i) := fun k => by
      unfold sliceF
      rw [if_pos ⟨Int.le_refl _, by omega, by omega⟩]
      simp
    have fwd : Ev (fun n => AM.bO17 (F79 n (l3.take i) a0 a1 a2 a3 a4 a5 a6 a7 a8 a9 a10 a11 a12 a13 a14 a15) fun b24 z25 s26 l27 z28 s29 l30 l31 z32 z33 s34 s35 s36 l37 l38 z39 z40 => (if b24 = true then some false else letF (IntKind.wrap .i64 ((i : Int) + 1)) fun z41 => L66_1 n l3 (l3.length : Int) z41)) (!(l3.take i).any (nameIs a1) && r) := by
      refine Ev.bO17 e79 ?_
      cases (l3.take i).any (nameIs a1)
      · simpa only [if_neg Bool.false_ne_true, letF, wrap_succ hi hT.1, Bool.not_false, Bool.true_and] using h1
      · simp only [if_true, Bool.not_true, Bool.false_and]; exact Ev.ret
    have inner2 : ∀ j, j ≤ i → Ev (fun n => L67_2 n l3 (i : Int) (j : Int)) (!((l3.take i).drop j).any (nameIs a1) && r) := by
      refine down i (Ev.succ ?_) (fun j hj ihj => Ev.succ ?_)
      · have : ((l3.take i).drop i) = [] := List.drop_eq_nil_of_le (by simp; omega)
        rw [this]
        simpa only [L67_2, Int.lt_irrefl, if_false, letF, wrap_succ hi hT.1, List.any_nil, Bool.not_false, Bool.true_and] using h2
      · obtain ⟨y, hy, _, hry⟩ := hT.get (show j < l3.length by omega)
        obtain ⟨b0, b1, b2, b3, b4, b5, b6, b7, b8, b9, b10, b11, b12, b13, b14, b15, rfl, _⟩ := rs82 hry
        have hy' : (l3.take i)[j]? = some (.agg [.int .u8 b0, .str b1, .list true 4 b2, .int .u8 b3, .str b4, .list true 3 b5, .list true 15 b6, .int .u8 b7, .int .i64 b8, .str b9, .str b10, .str b11, .list false 1 b12, .list true 8 b13, .int .i64 b14, .int .i64 b15]) := by
          rw [List.getElem?_take_of_lt hj]; exact hy
        rw [any_drop hy']
        by_cases h : b1 = a1
        · simp only [L67_2, if_pos (ilt hj), getF_nat hy, getF_nat hx, ds_t82, if_pos h, nameIs, h, decide_true, Bool.true_or, Bool.not_true, Bool.false_and]; exact Ev.ret
        · simpa only [L67_2, letF, if_pos (ilt hj), getF_nat hy, getF_nat hx, ds_t82, if_neg h, nameIs, h, if_false, decide_false, Bool.false_or, wrap_succ hj (show i ≤ maxLen from Nat.le_trans (Nat.le_of_lt hi) hT.1)] using ihj
    have inner3 : ∀ j, j ≤ i → Ev (fun n => L67_3 n l3 (i : Int) (j : Int)) (!((l3.take i).drop j).any (nameIs a1) && r) := by
      refine down i (Ev.succ ?_) (fun j hj ihj => Ev.succ ?_)
      · have : ((l3.take i).drop i) = [] := List.drop_eq_nil_of_le (by simp; omega)
        rw [this]
        simpa only [L67_3, Int.lt_irrefl, if_false, letF, wrap_succ hi hT.1, List.any_nil, Bool.not_false, Bool.true_and] using h2
      · obtain ⟨y, hy, _, hry⟩ := hT.get (show j < l3.length by omega)
        obtain ⟨b0, b1, b2, b3, b4, b5, b6, b7, b8, b9, b10, b11, b12, b13, b14, b15, rfl, _⟩ := rs82 hry
        have hy' : (l3.take i)[j]? = some (.agg [.int .u8 b0, .str b1, .list true 4 b2, .int .u8 b3, .str b4, .list true 3 b5, .list true 15 b6, .int .u8 b7, .int .i64 b8, .str b9, .str b10, .str b11, .list false 1 b12, .list true 8 b13, .int .i64 b14, .int .i64 b15]) := by
          rw [List.getElem?_take_of_lt hj]; exact hy
        rw [any_drop hy']
        by_cases h : b1 = a1
        · simp only [L67_3, if_pos (ilt hj), getF_nat hy, getF_nat hx, ds_t82, if_pos h, nameIs, h, decide_true, Bool.true_or, Bool.not_true, Bool.false_and]; exact Ev.ret
        · simpa only [L67_3, letF, if_pos (ilt hj), getF_nat hy, getF_nat hx, ds_t82, if_neg h, nameIs, h, if_false, decide_false, Bool.false_or, wrap_succ hj (show i ≤ maxLen from Nat.le_trans (Nat.le_of_lt hi) hT.1)] using ihj
    have i2 := inner2 0 (Nat.zero_le _)
    have i3 := inner3 0 (Nat.zero_le _)
    rw [List.drop_zero] at i2 i3
    by_cases g : 6 < (a2.length : Int)
    · by_cases k1 : a0 = 1
      · refine ⟨false, Ev.succ ?_, Ev.succ ?_⟩
        · simp only [L66_1, lenF, if_pos (ilt hi), getF_nat hx, ds_t82, if_pos k1, if_pos g]; exact Ev.ret
        · simp only [L67_1, lenF, if_pos (ilt hi), getF_nat hx, ds_t82, if_pos k1, if_pos g]; exact Ev.ret
      · by_cases k2 : a0 = 2
        · refine ⟨false, Ev.succ ?_, Ev.succ ?_⟩
          · simp only [L66_1, lenF, if_pos (ilt hi), getF_nat hx, ds_t82, if_neg k1, if_pos k2, if_pos g]; exact Ev.ret
          · simp only [L67_1, lenF, if_pos (ilt hi), getF_nat hx, ds_t82, if_neg k1, if_pos k2, if_pos g]; exact Ev.ret
        · refine ⟨false, Ev.succ ?_, Ev.succ ?_⟩
          · simp only [L66_1, lenF, if_pos (ilt hi), getF_nat hx, ds_t82, if_neg k1, if_neg k2]; exact Ev.ret
          · simp only [L67_1, lenF, if_pos (ilt hi), getF_nat hx, ds_t82, if_neg k1, if_neg k2]; exact Ev.ret
    · by_cases k1 : a0 = 1
      · refine ⟨!(l3.take i).any (nameIs a1) && r, Ev.succ ?_, Ev.succ ?_⟩
        rotate_left
        · simp only [L67_1, lenF, if_pos (ilt hi), getF_nat hx, ds_t82, if_pos k1, if_neg g]; exact i2
        · simp only [L66_1, lenF, if_pos (ilt hi), getF_nat hx, ds_t82, if_pos k1, if_neg g, slice]; exact fwd
      · by_cases k2 : a0 = 2
        · refine ⟨!(l3.take i).any (nameIs a1) && r, Ev.succ ?_, Ev.succ ?_⟩
          rotate_left
          · simp only [L67_1, lenF, if_pos (ilt hi), getF_nat hx, ds_t82, if_neg k1, if_pos k2, if_neg g]; exact i3
          · simp only [L66_1, lenF, if_pos (ilt hi), getF_nat hx, ds_t82, if_neg k1, if_pos k2, if_neg g, slice]; exact fwd
        · refine ⟨false, Ev.succ ?_, Ev.succ ?_⟩
          · simp only [L66_1, lenF, if_pos (ilt hi), getF_nat hx, ds_t82, if_neg k1, if_neg k2]; exact Ev.ret
          · simp only [L67_1, lenF, if_pos (ilt hi), getF_nat hx, ds_t82, if_neg k1, if_neg k2]; exact Ev.ret
  obtain ⟨r, h1, h2⟩ := loop 0 (Nat.zero_le _)
  by_cases g : 30 < (l3.length : Int)
  · exact ⟨false, by simp only [F66, lenF, if_pos g]; exact Ev.ret, by simp only [F67, lenF, if_pos g]; exact Ev.ret⟩
  · exact ⟨r, by simp only [F66, lenF, if_neg g]; exact h1, by simp only [F67, lenF, if_neg g]; exact h2⟩

/-- What a function's head may be. -/
def hdB : D → Bool
  | .agg [.str s, .int _ p, .int _ sl, .list _ _ cd] => okName s && !decide (p < 0) && !decide (sl < p) && !decide (60 < sl) && !decide (4000 < (cd.length : Int))
  | _ => false
def okI (l1 : List D) (k : Nat) : D → Bool
  | .agg [.int _ op, .int _ a, .int _ b, .int _ c, .list _ _ l9, .list _ _ l10, .int _ i, .str s12, .list _ _ l13] => okIns l1 k op a b c l9 l10 i s12 l13
  | _ => false
def codeOf : D → List D
  | .agg [_, _, _, .list _ _ cd] => cd
  | _ => []
def fnsB (l1 : List D) : Nat → List D → Bool
  | _, [] => true
  | k, x :: r => hdB x && (codeOf x).all (okI l1 k) && fnsB l1 (k + 1) r
theorem fnsB_drop (l1 : List D) {L : List D} {i : Nat} {x : D} (h : L[i]? = some x) : fnsB l1 i (L.drop i) = (hdB x && (codeOf x).all (okI l1 i) && fnsB l1 (i + 1) (L.drop (i + 1))) := by
  obtain ⟨hi, rfl⟩ := List.getElem?_eq_some_iff.1 h
  rw [List.drop_eq_getElem_cons hi]
  rfl

theorem rc_true : rc true = 0 := rfl
theorem rc_false : rc false = 170 := rfl
theorem ev39fns {l1 : List D} (hF : ListS tab 56 l1) (z2 : Int) (l3 : List D) : ∀ i, i ≤ l1.length → Ev (fun n => L39_1 n l1 z2 l3 (l1.length : Int) (i : Int)) (rc (fnsB l1 i (l1.drop i))) := by
  refine down l1.length (Ev.succ (by simp [L39_1, Ev.ret, fnsB, rc])) (fun i hi ih => ?_)
  obtain ⟨x, hx, hm, hr⟩ := hF.get hi
  obtain ⟨s, p, sl, cd, rfl, _, _, _, hc⟩ := rs56 hr
  rw [fnsB_drop l1 hx]
  have loop : ∀ j, j ≤ cd.length → Ev (fun n => L39_2 n l1 z2 l3 (l1.length : Int) (i : Int) cd (cd.length : Int) (j : Int)) (rc ((cd.drop j).all (okI l1 i) && fnsB l1 (i + 1) (l1.drop (i + 1)))) := by
    refine down cd.length (Ev.succ ?_) (fun j hj ihj => Ev.succ ?_)
    · simpa only [L39_2, Int.lt_irrefl, if_false, letF, wrap_succ hi hF.1, List.drop_length, List.all_nil, Bool.true_and] using ih
    · obtain ⟨y, hy, _, hry⟩ := hc.get hj
      obtain ⟨b0, b1, b2, b3, b4, b5, b6, b7, b8, rfl, w0, _, _, _, w4, w5, _⟩ := rs48 hry
      rw [all_drop hy]
      have e := ev33a hF (u8_range w0).1 (u8_range w0).2 w4 w5 (a := b1) (b := b2) (c := b3) (i := b6) (s12 := b7) (l13 := b8) z2 l3 (i : Int)
      have e2 : okI l1 i (.agg [.int .u8 b0, .int .i64 b1, .int .i64 b2, .int .i64 b3, .list false 1 b4, .list false 1 b5, .int .i64 b6, .str b7, .list false 1 b8]) = okIns l1 i b0 b1 b2 b3 b4 b5 b6 b7 b8 := rfl
      rw [e2]
      simp only [L39_2, letF, if_pos (ilt hj), getF_nat hy, ds_t48, wrap_succ hj hc.1]
      refine Ev.bO1 e ?_
      cases okIns l1 i b0 b1 b2 b3 b4 b5 b6 b7 b8
      · simp only [rc_false, if_neg (show ¬ (170 : Int) = 0 by decide), Bool.false_and]; exact Ev.ret
      · simpa only [rc_true, if_true, Bool.true_and] using ihj
  have l0 := loop 0 (Nat.zero_le _)
  rw [List.drop_zero] at l0
  refine Ev.succ ?_
  simp only [L39_1, lenF, if_pos (ilt hi), getF_nat hx, ds_t56, e53, bO1, hdB, codeOf]
  cases okName s
  · simp only [if_neg Bool.false_ne_true, Bool.false_and, rc_false]; exact Ev.ret
  by_cases g1 : p < 0
  · simp only [if_true, if_pos g1, g1, decide_true, Bool.not_true, Bool.and_false, Bool.false_and, rc_false]; exact Ev.ret
  by_cases g2 : sl < p
  · simp only [if_true, if_neg g1, if_pos g2, g2, decide_true, Bool.not_true, Bool.and_false, Bool.false_and, rc_false]; exact Ev.ret
  by_cases g3 : 60 < sl
  · simp only [if_true, if_neg g1, if_neg g2, if_pos g3, g3, decide_true, Bool.not_true, Bool.and_false, Bool.false_and, rc_false]; exact Ev.ret
  by_cases g4 : 4000 < (cd.length : Int)
  · simp only [if_true, if_neg g1, if_neg g2, if_neg g3, if_pos g4, g4, decide_true, Bool.not_true, Bool.and_false, Bool.false_and, rc_false]; exact Ev.ret
  simp only [if_true, if_neg g1, if_neg g2, if_neg g3, if_neg g4, g1, g2, g3, g4, decide_false, Bool.not_false, Bool.true_and]; exact l0

theorem ev68 {l1 : List D} (hF : ListS tab 56 l1) (z2 : Int) (l3 : List D) {i : Nat} {x : D} (hx : l1[i]? = some x) (hr : RowS tab 56 x) : Ev (fun n => F68 n l1 z2 l3 (i : Int)) (hdB x && (codeOf x).all (okI l1 i)) := by
  obtain ⟨s, p, sl, cd, rfl, _, _, _, hc⟩ := rs56 hr
  have loop : ∀ j, j ≤ cd.length → Ev (fun n => L68_1 n l1 z2 l3 (i : Int) cd (j : Int)) ((cd.drop j).all (okI l1 i)) := by
    refine down cd.length (Ev.succ (by simp [L68_1, lenF, Ev.ret])) (fun j hj ihj => Ev.succ ?_)
    obtain ⟨y, hy, _, hry⟩ := hc.get hj
    obtain ⟨b0, b1, b2, b3, b4, b5, b6, b7, b8, rfl, w0, _, _, _, w4, w5, _⟩ := rs48 hry
    rw [all_drop hy]
    have e := ev34a hF (u8_range w0).1 (u8_range w0).2 w4 w5 (a := b1) (b := b2) (c := b3) (i := b6) (s12 := b7) (l13 := b8) z2 l3 (i : Int)
    have e2 : okI l1 i (.agg [.int .u8 b0, .int .i64 b1, .int .i64 b2, .int .i64 b3, .list false 1 b4, .list false 1 b5, .int .i64 b6, .str b7, .list false 1 b8]) = okIns l1 i b0 b1 b2 b3 b4 b5 b6 b7 b8 := rfl
    rw [e2]
    simp only [L68_1, lenF, letF, if_pos (ilt hj), getF_nat hy, ds_t48, wrap_succ hj hc.1]
    refine Ev.bO1 e ?_
    cases okIns l1 i b0 b1 b2 b3 b4 b5 b6 b7 b8
    · simp only [rc_false, if_neg (show ¬ (170 : Int) = 0 by decide), Bool.false_and]; exact Ev.ret
    · simpa only [rc_true, if_true, Bool.true_and] using ihj
  have l0 := loop 0 (Nat.zero_le _)
  rw [List.drop_zero] at l0
  simp only [F68, lenF, getF_nat hx, ds_t56, e60, bO1, hdB, codeOf]
  cases okName s
  · simp only [if_neg Bool.false_ne_true, Bool.false_and]; exact Ev.ret
  by_cases g1 : p < 0
  · simp only [if_true, if_pos g1, g1, decide_true, Bool.not_true, Bool.and_false, Bool.false_and]; exact Ev.ret
  by_cases g2 : sl < p
  · simp only [if_true, if_neg g1, if_pos g2, g2, decide_true, Bool.not_true, Bool.and_false, Bool.false_and]; exact Ev.ret
  by_cases g3 : 60 < sl
  · simp only [if_true, if_neg g1, if_neg g2, if_pos g3, g3, decide_true, Bool.not_true, Bool.and_false, Bool.false_and]; exact Ev.ret
  by_cases g4 : 4000 < (cd.length : Int)
  · simp only [if_true, if_neg g1, if_neg g2, if_neg g3, if_pos g4, g4, decide_true, Bool.not_true, Bool.and_false, Bool.false_and]; exact Ev.ret
  simp only [if_true, if_neg g1, if_neg g2, if_neg g3, if_neg g4, g1, g2, g3, g4, decide_false, Bool.not_false, Bool.true_and]; exact l0
theorem ev40fns {l1 : List D} (hF : ListS tab 56 l1) (z2 : Int) (l3 : List D) : ∀ i, i ≤ l1.length → Ev (fun n => L40_1 n l1 z2 l3 (i : Int)) (rc (fnsB l1 i (l1.drop i))) := by
  refine down l1.length (Ev.succ (by simp [L40_1, lenF, Ev.ret, fnsB, rc])) (fun i hi ih => ?_)
  obtain ⟨x, hx, hm, hr⟩ := hF.get hi
  rw [fnsB_drop l1 hx]
  refine Ev.succ ?_
  simp only [L40_1, lenF, letF, if_pos (ilt hi), wrap_succ hi hF.1]
  refine Ev.bO1 (ev68 hF z2 l3 hx hr) ?_
  cases hdB x && (codeOf x).all (okI l1 i)
  · simp only [if_neg Bool.false_ne_true, Bool.false_and, rc_false]; exact Ev.ret
  · simpa only [if_true, Bool.true_and] using ih

def par0 : Option D → Bool
  | some (.agg [_, .int _ p, _, _]) => decide (p = 0)
  | _ => false
/-- Whether a unit may be: with the types' answer T. -/
def mayB (l1 : List D) (z2 : Int) (T : Bool) : Bool := !decide (200 < (l1.length : Int)) && !decide (z2 < 0) && !decide ((l1.length : Int) ≤ z2) &&
  par0 l1[z2.toNat]? && T && fnsB l1 0 l1

theorem ev39 {l1 : List D} (hF : ListS tab 56 l1) (z2 : Int) {l3 : List D} {T : Bool} (hT : Ev (fun n => F66 n l3) T) : Ev (fun n => F39 n l1 z2 l3) (rc (mayB l1 z2 T)) := by
  simp only [F39, lenF]
  unfold mayB
  by_cases g1 : 200 < (l1.length : Int)
  · simp only [if_pos g1, g1, decide_true, Bool.not_true, Bool.false_and, rc_false]; exact Ev.ret
  by_cases g2 : z2 < 0
  · simp only [if_neg g1, if_pos g2, g2, decide_true, Bool.not_true, Bool.and_false, Bool.false_and, rc_false]; exact Ev.ret
  by_cases g3 : (l1.length : Int) ≤ z2
  · simp only [if_neg g1, if_neg g2, if_pos g3, g3, decide_true, Bool.not_true, Bool.and_false, Bool.false_and, rc_false]; exact Ev.ret
  obtain ⟨k, rfl⟩ : ∃ k : Nat, z2 = k := ⟨z2.toNat, by omega⟩
  obtain ⟨x, hx, hm, hr⟩ := hF.get (i := k) (by omega)
  obtain ⟨s, p, sl, cd, rfl, _⟩ := rs56 hr
  simp only [if_neg g1, if_neg g2, if_neg g3, getF_nat hx, ds_t56, Int.toNat_natCast, hx, par0, g1, g2, g3, decide_false, Bool.not_false, Bool.true_and]
  by_cases g4 : p = 0
  rotate_left
  · simp only [if_neg g4, g4, decide_false, Bool.false_and, rc_false]; exact Ev.ret
  simp only [if_pos g4, g4, decide_true, Bool.true_and]
  refine Ev.bO1 hT ?_
  cases T
  · simp only [if_neg Bool.false_ne_true, Bool.false_and, rc_false]; exact Ev.ret
  · simp only [if_true, Bool.true_and]
    have := ev39fns hF (k : Int) l3 0 (Nat.zero_le _)
    rw [List.drop_zero] at this
    exact this
theorem ev40 {l1 : List D} (hF : ListS tab 56 l1) (z2 : Int) {l3 : List D} {T : Bool} (hT : Ev (fun n => F67 n l3) T) : Ev (fun n => F40 n l1 z2 l3) (rc (mayB l1 z2 T)) := by
  simp only [F40, lenF]
  unfold mayB
  by_cases g1 : 200 < (l1.length : Int)
  · simp only [if_pos g1, g1, decide_true, Bool.not_true, Bool.false_and, rc_false]; exact Ev.ret
  by_cases g2 : z2 < 0
  · simp only [if_neg g1, if_pos g2, g2, decide_true, Bool.not_true, Bool.and_false, Bool.false_and, rc_false]; exact Ev.ret
  by_cases g3 : (l1.length : Int) ≤ z2
  · simp only [if_neg g1, if_neg g2, if_pos g3, g3, decide_true, Bool.not_true, Bool.and_false, Bool.false_and, rc_false]; exact Ev.ret
  obtain ⟨k, rfl⟩ : ∃ k : Nat, z2 = k := ⟨z2.toNat, by omega⟩
  obtain ⟨x, hx, hm, hr⟩ := hF.get (i := k) (by omega)
  obtain ⟨s, p, sl, cd, rfl, _⟩ := rs56 hr
  simp only [if_neg g1, if_neg g2, if_neg g3, getF_nat hx, ds_t56, Int.toNat_natCast, hx, par0, g1, g2, g3, decide_false, Bool.not_false, Bool.true_and]
  by_cases g4 : p = 0
  rotate_left
  · simp only [if_neg g4, g4, decide_false, Bool.false_and, rc_false]; exact Ev.ret
  simp only [if_pos g4, g4, decide_true, Bool.true_and]
  refine Ev.bO1 hT ?_
  cases T
  · simp only [if_neg Bool.false_ne_true, Bool.false_and, rc_false]; exact Ev.ret
  · simp only [if_true, Bool.true_and]
    have := ev40fns hF (k : Int) l3 0 (Nat.zero_le _)
    rw [List.drop_zero] at this
    exact this

/-- CodeMay. -/
theorem code_may_law {l1 : List D} (hF : ListS tab 56 l1) (z2 : Int) {l3 : List D} (hT : ListS tab 82 l3) : Ev (fun n => F14 n l1 z2 l3) true := by
  obtain ⟨r, hr⟩ := tot31 hF z2 hT
  obtain ⟨T, t1, t2⟩ := agTypes hT
  unfold F14
  refine Ev.bO1 hr ?_
  cases r
  rotate_left
  · simp only [if_true]; exact Ev.ret
  simp only [if_neg Bool.false_ne_true]
  refine Ev.bO1 (ev39 hF z2 t1) (Ev.bO1 (ev40 hF z2 t2) ?_)
  simp only [if_true]
  exact Ev.bO1 ev35 Ev.ret
theorem code_may_trip : ∀ xs : List D, Shapes tab [45] xs → Trip Tryd.prog inv 14 (xs.map V1.d) [] (.v (.d (.bool true))) [] [] := by
  intro xs h
  match xs, h with
  | [u], ⟨u1, u2, _⟩ =>
    obtain ⟨l1, z2, l3, rfl, hF, _, hT⟩ := rs45 ⟨u1, u2⟩
    obtain ⟨n, hn⟩ := (code_may_law hF z2 hT).run
    exact T14 n hn
end Go.Proofs.YtjobleemmjjocaaDoor
end

/- CodeMay holds: whether a unit may be is what the chapter says. No condition. -/
namespace Go.Proofs.YtjobleemmjjocaaDoor
open Go Go.ChangeShapes Go.WideShapes Go.ChangeAt Go.RowKit Go.AM

theorem code_may_reads : ∀ t ∈ [45], Tryd.prog.readableRec t = true ∧ t < Tryd.prog.types.size := by
  have h : ([45].all fun t => Tryd.prog.readableRec t && decide (t < Tryd.prog.types.size)) = true := by kernel_rfl
  intro t ht
  have := List.all_eq_true.1 h t ht
  simpa using this

/-- What the row knows of the library's table. -/
theorem code_may_inv {W : World} (h : laidMet Tryd.prog Rows.codeMayRow.laid W) : inv.at W fun _ _ => False := by
  have e : (Rows.codeMayRow.laid.filter fun x => x.1 == "internal/strconv.uint64pow10") = [("internal/strconv.uint64pow10", Lib.tabData .u64 Lib.pow10Tab)] := by kernel_rfl
  have h2 := laidMet.filter (fun x => x.1 == "internal/strconv.uint64pow10") h
  rw [e] at h2
  have ht : Lib.TabIs Tryd.prog W "internal/strconv.uint64pow10" .u64 Lib.pow10Tab := by
    exact Lib.tabIs_of_head (g := 0) (t := 138) (e := 35) (n := 20) (by kernel_rfl) (by kernel_rfl) (by kernel_rfl) (by kernel_rfl) (by kernel_rfl) (by kernel_rfl) h2
  refine ⟨ht, fun b hb => ⟨?_, fun _ h => h⟩⟩
  have hb : Tryd.prog.globalNamed "internal/strconv.uint64pow10" = some b := hb
  unfold Lib.TabIs World.var? at ht
  rw [hb] at ht
  simp only [Option.bind_some] at ht
  cases hx : W.heap[b]? with
  | none => rw [hx] at ht; simp at ht
  | some o => exact (Array.getElem?_eq_some_iff.1 hx).1

set_option maxRecDepth 100000 in
theorem code_may_lifted (os : Os) (started : os.Started) (H : Type) (enc : TypeId × Value → H) :
    ReturnsInHanded {} Tryd.checked os 14 .any (fun w args => (Rows.codeMaySpec.pre enc Tryd.prog Tryd.f14 Rows.codeMayRow.domain false w args ∧ laidMetH Tryd.prog Rows.codeMayRow.laid w) ∧ sizedMet enc Tryd.prog Tryd.f14 (OpenSpec.ofChange Rows.codeMaySpec) false w args)
      (Rows.codeMaySpec.post enc Tryd.prog Tryd.f14 false true false false) := by
  refine returnsInHanded_of_change_and (C := Tryd.checked) (X := fun w _ => laidMetH Tryd.prog Rows.codeMayRow.laid w) (fun _ _ _ hh h => h.of_heap hh) (by kernel_rfl) started (by kernel_rfl) Tryd.func14
    (ChangeSpec.witness_shaped (enc := enc) (C := Tryd.checked) (os := os) (X := fun w _ => laidMetH Tryd.prog Rows.codeMayRow.laid w) false (World.laidAll Tryd.prog os Rows.codeMayRow.laid) #[.agg #[.slice none 0 0, .int .i64 0, .slice none 0 0]] 8 (World.laidAll_os _ _ _)
      (World.shaped_of_ZipB (by kernel_rfl) (by kernel_rfl)) (by kernel_rfl) (by kernel_rfl) (by kernel_rfl)
      (by rw [MakeChecks.laidMetH_plain _ _ _ (by kernel_rfl)]; exact laidMet_laidAll _ (by kernel_rfl) (by kernel_rfl))) ?_
  intro W base args ds gs before hval0 hW _ _ hL _
  rw [MakeChecks.laidMetH_plain _ _ _ (by kernel_rfl)] at hL
  refine law_calls (ti := tab) (T := [2, 3, 5, 9, 30, 42, 43, 45, 46, 48, 54, 56, 71, 72, 74, 75, 77, 78, 80, 82, 98, 162, 164, 166]) tab_ok (by kernel_rfl) (ts := [45]) (bt := 4) rfl rfl rfl (by kernel_rfl) (by decide) ?_ (by kernel_rfl) code_may_reads code_may_trip (code_may_inv hL) hval0 hW
  intro ds h
  match ds, h with
  | [_], _ => exact ⟨rfl, rfl, rfl⟩
theorem code_may_row : Rows.CodeMaySaid :=
  OpenClaim.holds_of_wide 14 Tryd.f14 rfl rfl rfl rfl rfl rfl rfl ⟨rfl, rfl, rfl, rfl, rfl⟩ rfl rfl rfl rfl rfl (by kernel_rfl) Tryd.func14 (by kernel_rfl)
    (of_decide_eq_true (by kernel_rfl)) (by unfold Func.isWrapper; first | (rw [if_pos (by decide +kernel)]; kernel_rfl) | (rw [if_neg (by decide +kernel)]; exact ⟨rfl, rfl⟩))
    (fun os started H enc _ => code_may_lifted os started H enc)
theorem code_may : Rows.CodeMayCardSaid :=
  Claim7.holds_tied_plain_at .later [] [.data, .data, .data] true Rows.codeMayCard.stood.harness false code_may_row (fun _ h => by cases h) (by kernel_rfl) (fun _ h => by cases h) codeMay_row_tie rfl ⟨rfl, rfl⟩ (by kernel_rfl) rfl
    (fun f fn hf hfn => by
      obtain rfl : f = 14 := Option.some.inj ((show Tryd.prog.funcNamed "weftway/weftwaylaw17.CodeMay" = some 14 by kernel_rfl).symm.trans hf) |>.symm
      obtain rfl : fn = Tryd.f14 := (Option.some.inj (Tryd.func14.symm.trans hfn)).symm
      exact ⟨by kernel_rfl, fun j t ht => by
        have hm : t ∈ [45] := by
          have hp : Tryd.f14.params.toList = [45] := rfl
          rw [← hp]; simpa using Array.mem_of_getElem? ht
        have hall : ([45].all fun u => !Tryd.prog.wantsStandIn u) = true := by kernel_rfl
        exact (show Tryd.prog.wantsStandIn t = false by simpa using List.all_eq_true.1 hall t hm)⟩)
    (by kernel_rfl)
end Go.Proofs.YtjobleemmjjocaaDoor
