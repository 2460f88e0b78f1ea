/- Contracts of the functions that TraceLimits reaches, its plain law, its card. No condition. (Part 5: YtjobleemmjjocaaDoorX48, YtjobleemmjjocaaDoorX25, YtjobleemmjjocaaDoorX22, YtjobleemmjjocaaDoorX27, YtjobleemmjjocaaDoorX49, YtjobleemmjjocaaDoorX28, YtjobleemmjjocaaDoorX29, YtjobleemmjjocaaDoorX30, YtjobleemmjjocaaDoorX9, AmR, TrA, YtjobleemmjjocaaDoorX41, YtjobleemmjjocaaDoorX18, Ytjobleemmjjocaa.) -/
import Derived.Carry
import Derived.ChangeSame
import Derived.ChangeOld
import Derived.ChangeCalls
import Derived.WideShapes
import Derived.Test.YtjobleemmjjocaaDoorRows
import Derived.Test.YtjobleemmjjocaaDoorTie
import Derived.Test.YtjobleemmjjocaaDoorCards
import Derived.JoinedOf
import Derived.JoinedAt
import Derived.RowKit
import Derived.RowKit2
import Derived.ReadAgain
import Derived.ChangeAlike
import Derived.Lay
import Derived.Handed
import Derived.LaidSub
import Derived.LaidLaws
import Derived.LaidHandle
import Derived.MakeChecks
import Derived.SevenTiedAt
import Derived.Lib.LaidTab
import Derived.Lib.LaidU8
import Derived.Test.YtjobleemmjjocaaDoorTliD
set_option linter.unusedVariables false
set_option linter.unusedSimpArgs false
/- Printed by lift.py: functional texts of functions, and their contracts. No condition. -/
set_option linter.unusedVariables false
noncomputable section
namespace Go.Proofs.YtjobleemmjjocaaDoor
open Go Go.AM
def F48 (n : Nat) (l1 : List D) (l2 : List D) : Option (Bool) :=
  lenF l1 fun z3 => lenF l2 fun z4 => (if z3 ≤ z4 then lenF l1 fun z5 => sliceF l2 (0 : Int) z5 fun l6 => bO1 (F50 n l1 l6) fun b7 => some b7 else some false)
set_option maxRecDepth 100000 in
set_option maxHeartbeats 40000000 in
theorem T48 (n : Nat) : ∀ ⦃l1 : List D⦄ ⦃l2 : List D⦄ ⦃r1 : Bool⦄, F48 n l1 l2 = some r1 →
    Trip Tryd.prog inv 48 [.d (.list false 1 l1), .d (.list false 1 l2)] [] (.v (.d (.bool r1))) [] [] := by
  intro l1 l2 r1 h
  unfold F48 at h
  refine Trip.of tab_ok tab_one fol Tryd.func48 rfl (by kernel_rfl) rfl rfl rfl (fun M hM hI => ?_)
  try cbv
  refine seq_go ?_
  try cbv
  refine seq_go ?_
  try cbv
  replace h := lenF_inv M h
  obtain ⟨z3, hz, h⟩ := h
  refine ⟨z3, hz, ?_⟩
  clear hz
  try cbv
  replace h := lenF_inv M h
  obtain ⟨z4, hz, h⟩ := h
  refine ⟨z4, hz, ?_⟩
  clear hz
  try cbv
  refine splitLe (fun e => ?_) (fun e => ?_)
  · replace h := ite_t e h
    clear e
    try cbv
    replace h := lenF_inv M h
    obtain ⟨z5, hz, h⟩ := h
    refine ⟨z5, hz, ?_⟩
    clear hz
    try cbv
    replace h := sliceF_inv M h
    obtain ⟨l6, hb, hz, h⟩ := h
    refine ⟨l6, hb, hz, ?_⟩
    clear hb hz
    try cbv
    replace h := bO1_inv h
    obtain ⟨b7, hr, h⟩ := h
    refine call_go rfl rfl ?_
    try cbv
    refine call_pure hM hI (T50 _ hr) rfl ?_
    clear hr
    try cbv
    obtain rfl := Option.some.inj h
    refine fin_go ?_
    try cbv
    exact ⟨[], rfl, rfl, trivial, trivial, trivial⟩
  · replace h := ite_f (Int.not_le.2 e) h
    clear e
    try cbv
    obtain rfl := Option.some.inj h
    refine fin_go ?_
    try cbv
    exact ⟨[], rfl, rfl, trivial, trivial, trivial⟩
end Go.Proofs.YtjobleemmjjocaaDoor
end

/- Printed by lift.py: functional texts of functions, and their contracts. No condition. -/
set_option linter.unusedVariables false
noncomputable section
namespace Go.Proofs.YtjobleemmjjocaaDoor
open Go Go.AM
def L25_1 : Nat → Int → Int → Int → (List D) → Int → Int → Int → (List D) → Bool → Option (Bool)
  | 0, _, _, _, _, _, _, _, _, _ => none
  | n + 1, z1, z2, z3, l4, z5, z6, z7, l8, b13 =>
    (if b13 = true then some false else bO1 (F46 n z1 z2 z3 l4) fun l14 => bO1 (F46 n z5 z6 z7 l8) fun l15 => bO1 (F48 n l14 l15) fun b16 => (if b16 = true then bO1 (F47 n z1 z2 z3 l4) fun b17 => (if b17 = true then (if z1 = (4 : Int) then (if z5 = (4 : Int) then some false else some true) else some true) else bO1 (F47 n z5 z6 z7 l8) fun b18 => (if b18 = true then (if z1 = (4 : Int) then (if z5 = (4 : Int) then some false else some true) else some true) else some false)) else bO1 (F48 n l15 l14) fun b19 => (if b19 = true then bO1 (F47 n z1 z2 z3 l4) fun b20 => (if b20 = true then (if z1 = (4 : Int) then (if z5 = (4 : Int) then some false else some true) else some true) else bO1 (F47 n z5 z6 z7 l8) fun b21 => (if b21 = true then (if z1 = (4 : Int) then (if z5 = (4 : Int) then some false else some true) else some true) else some false)) else some false)))
def F25 (n : Nat) (z1 : Int) (z2 : Int) (z3 : Int) (l4 : List D) (z5 : Int) (z6 : Int) (z7 : Int) (l8 : List D) : Option (Bool) :=
  bO1 (F26 n z1 z2 z3 l4) fun b9 => letB (!b9) fun b10 => (if b10 = true then L25_1 n z1 z2 z3 l4 z5 z6 z7 l8 true else bO1 (F26 n z5 z6 z7 l8) fun b11 => letB (!b11) fun b12 => (if b12 = true then L25_1 n z1 z2 z3 l4 z5 z6 z7 l8 true else (if z2 = z6 then L25_1 n z1 z2 z3 l4 z5 z6 z7 l8 true else (if z3 = z7 then L25_1 n z1 z2 z3 l4 z5 z6 z7 l8 false else L25_1 n z1 z2 z3 l4 z5 z6 z7 l8 true))))
set_option maxRecDepth 100000 in
set_option maxHeartbeats 40000000 in
theorem T25 (n : Nat) : ∀ ⦃z1 : Int⦄ ⦃z2 : Int⦄ ⦃z3 : Int⦄ ⦃l4 : List D⦄ ⦃z5 : Int⦄ ⦃z6 : Int⦄ ⦃z7 : Int⦄ ⦃l8 : List D⦄ ⦃r1 : Bool⦄, F25 n z1 z2 z3 l4 z5 z6 z7 l8 = some r1 →
    Trip Tryd.prog inv 25 [.d (.agg [.int .u8 z1, .int .i64 z2, .int .i64 z3, .list false 1 l4]), .d (.agg [.int .u8 z5, .int .i64 z6, .int .i64 z7, .list false 1 l8])] [] (.v (.d (.bool r1))) [] [] := by
  intro z1 z2 z3 l4 z5 z6 z7 l8 r1 h
  unfold F25 at h
  refine Trip.of tab_ok tab_one fol Tryd.func25 rfl (by kernel_rfl) rfl rfl rfl (fun M hM hI => ?_)
  try cbv
  refine seq_go ?_
  try cbv
  refine seq_go ?_
  try cbv
  refine seq_join (T := Nat × Bool) (fun t => ⟨[(2, .v (.c (.ptr (.loc 0) 0))), (3, .v (.c (.ptr (.loc 32) 0))), (4, .v (.d (.bool false))), (29, .v (.d (.bool t.2)))], [(.loc 0, .cells [.d (.int .u8 z1), .d (.int .i64 z2), .d (.int .i64 z3), .d (.list false 1 l4)]), (.loc 32, .cells [.d (.int .u8 z5), .d (.int .i64 z6), .d (.int .i64 z7), .d (.list false 1 l8)])], 800⟩) (fun t => t.1 ≤ n ∧ L25_1 t.1 z1 z2 z3 l4 z5 z6 z7 l8 t.2 = some r1) ?_ ?_
  · try cbv
    replace h := bO1_inv h
    obtain ⟨b9, hr, h⟩ := h
    refine call_go rfl rfl ?_
    try cbv
    refine call_pure hM hI (T26 _ hr) rfl ?_
    clear hr
    try cbv
    replace h := letB_inv h
    obtain ⟨b10, hz, h⟩ := h
    refine ⟨b10, not_eq' hz, ?_⟩
    clear hz
    try cbv
    cases b10
    · replace h := ite_f Bool.false_ne_true h
      try cbv
      replace h := bO1_inv h
      obtain ⟨b11, hr, h⟩ := h
      refine call_go rfl rfl ?_
      try cbv
      refine call_pure hM hI (T26 _ hr) rfl ?_
      clear hr
      try cbv
      replace h := letB_inv h
      obtain ⟨b12, hz, h⟩ := h
      refine ⟨b12, not_eq' hz, ?_⟩
      clear hz
      try cbv
      cases b12
      · replace h := ite_f Bool.false_ne_true h
        try cbv
        refine splitI (fun e => ?_) (fun e => ?_)
        · replace h := ite_t e h
          clear e
          try cbv
          exact join_next (n, true) [2, 3, 4, 29] [.loc 0, .loc 32] 800 ⟨by omega, h⟩ (by cbv)
        · replace h := ite_f e h
          clear e
          try cbv
          refine splitI (fun e => ?_) (fun e => ?_)
          · replace h := ite_t e h
            clear e
            try cbv
            exact join_next (n, false) [2, 3, 4, 29] [.loc 0, .loc 32] 800 ⟨by omega, h⟩ (by cbv)
          · replace h := ite_f e h
            clear e
            try cbv
            exact join_next (n, true) [2, 3, 4, 29] [.loc 0, .loc 32] 800 ⟨by omega, h⟩ (by cbv)
      · replace h := ite_t rfl h
        try cbv
        exact join_next (n, true) [2, 3, 4, 29] [.loc 0, .loc 32] 800 ⟨by omega, h⟩ (by cbv)
    · replace h := ite_t rfl h
      try cbv
      exact join_next (n, true) [2, 3, 4, 29] [.loc 0, .loc 32] 800 ⟨by omega, h⟩ (by cbv)
  · clear h
    rintro ⟨m1, b13⟩ ⟨hm1, h⟩
    replace hm1 : m1 ≤ n := hm1
    cases m1 with
    | zero =>
      replace h : L25_1 0 z1 z2 z3 l4 z5 z6 z7 l8 b13 = some r1 := h
      rw [L25_1] at h
      cases h
    | succ m1 =>
      replace h : L25_1 (m1 + 1) z1 z2 z3 l4 z5 z6 z7 l8 b13 = some r1 := h
      rw [L25_1] at h
      try cbv
      cases b13
      · replace h := ite_f Bool.false_ne_true h
        try cbv
        refine seq_go ?_
        try cbv
        replace h := bO1_inv h
        obtain ⟨l14, hr, h⟩ := h
        first | refine .inr ⟨[], ?_⟩ | refine ⟨[], ?_⟩
        try cbv
        refine call_pure hM hI (T46 _ hr) rfl ?_
        clear hr
        try cbv
        replace h := bO1_inv h
        obtain ⟨l15, hr, h⟩ := h
        first | refine .inr ⟨[], ?_⟩ | refine ⟨[], ?_⟩
        try cbv
        refine call_pure hM hI (T46 _ hr) rfl ?_
        clear hr
        try cbv
        refine drawn ?_ ?_
        · show _ = true
          kernel_rfl
        try cbv
        refine seq_go ?_
        try cbv
        refine seq_go ?_
        try cbv
        replace h := bO1_inv h
        obtain ⟨b16, hr, h⟩ := h
        refine call_go rfl rfl ?_
        try cbv
        refine call_pure hM hI (T48 _ hr) rfl ?_
        clear hr
        try cbv
        cases b16
        · replace h := ite_f Bool.false_ne_true h
          try cbv
          replace h := bO1_inv h
          obtain ⟨b19, hr, h⟩ := h
          refine call_go rfl rfl ?_
          try cbv
          refine call_pure hM hI (T48 _ hr) rfl ?_
          clear hr
          try cbv
          cases b19
          · replace h := ite_f Bool.false_ne_true h
            try cbv
            obtain rfl := Option.some.inj h
            refine fin_go ?_
            try cbv
            exact ⟨[], rfl, rfl, trivial, trivial, trivial⟩
          · replace h := ite_t rfl h
            try cbv
            replace h := bO1_inv h
            obtain ⟨b20, hr, h⟩ := h
            refine call_go rfl rfl ?_
            try cbv
            refine call_pure hM hI (T47 _ hr) rfl ?_
            clear hr
            try cbv
            cases b20
            · replace h := ite_f Bool.false_ne_true h
              try cbv
              replace h := bO1_inv h
              obtain ⟨b21, hr, h⟩ := h
              refine call_go rfl rfl ?_
              try cbv
              refine call_pure hM hI (T47 _ hr) rfl ?_
              clear hr
              try cbv
              cases b21
              · replace h := ite_f Bool.false_ne_true h
                try cbv
                obtain rfl := Option.some.inj h
                refine fin_go ?_
                try cbv
                exact ⟨[], rfl, rfl, trivial, trivial, trivial⟩
              · replace h := ite_t rfl h
                try cbv
                refine splitI (fun e => ?_) (fun e => ?_)
                · replace h := ite_t e h
                  clear e
                  try cbv
                  refine splitI (fun e => ?_) (fun e => ?_)
                  · replace h := ite_t e h
                    clear e
                    try cbv
                    obtain rfl := Option.some.inj h
                    refine fin_go ?_
                    try cbv
                    exact ⟨[], rfl, rfl, trivial, trivial, trivial⟩
                  · replace h := ite_f e h
                    clear e
                    try cbv
                    obtain rfl := Option.some.inj h
                    refine fin_go ?_
                    try cbv
                    exact ⟨[], rfl, rfl, trivial, trivial, trivial⟩
                · replace h := ite_f e h
                  clear e
                  try cbv
                  obtain rfl := Option.some.inj h
                  refine fin_go ?_
                  try cbv
                  exact ⟨[], rfl, rfl, trivial, trivial, trivial⟩
            · replace h := ite_t rfl h
              try cbv
              refine splitI (fun e => ?_) (fun e => ?_)
              · replace h := ite_t e h
                clear e
                try cbv
                refine splitI (fun e => ?_) (fun e => ?_)
                · replace h := ite_t e h
                  clear e
                  try cbv
                  obtain rfl := Option.some.inj h
                  refine fin_go ?_
                  try cbv
                  exact ⟨[], rfl, rfl, trivial, trivial, trivial⟩
                · replace h := ite_f e h
                  clear e
                  try cbv
                  obtain rfl := Option.some.inj h
                  refine fin_go ?_
                  try cbv
                  exact ⟨[], rfl, rfl, trivial, trivial, trivial⟩
              · replace h := ite_f e h
                clear e
                try cbv
                obtain rfl := Option.some.inj h
                refine fin_go ?_
                try cbv
                exact ⟨[], rfl, rfl, trivial, trivial, trivial⟩
        · replace h := ite_t rfl h
          try cbv
          replace h := bO1_inv h
          obtain ⟨b17, hr, h⟩ := h
          refine call_go rfl rfl ?_
          try cbv
          refine call_pure hM hI (T47 _ hr) rfl ?_
          clear hr
          try cbv
          cases b17
          · replace h := ite_f Bool.false_ne_true h
            try cbv
            replace h := bO1_inv h
            obtain ⟨b18, hr, h⟩ := h
            refine call_go rfl rfl ?_
            try cbv
            refine call_pure hM hI (T47 _ hr) rfl ?_
            clear hr
            try cbv
            cases b18
            · replace h := ite_f Bool.false_ne_true h
              try cbv
              obtain rfl := Option.some.inj h
              refine fin_go ?_
              try cbv
              exact ⟨[], rfl, rfl, trivial, trivial, trivial⟩
            · replace h := ite_t rfl h
              try cbv
              refine splitI (fun e => ?_) (fun e => ?_)
              · replace h := ite_t e h
                clear e
                try cbv
                refine splitI (fun e => ?_) (fun e => ?_)
                · replace h := ite_t e h
                  clear e
                  try cbv
                  obtain rfl := Option.some.inj h
                  refine fin_go ?_
                  try cbv
                  exact ⟨[], rfl, rfl, trivial, trivial, trivial⟩
                · replace h := ite_f e h
                  clear e
                  try cbv
                  obtain rfl := Option.some.inj h
                  refine fin_go ?_
                  try cbv
                  exact ⟨[], rfl, rfl, trivial, trivial, trivial⟩
              · replace h := ite_f e h
                clear e
                try cbv
                obtain rfl := Option.some.inj h
                refine fin_go ?_
                try cbv
                exact ⟨[], rfl, rfl, trivial, trivial, trivial⟩
          · replace h := ite_t rfl h
            try cbv
            refine splitI (fun e => ?_) (fun e => ?_)
            · replace h := ite_t e h
              clear e
              try cbv
              refine splitI (fun e => ?_) (fun e => ?_)
              · replace h := ite_t e h
                clear e
                try cbv
                obtain rfl := Option.some.inj h
                refine fin_go ?_
                try cbv
                exact ⟨[], rfl, rfl, trivial, trivial, trivial⟩
              · replace h := ite_f e h
                clear e
                try cbv
                obtain rfl := Option.some.inj h
                refine fin_go ?_
                try cbv
                exact ⟨[], rfl, rfl, trivial, trivial, trivial⟩
            · replace h := ite_f e h
              clear e
              try cbv
              obtain rfl := Option.some.inj h
              refine fin_go ?_
              try cbv
              exact ⟨[], rfl, rfl, trivial, trivial, trivial⟩
      · replace h := ite_t rfl h
        try cbv
        refine seq_go ?_
        try cbv
        obtain rfl := Option.some.inj h
        refine fin_go ?_
        try cbv
        exact ⟨[], rfl, rfl, trivial, trivial, trivial⟩
end Go.Proofs.YtjobleemmjjocaaDoor
end

/- Printed by lift.py: functional texts of functions, and their contracts. No condition. -/
set_option linter.unusedVariables false
noncomputable section
namespace Go.Proofs.YtjobleemmjjocaaDoor
open Go Go.AM
def F22 (n : Nat) : Option (Bool) :=
  bO1 (F19 n ([.agg [.int .u8 7, .int .i64 0, .int .i64 2, .list false 1 []]])) fun z1 => bO1 (F19 n ([.agg [.int .u8 9, .int .i64 0, .int .i64 0, .list false 1 []], .agg [.int .u8 1, .int .i64 0, .int .i64 1, .list false 1 []]])) fun z2 => bO1 (F19 n ([.agg [.int .u8 8, .int .i64 0, .int .i64 0, .list false 1 []]])) fun z3 => bO1 (F25 n (2 : Int) (0 : Int) (5 : Int) ([.int .i64 0]) (1 : Int) (1 : Int) (5 : Int) ([] : List D)) fun b4 => bO1 (F25 n (4 : Int) (0 : Int) (5 : Int) ([] : List D) (4 : Int) (1 : Int) (5 : Int) ([] : List D)) fun b5 => bO1 (F25 n (3 : Int) (0 : Int) (5 : Int) ([] : List D) (4 : Int) (1 : Int) (5 : Int) ([.int .i64 3])) fun b6 => bO1 (F21 n ([.agg [.int .u8 7, .int .i64 0, .int .i64 1, .list false 1 []], .agg [.int .u8 2, .int .i64 1, .int .i64 5, .list false 1 ([.int .i64 0])], .agg [.int .u8 9, .int .i64 1, .int .i64 0, .list false 1 []], .agg [.int .u8 8, .int .i64 0, .int .i64 1, .list false 1 []], .agg [.int .u8 1, .int .i64 0, .int .i64 5, .list false 1 []]])) fun z7 => (if z7 = (0 : Int) then bO1 (F20 n ([.agg [.int .u8 7, .int .i64 0, .int .i64 1, .list false 1 []], .agg [.int .u8 2, .int .i64 1, .int .i64 5, .list false 1 ([.int .i64 0])], .agg [.int .u8 9, .int .i64 1, .int .i64 0, .list false 1 []], .agg [.int .u8 8, .int .i64 0, .int .i64 1, .list false 1 []], .agg [.int .u8 1, .int .i64 0, .int .i64 5, .list false 1 []]])) fun z8 => (if z8 = (2 : Int) then (if z1 = (0 : Int) then (if z2 = (1 : Int) then (if z3 = (0 : Int) then (if b4 = true then letB (!b5) fun b9 => (if b9 = true then (if b6 = true then getF ([.agg [.int .u8 7, .int .i64 0, .int .i64 1, .list false 1 []], .agg [.int .u8 2, .int .i64 1, .int .i64 5, .list false 1 ([.int .i64 0])], .agg [.int .u8 9, .int .i64 1, .int .i64 0, .list false 1 []], .agg [.int .u8 8, .int .i64 0, .int .i64 1, .list false 1 []], .agg [.int .u8 1, .int .i64 0, .int .i64 5, .list false 1 []]]) 1 fun x10 => ds_t32 x10 fun z11 z12 z13 l14 => bO1 (F23 n z11 z12 z13 l14) fun s15 => (if s15 = k_1_write_5_0 then some true else some false) else some false) else some false) else some false) else some false) else some false) else some false) else some false) else some false)
set_option maxRecDepth 100000 in
set_option maxHeartbeats 40000000 in
theorem T22 (n : Nat) : ∀ ⦃r1 : Bool⦄, F22 n = some r1 →
    Trip Tryd.prog inv 22 [] [] (.v (.d (.bool r1))) [] [] := by
  intro r1 h
  unfold F22 at h
  refine Trip.of tab_ok tab_one fol Tryd.func22 rfl (by kernel_rfl) rfl rfl rfl (fun M hM hI => ?_)
  try cbv
  refine seq_go ?_
  try cbv
  refine seq_go ?_
  try cbv
  refine ⟨false, ?_⟩
  try cbv
  refine ⟨true, ?_⟩
  try cbv
  refine ⟨false, ?_⟩
  try cbv
  refine ⟨true, ?_⟩
  try cbv
  refine seq_go ?_
  try cbv
  refine ⟨false, ?_⟩
  try cbv
  refine ⟨true, ?_⟩
  try cbv
  replace h := bO1_inv h
  obtain ⟨z1, hr, h⟩ := h
  refine call_go rfl rfl ?_
  try cbv
  refine call_pure hM hI (T19 _ hr) rfl ?_
  clear hr
  try cbv
  refine ⟨false, ?_⟩
  try cbv
  refine ⟨true, ?_⟩
  try cbv
  replace h := bO1_inv h
  obtain ⟨z2, hr, h⟩ := h
  refine call_go rfl rfl ?_
  try cbv
  refine call_pure hM hI (T19 _ hr) rfl ?_
  clear hr
  try cbv
  refine ⟨false, ?_⟩
  try cbv
  refine ⟨true, ?_⟩
  try cbv
  replace h := bO1_inv h
  obtain ⟨z3, hr, h⟩ := h
  refine call_go rfl rfl ?_
  try cbv
  refine call_pure hM hI (T19 _ hr) rfl ?_
  clear hr
  try cbv
  refine seq_go ?_
  try cbv
  refine ⟨false, ?_⟩
  try cbv
  refine ⟨true, ?_⟩
  try cbv
  replace h := bO1_inv h
  obtain ⟨b4, hr, h⟩ := h
  refine call_go rfl rfl ?_
  try cbv
  refine call_pure hM hI (T25 _ hr) rfl ?_
  clear hr
  try cbv
  refine seq_go ?_
  try cbv
  replace h := bO1_inv h
  obtain ⟨b5, hr, h⟩ := h
  refine call_go rfl rfl ?_
  try cbv
  refine call_pure hM hI (T25 _ hr) rfl ?_
  clear hr
  try cbv
  refine seq_go ?_
  try cbv
  refine ⟨false, ?_⟩
  try cbv
  refine ⟨true, ?_⟩
  try cbv
  replace h := bO1_inv h
  obtain ⟨b6, hr, h⟩ := h
  refine call_go rfl rfl ?_
  try cbv
  refine call_pure hM hI (T25 _ hr) rfl ?_
  clear hr
  try cbv
  refine seq_go ?_
  try cbv
  replace h := bO1_inv h
  obtain ⟨z7, hr, h⟩ := h
  refine call_go rfl rfl ?_
  try cbv
  refine call_pure hM hI (T21 _ hr) rfl ?_
  clear hr
  try cbv
  refine splitI (fun e => ?_) (fun e => ?_)
  · replace h := ite_t e h
    clear e
    try cbv
    replace h := bO1_inv h
    obtain ⟨z8, hr, h⟩ := h
    refine call_go rfl rfl ?_
    try cbv
    refine call_pure hM hI (T20 _ hr) rfl ?_
    clear hr
    try cbv
    refine splitI (fun e => ?_) (fun e => ?_)
    · replace h := ite_t e h
      clear e
      try cbv
      refine splitI (fun e => ?_) (fun e => ?_)
      · replace h := ite_t e h
        clear e
        try cbv
        refine splitI (fun e => ?_) (fun e => ?_)
        · replace h := ite_t e h
          clear e
          try cbv
          refine splitI (fun e => ?_) (fun e => ?_)
          · replace h := ite_t e h
            clear e
            try cbv
            cases b4
            · replace h := ite_f Bool.false_ne_true h
              try cbv
              obtain rfl := Option.some.inj h
              refine fin_go ?_
              try cbv
              exact ⟨[], rfl, rfl, trivial, trivial, trivial⟩
            · replace h := ite_t rfl h
              try cbv
              replace h := letB_inv h
              obtain ⟨b9, hz, h⟩ := h
              refine ⟨b9, not_eq' hz, ?_⟩
              clear hz
              try cbv
              cases b9
              · replace h := ite_f Bool.false_ne_true h
                try cbv
                obtain rfl := Option.some.inj h
                refine fin_go ?_
                try cbv
                exact ⟨[], rfl, rfl, trivial, trivial, trivial⟩
              · replace h := ite_t rfl h
                try cbv
                cases b6
                · replace h := ite_f Bool.false_ne_true h
                  try cbv
                  obtain rfl := Option.some.inj h
                  refine fin_go ?_
                  try cbv
                  exact ⟨[], rfl, rfl, trivial, trivial, trivial⟩
                · replace h := ite_t rfl h
                  try cbv
                  replace h := getF_inv h
                  obtain ⟨x10, ⟨hx0, hx⟩, h⟩ := h
                  refine ⟨x10, hx0, hx, ?_⟩
                  clear hx0 hx
                  replace h := ds_t32_inv h
                  obtain ⟨z11, z12, z13, l14, rfl, h⟩ := h
                  try cbv
                  replace h := bO1_inv h
                  obtain ⟨s15, hr, h⟩ := h
                  refine call_go rfl rfl ?_
                  try cbv
                  refine call_pure hM hI (T23 _ hr) rfl ?_
                  clear hr
                  try cbv
                  refine splitS (fun e => ?_) (fun e => ?_)
                  · replace h := ite_t (bytes_eq.1 e) h
                    clear e
                    try cbv
                    obtain rfl := Option.some.inj h
                    refine fin_go ?_
                    try cbv
                    exact ⟨[], rfl, rfl, trivial, trivial, trivial⟩
                  · replace h := ite_f (bytes_ne.1 e) h
                    clear e
                    try cbv
                    obtain rfl := Option.some.inj h
                    refine fin_go ?_
                    try cbv
                    exact ⟨[], rfl, rfl, trivial, trivial, trivial⟩
          · replace h := ite_f e h
            clear e
            try cbv
            obtain rfl := Option.some.inj h
            refine fin_go ?_
            try cbv
            exact ⟨[], rfl, rfl, trivial, trivial, trivial⟩
        · replace h := ite_f e h
          clear e
          try cbv
          obtain rfl := Option.some.inj h
          refine fin_go ?_
          try cbv
          exact ⟨[], rfl, rfl, trivial, trivial, trivial⟩
      · replace h := ite_f e h
        clear e
        try cbv
        obtain rfl := Option.some.inj h
        refine fin_go ?_
        try cbv
        exact ⟨[], rfl, rfl, trivial, trivial, trivial⟩
    · replace h := ite_f e h
      clear e
      try cbv
      obtain rfl := Option.some.inj h
      refine fin_go ?_
      try cbv
      exact ⟨[], rfl, rfl, trivial, trivial, trivial⟩
  · replace h := ite_f e h
    clear e
    try cbv
    obtain rfl := Option.some.inj h
    refine fin_go ?_
    try cbv
    exact ⟨[], rfl, rfl, trivial, trivial, trivial⟩
end Go.Proofs.YtjobleemmjjocaaDoor
end

/- Printed by lift.py: functional texts of functions, and their contracts. No condition. -/
set_option linter.unusedVariables false
noncomputable section
namespace Go.Proofs.YtjobleemmjjocaaDoor
open Go Go.AM
def F27 (n : Nat) (z1 : Int) (z2 : Int) (z3 : Int) (l4 : List D) : Option (Bool) :=
  (if z1 = (1 : Int) then some true else (if z1 = (2 : Int) then some true else (if z1 = (4 : Int) then some true else (if z1 = (3 : Int) then some true else some false))))
set_option maxRecDepth 100000 in
set_option maxHeartbeats 40000000 in
theorem T27 (n : Nat) : ∀ ⦃z1 : Int⦄ ⦃z2 : Int⦄ ⦃z3 : Int⦄ ⦃l4 : List D⦄ ⦃r1 : Bool⦄, F27 n z1 z2 z3 l4 = some r1 →
    Trip Tryd.prog inv 27 [.d (.agg [.int .u8 z1, .int .i64 z2, .int .i64 z3, .list false 1 l4])] [] (.v (.d (.bool r1))) [] [] := by
  intro z1 z2 z3 l4 r1 h
  unfold F27 at h
  refine Trip.of tab_ok tab_one fol Tryd.func27 rfl (by kernel_rfl) rfl rfl rfl (fun M hM hI => ?_)
  try cbv
  refine seq_go ?_
  try cbv
  refine seq_go ?_
  try cbv
  refine splitI (fun e => ?_) (fun e => ?_)
  · replace h := ite_t e h
    clear e
    try cbv
    obtain rfl := Option.some.inj h
    refine fin_go ?_
    try cbv
    exact ⟨[], rfl, rfl, trivial, trivial, trivial⟩
  · replace h := ite_f e h
    clear e
    try cbv
    refine splitI (fun e => ?_) (fun e => ?_)
    · replace h := ite_t e h
      clear e
      try cbv
      obtain rfl := Option.some.inj h
      refine fin_go ?_
      try cbv
      exact ⟨[], rfl, rfl, trivial, trivial, trivial⟩
    · replace h := ite_f e h
      clear e
      try cbv
      refine splitI (fun e => ?_) (fun e => ?_)
      · replace h := ite_t e h
        clear e
        try cbv
        obtain rfl := Option.some.inj h
        refine fin_go ?_
        try cbv
        exact ⟨[], rfl, rfl, trivial, trivial, trivial⟩
      · replace h := ite_f e h
        clear e
        try cbv
        refine splitI (fun e => ?_) (fun e => ?_)
        · replace h := ite_t e h
          clear e
          try cbv
          obtain rfl := Option.some.inj h
          refine fin_go ?_
          try cbv
          exact ⟨[], rfl, rfl, trivial, trivial, trivial⟩
        · replace h := ite_f e h
          clear e
          try cbv
          obtain rfl := Option.some.inj h
          refine fin_go ?_
          try cbv
          exact ⟨[], rfl, rfl, trivial, trivial, trivial⟩
end Go.Proofs.YtjobleemmjjocaaDoor
end

/- Printed by lift.py: functional texts of functions, and their contracts. No condition. -/
set_option linter.unusedVariables false
noncomputable section
namespace Go.Proofs.YtjobleemmjjocaaDoor
open Go Go.AM
mutual
def L49_2 : Nat → (List D) → (List D) → Int → Option (Bool)
  | 0, _, _, _ => none
  | n + 1, l4, l8, z10 =>
    lenF l4 fun z11 => (if z10 < z11 then lenF l8 fun z12 => (if z10 < z12 then L49_3 n l4 l8 z10 true else L49_3 n l4 l8 z10 false) else L49_3 n l4 l8 z10 false)
def L49_3 : Nat → (List D) → (List D) → Int → Bool → Option (Bool)
  | 0, _, _, _, _ => none
  | n + 1, l4, l8, z10, b13 =>
    (if b13 = true then getF l4 z10 fun x14 => ds_i64 x14 fun z15 => getF l8 z10 fun x16 => ds_i64 x16 fun z17 => (if z15 = z17 then L49_4 n l4 l8 z10 false else L49_4 n l4 l8 z10 true) else some true)
def L49_4 : Nat → (List D) → (List D) → Int → Bool → Option (Bool)
  | 0, _, _, _, _ => none
  | n + 1, l4, l8, z10, b18 =>
    (if b18 = true then some false else letF (IntKind.wrap .i64 (z10 + 1)) fun z19 => L49_2 n l4 l8 z19)
end
def L49_1 : Nat → (List D) → (List D) → Bool → Option (Bool)
  | 0, _, _, _ => none
  | n + 1, l4, l8, b9 =>
    (if b9 = true then some true else L49_2 n l4 l8 (0 : Int))
def F49 (n : Nat) (z1 : Int) (z2 : Int) (z3 : Int) (l4 : List D) (z5 : Int) (z6 : Int) (z7 : Int) (l8 : List D) : Option (Bool) :=
  (if z1 = (3 : Int) then L49_1 n l4 l8 true else (if z5 = (3 : Int) then L49_1 n l4 l8 true else L49_1 n l4 l8 false))
set_option maxRecDepth 100000 in
set_option maxHeartbeats 40000000 in
theorem T49 (n : Nat) : ∀ ⦃z1 : Int⦄ ⦃z2 : Int⦄ ⦃z3 : Int⦄ ⦃l4 : List D⦄ ⦃z5 : Int⦄ ⦃z6 : Int⦄ ⦃z7 : Int⦄ ⦃l8 : List D⦄ ⦃r1 : Bool⦄, F49 n z1 z2 z3 l4 z5 z6 z7 l8 = some r1 →
    Trip Tryd.prog inv 49 [.d (.agg [.int .u8 z1, .int .i64 z2, .int .i64 z3, .list false 1 l4]), .d (.agg [.int .u8 z5, .int .i64 z6, .int .i64 z7, .list false 1 l8])] [] (.v (.d (.bool r1))) [] [] := by
  intro z1 z2 z3 l4 z5 z6 z7 l8 r1 h
  unfold F49 at h
  refine Trip.of tab_ok tab_one fol Tryd.func49 rfl (by kernel_rfl) rfl rfl rfl (fun M hM hI => ?_)
  try cbv
  refine seq_go ?_
  try cbv
  refine seq_go ?_
  try cbv
  refine seq_join (T := Nat × Bool) (fun t => ⟨[(2, .v (.c (.ptr (.loc 0) 0))), (3, .v (.c (.ptr (.loc 32) 0))), (4, .v (.d (.bool false))), (13, .v (.d (.bool t.2)))], [(.loc 0, .cells [.d (.int .u8 z1), .d (.int .i64 z2), .d (.int .i64 z3), .d (.list false 1 l4)]), (.loc 32, .cells [.d (.int .u8 z5), .d (.int .i64 z6), .d (.int .i64 z7), .d (.list false 1 l8)])], 352⟩) (fun t => t.1 ≤ n ∧ L49_1 t.1 l4 l8 t.2 = some r1) ?_ ?_
  · try cbv
    refine splitI (fun e => ?_) (fun e => ?_)
    · replace h := ite_t e h
      clear e
      try cbv
      exact join_next (n, true) [2, 3, 4, 13] [.loc 0, .loc 32] 352 ⟨by omega, h⟩ (by cbv)
    · replace h := ite_f e h
      clear e
      try cbv
      refine splitI (fun e => ?_) (fun e => ?_)
      · replace h := ite_t e h
        clear e
        try cbv
        exact join_next (n, true) [2, 3, 4, 13] [.loc 0, .loc 32] 352 ⟨by omega, h⟩ (by cbv)
      · replace h := ite_f e h
        clear e
        try cbv
        exact join_next (n, false) [2, 3, 4, 13] [.loc 0, .loc 32] 352 ⟨by omega, h⟩ (by cbv)
  · clear h
    rintro ⟨m1, b9⟩ ⟨hm1, h⟩
    replace hm1 : m1 ≤ n := hm1
    cases m1 with
    | zero =>
      replace h : L49_1 0 l4 l8 b9 = some r1 := h
      rw [L49_1] at h
      cases h
    | succ m1 =>
      replace h : L49_1 (m1 + 1) l4 l8 b9 = some r1 := h
      rw [L49_1] at h
      try cbv
      cases b9
      · replace h := ite_f Bool.false_ne_true h
        try cbv
        refine seq_go ?_
        try cbv
        refine seq_go ?_
        try cbv
        refine loop_inv (T := Nat × Int) [2, 3, 4, 5] [.loc 0, .loc 32] 384 (fun t => ⟨[(2, .v (.c (.ptr (.loc 0) 0))), (3, .v (.c (.ptr (.loc 32) 0))), (4, .v (.d (.bool false))), (5, .v (.d (.int .i64 t.2)))], [(.loc 0, .cells [.d (.int .u8 z1), .d (.int .i64 z2), .d (.int .i64 z3), .d (.list false 1 l4)]), (.loc 32, .cells [.d (.int .u8 z5), .d (.int .i64 z6), .d (.int .i64 z7), .d (.list false 1 l8)])], 384⟩)
          (fun t => t.1 ≤ m1 ∧ L49_2 t.1 l4 l8 t.2 = some r1) (fun t => t.1) (m1, (0 : Int)) ⟨Nat.le_refl _, h⟩ (by cbv) ?_
        clear h
        rintro ⟨m2, z10⟩ ⟨hm2, h⟩
        replace hm2 : m2 ≤ m1 := hm2
        cases m2 with
        | zero =>
          replace h : L49_2 0 l4 l8 z10 = some r1 := h
          rw [L49_2] at h
          cases h
        | succ m2 =>
          replace h : L49_2 (m2 + 1) l4 l8 z10 = some r1 := h
          rw [L49_2] at h
          try cbv
          refine seq_go ?_
          try cbv
          refine seq_join (T := Nat × Bool) (fun t => ⟨[(2, .v (.c (.ptr (.loc 0) 0))), (3, .v (.c (.ptr (.loc 32) 0))), (4, .v (.d (.bool false))), (5, .v (.d (.int .i64 z10))), (25, .v (.d (.bool t.2)))], [(.loc 0, .cells [.d (.int .u8 z1), .d (.int .i64 z2), .d (.int .i64 z3), .d (.list false 1 l4)]), (.loc 32, .cells [.d (.int .u8 z5), .d (.int .i64 z6), .d (.int .i64 z7), .d (.list false 1 l8)])], 768⟩) (fun t => t.1 ≤ m2 ∧ L49_3 t.1 l4 l8 z10 t.2 = some r1) ?_ ?_
          · try cbv
            replace h := lenF_inv M h
            obtain ⟨z11, hz, h⟩ := h
            refine ⟨z11, hz, ?_⟩
            clear hz
            try cbv
            refine splitL (fun e => ?_) (fun e => ?_)
            · replace h := ite_t e h
              clear e
              try cbv
              replace h := lenF_inv M h
              obtain ⟨z12, hz, h⟩ := h
              refine ⟨z12, hz, ?_⟩
              clear hz
              try cbv
              refine splitL (fun e => ?_) (fun e => ?_)
              · replace h := ite_t e h
                clear e
                try cbv
                exact join_next (m2, true) [2, 3, 4, 5, 25] [.loc 0, .loc 32] 768 ⟨by omega, h⟩ (by cbv)
              · replace h := ite_f (Int.not_lt.2 e) h
                clear e
                try cbv
                exact join_next (m2, false) [2, 3, 4, 5, 25] [.loc 0, .loc 32] 768 ⟨by omega, h⟩ (by cbv)
            · replace h := ite_f (Int.not_lt.2 e) h
              clear e
              try cbv
              exact join_next (m2, false) [2, 3, 4, 5, 25] [.loc 0, .loc 32] 768 ⟨by omega, h⟩ (by cbv)
          · clear h
            rintro ⟨m3, b13⟩ ⟨hm3, h⟩
            replace hm3 : m3 ≤ m2 := hm3
            cases m3 with
            | zero =>
              replace h : L49_3 0 l4 l8 z10 b13 = some r1 := h
              rw [L49_3] at h
              cases h
            | succ m3 =>
              replace h : L49_3 (m3 + 1) l4 l8 z10 b13 = some r1 := h
              rw [L49_3] at h
              try cbv
              cases b13
              · replace h := ite_f Bool.false_ne_true h
                try cbv
                refine seq_go ?_
                try cbv
                obtain rfl := Option.some.inj h
                refine fin_go ?_
                try cbv
                exact ⟨[], rfl, rfl, trivial, trivial, trivial⟩
              · replace h := ite_t rfl h
                try cbv
                refine seq_go ?_
                try cbv
                refine seq_join (T := Nat × Bool) (fun t => ⟨[(2, .v (.c (.ptr (.loc 0) 0))), (3, .v (.c (.ptr (.loc 32) 0))), (4, .v (.d (.bool false))), (5, .v (.d (.int .i64 z10))), (38, .v (.d (.bool t.2)))], [(.loc 0, .cells [.d (.int .u8 z1), .d (.int .i64 z2), .d (.int .i64 z3), .d (.list false 1 l4)]), (.loc 32, .cells [.d (.int .u8 z5), .d (.int .i64 z6), .d (.int .i64 z7), .d (.list false 1 l8)])], 1120⟩) (fun t => t.1 ≤ m3 ∧ L49_4 t.1 l4 l8 z10 t.2 = some r1) ?_ ?_
                · try cbv
                  replace h := getF_inv h
                  obtain ⟨x14, ⟨hx0, hx⟩, h⟩ := h
                  refine ⟨x14, hx0, hx, ?_⟩
                  clear hx0 hx
                  replace h := ds_i64_inv h
                  obtain ⟨z15, rfl, h⟩ := h
                  try cbv
                  replace h := getF_inv h
                  obtain ⟨x16, ⟨hx0, hx⟩, h⟩ := h
                  refine ⟨x16, hx0, hx, ?_⟩
                  clear hx0 hx
                  replace h := ds_i64_inv h
                  obtain ⟨z17, rfl, h⟩ := h
                  try cbv
                  refine splitI (fun e => ?_) (fun e => ?_)
                  · replace h := ite_t e h
                    clear e
                    try cbv
                    refine drawn ?_ ?_
                    · show _ = true
                      kernel_rfl
                    try cbv
                    exact join_next (m3, false) [2, 3, 4, 5, 38] [.loc 0, .loc 32] 1120 ⟨by omega, h⟩ (by cbv)
                  · replace h := ite_f e h
                    clear e
                    try cbv
                    refine drawn ?_ ?_
                    · show _ = true
                      kernel_rfl
                    try cbv
                    exact join_next (m3, true) [2, 3, 4, 5, 38] [.loc 0, .loc 32] 1120 ⟨by omega, h⟩ (by cbv)
                · clear h
                  rintro ⟨m4, b18⟩ ⟨hm4, h⟩
                  replace hm4 : m4 ≤ m3 := hm4
                  cases m4 with
                  | zero =>
                    replace h : L49_4 0 l4 l8 z10 b18 = some r1 := h
                    rw [L49_4] at h
                    cases h
                  | succ m4 =>
                    replace h : L49_4 (m4 + 1) l4 l8 z10 b18 = some r1 := h
                    rw [L49_4] at h
                    try cbv
                    cases b18
                    · replace h := ite_f Bool.false_ne_true h
                      try cbv
                      replace h := letF_inv h
                      obtain ⟨z19, hz, h⟩ := h
                      refine ⟨z19, hz, ?_⟩
                      clear hz
                      try cbv
                      exact loop_next (m4, z19) [2, 3, 4, 5] [.loc 0, .loc 32] 384 ⟨by omega, h⟩ (Nat.lt_succ_of_le (by omega)) (by cbv)
                    · replace h := ite_t rfl h
                      try cbv
                      refine seq_go ?_
                      try cbv
                      obtain rfl := Option.some.inj h
                      refine fin_go ?_
                      try cbv
                      exact ⟨[], rfl, rfl, trivial, trivial, trivial⟩
      · replace h := ite_t rfl h
        try cbv
        refine seq_go ?_
        try cbv
        obtain rfl := Option.some.inj h
        refine fin_go ?_
        try cbv
        exact ⟨[], rfl, rfl, trivial, trivial, trivial⟩
end Go.Proofs.YtjobleemmjjocaaDoor
end

/- Printed by lift.py: functional texts of functions, and their contracts. No condition. -/
set_option linter.unusedVariables false
noncomputable section
namespace Go.Proofs.YtjobleemmjjocaaDoor
open Go Go.AM
def L28_2 : Nat → Int → Int → Bool → Option (Bool)
  | 0, _, _, _ => none
  | n + 1, z1, z5, b16 =>
    (if b16 = true then some false else (if z1 = (2 : Int) then some true else (if z1 = (3 : Int) then some true else (if z5 = (2 : Int) then some true else (if z5 = (3 : Int) then some true else some false)))))
def L28_1 : Nat → Int → Int → Bool → Option (Bool)
  | 0, _, _, _ => none
  | n + 1, z1, z5, b15 =>
    (if b15 = true then some false else (if z1 = (4 : Int) then (if z5 = (4 : Int) then L28_2 n z1 z5 true else L28_2 n z1 z5 false) else L28_2 n z1 z5 false))
def F28 (n : Nat) (z1 : Int) (z2 : Int) (z3 : Int) (l4 : List D) (z5 : Int) (z6 : Int) (z7 : Int) (l8 : List D) : Option (Bool) :=
  bO1 (F27 n z1 z2 z3 l4) fun b9 => letB (!b9) fun b10 => (if b10 = true then L28_1 n z1 z5 true else bO1 (F27 n z5 z6 z7 l8) fun b11 => letB (!b11) fun b12 => (if b12 = true then L28_1 n z1 z5 true else (if z2 = z6 then L28_1 n z1 z5 true else (if z3 = z7 then bO1 (F49 n z1 z2 z3 l4 z5 z6 z7 l8) fun b13 => letB (!b13) fun b14 => L28_1 n z1 z5 b14 else L28_1 n z1 z5 true))))
set_option maxRecDepth 100000 in
set_option maxHeartbeats 40000000 in
theorem T28 (n : Nat) : ∀ ⦃z1 : Int⦄ ⦃z2 : Int⦄ ⦃z3 : Int⦄ ⦃l4 : List D⦄ ⦃z5 : Int⦄ ⦃z6 : Int⦄ ⦃z7 : Int⦄ ⦃l8 : List D⦄ ⦃r1 : Bool⦄, F28 n z1 z2 z3 l4 z5 z6 z7 l8 = some r1 →
    Trip Tryd.prog inv 28 [.d (.agg [.int .u8 z1, .int .i64 z2, .int .i64 z3, .list false 1 l4]), .d (.agg [.int .u8 z5, .int .i64 z6, .int .i64 z7, .list false 1 l8])] [] (.v (.d (.bool r1))) [] [] := by
  intro z1 z2 z3 l4 z5 z6 z7 l8 r1 h
  unfold F28 at h
  refine Trip.of tab_ok tab_one fol Tryd.func28 rfl (by kernel_rfl) rfl rfl rfl (fun M hM hI => ?_)
  try cbv
  refine seq_go ?_
  try cbv
  refine seq_go ?_
  try cbv
  refine seq_join (T := Nat × Bool) (fun t => ⟨[(2, .v (.c (.ptr (.loc 0) 0))), (3, .v (.c (.ptr (.loc 32) 0))), (4, .v (.d (.bool false))), (32, .v (.d (.bool t.2)))], [(.loc 0, .cells [.d (.int .u8 z1), .d (.int .i64 z2), .d (.int .i64 z3), .d (.list false 1 l4)]), (.loc 32, .cells [.d (.int .u8 z5), .d (.int .i64 z6), .d (.int .i64 z7), .d (.list false 1 l8)])], 992⟩) (fun t => t.1 ≤ n ∧ L28_1 t.1 z1 z5 t.2 = some r1) ?_ ?_
  · try cbv
    replace h := bO1_inv h
    obtain ⟨b9, hr, h⟩ := h
    refine call_go rfl rfl ?_
    try cbv
    refine call_pure hM hI (T27 _ hr) rfl ?_
    clear hr
    try cbv
    replace h := letB_inv h
    obtain ⟨b10, hz, h⟩ := h
    refine ⟨b10, not_eq' hz, ?_⟩
    clear hz
    try cbv
    cases b10
    · replace h := ite_f Bool.false_ne_true h
      try cbv
      replace h := bO1_inv h
      obtain ⟨b11, hr, h⟩ := h
      refine call_go rfl rfl ?_
      try cbv
      refine call_pure hM hI (T27 _ hr) rfl ?_
      clear hr
      try cbv
      replace h := letB_inv h
      obtain ⟨b12, hz, h⟩ := h
      refine ⟨b12, not_eq' hz, ?_⟩
      clear hz
      try cbv
      cases b12
      · replace h := ite_f Bool.false_ne_true h
        try cbv
        refine splitI (fun e => ?_) (fun e => ?_)
        · replace h := ite_t e h
          clear e
          try cbv
          exact join_next (n, true) [2, 3, 4, 32] [.loc 0, .loc 32] 992 ⟨by omega, h⟩ (by cbv)
        · replace h := ite_f e h
          clear e
          try cbv
          refine splitI (fun e => ?_) (fun e => ?_)
          · replace h := ite_t e h
            clear e
            try cbv
            replace h := bO1_inv h
            obtain ⟨b13, hr, h⟩ := h
            refine call_go rfl rfl ?_
            try cbv
            refine call_pure hM hI (T49 _ hr) rfl ?_
            clear hr
            try cbv
            replace h := letB_inv h
            obtain ⟨b14, hz, h⟩ := h
            refine ⟨b14, not_eq' hz, ?_⟩
            clear hz
            try cbv
            exact join_next (n, b14) [2, 3, 4, 32] [.loc 0, .loc 32] 992 ⟨by omega, h⟩ (by cbv)
          · replace h := ite_f e h
            clear e
            try cbv
            exact join_next (n, true) [2, 3, 4, 32] [.loc 0, .loc 32] 992 ⟨by omega, h⟩ (by cbv)
      · replace h := ite_t rfl h
        try cbv
        exact join_next (n, true) [2, 3, 4, 32] [.loc 0, .loc 32] 992 ⟨by omega, h⟩ (by cbv)
    · replace h := ite_t rfl h
      try cbv
      exact join_next (n, true) [2, 3, 4, 32] [.loc 0, .loc 32] 992 ⟨by omega, h⟩ (by cbv)
  · clear h
    rintro ⟨m1, b15⟩ ⟨hm1, h⟩
    replace hm1 : m1 ≤ n := hm1
    cases m1 with
    | zero =>
      replace h : L28_1 0 z1 z5 b15 = some r1 := h
      rw [L28_1] at h
      cases h
    | succ m1 =>
      replace h : L28_1 (m1 + 1) z1 z5 b15 = some r1 := h
      rw [L28_1] at h
      try cbv
      cases b15
      · replace h := ite_f Bool.false_ne_true h
        try cbv
        refine seq_go ?_
        try cbv
        refine seq_join (T := Nat × Bool) (fun t => ⟨[(2, .v (.c (.ptr (.loc 0) 0))), (3, .v (.c (.ptr (.loc 32) 0))), (4, .v (.d (.bool false))), (40, .v (.d (.bool t.2)))], [(.loc 0, .cells [.d (.int .u8 z1), .d (.int .i64 z2), .d (.int .i64 z3), .d (.list false 1 l4)]), (.loc 32, .cells [.d (.int .u8 z5), .d (.int .i64 z6), .d (.int .i64 z7), .d (.list false 1 l8)])], 1248⟩) (fun t => t.1 ≤ m1 ∧ L28_2 t.1 z1 z5 t.2 = some r1) ?_ ?_
        · try cbv
          refine splitI (fun e => ?_) (fun e => ?_)
          · replace h := ite_t e h
            clear e
            try cbv
            refine splitI (fun e => ?_) (fun e => ?_)
            · replace h := ite_t e h
              clear e
              try cbv
              exact join_next (m1, true) [2, 3, 4, 40] [.loc 0, .loc 32] 1248 ⟨by omega, h⟩ (by cbv)
            · replace h := ite_f e h
              clear e
              try cbv
              exact join_next (m1, false) [2, 3, 4, 40] [.loc 0, .loc 32] 1248 ⟨by omega, h⟩ (by cbv)
          · replace h := ite_f e h
            clear e
            try cbv
            exact join_next (m1, false) [2, 3, 4, 40] [.loc 0, .loc 32] 1248 ⟨by omega, h⟩ (by cbv)
        · clear h
          rintro ⟨m2, b16⟩ ⟨hm2, h⟩
          replace hm2 : m2 ≤ m1 := hm2
          cases m2 with
          | zero =>
            replace h : L28_2 0 z1 z5 b16 = some r1 := h
            rw [L28_2] at h
            cases h
          | succ m2 =>
            replace h : L28_2 (m2 + 1) z1 z5 b16 = some r1 := h
            rw [L28_2] at h
            try cbv
            cases b16
            · replace h := ite_f Bool.false_ne_true h
              try cbv
              refine seq_go ?_
              try cbv
              refine splitI (fun e => ?_) (fun e => ?_)
              · replace h := ite_t e h
                clear e
                try cbv
                obtain rfl := Option.some.inj h
                refine fin_go ?_
                try cbv
                exact ⟨[], rfl, rfl, trivial, trivial, trivial⟩
              · replace h := ite_f e h
                clear e
                try cbv
                refine splitI (fun e => ?_) (fun e => ?_)
                · replace h := ite_t e h
                  clear e
                  try cbv
                  obtain rfl := Option.some.inj h
                  refine fin_go ?_
                  try cbv
                  exact ⟨[], rfl, rfl, trivial, trivial, trivial⟩
                · replace h := ite_f e h
                  clear e
                  try cbv
                  refine splitI (fun e => ?_) (fun e => ?_)
                  · replace h := ite_t e h
                    clear e
                    try cbv
                    obtain rfl := Option.some.inj h
                    refine fin_go ?_
                    try cbv
                    exact ⟨[], rfl, rfl, trivial, trivial, trivial⟩
                  · replace h := ite_f e h
                    clear e
                    try cbv
                    refine splitI (fun e => ?_) (fun e => ?_)
                    · replace h := ite_t e h
                      clear e
                      try cbv
                      obtain rfl := Option.some.inj h
                      refine fin_go ?_
                      try cbv
                      exact ⟨[], rfl, rfl, trivial, trivial, trivial⟩
                    · replace h := ite_f e h
                      clear e
                      try cbv
                      obtain rfl := Option.some.inj h
                      refine fin_go ?_
                      try cbv
                      exact ⟨[], rfl, rfl, trivial, trivial, trivial⟩
            · replace h := ite_t rfl h
              try cbv
              refine seq_go ?_
              try cbv
              obtain rfl := Option.some.inj h
              refine fin_go ?_
              try cbv
              exact ⟨[], rfl, rfl, trivial, trivial, trivial⟩
      · replace h := ite_t rfl h
        try cbv
        refine seq_go ?_
        try cbv
        obtain rfl := Option.some.inj h
        refine fin_go ?_
        try cbv
        exact ⟨[], rfl, rfl, trivial, trivial, trivial⟩
end Go.Proofs.YtjobleemmjjocaaDoor
end

/- Printed by lift.py: functional texts of functions, and their contracts. No condition. -/
set_option linter.unusedVariables false
noncomputable section
namespace Go.Proofs.YtjobleemmjjocaaDoor
open Go Go.AM
def F29 (n : Nat) (z1 : Int) (z2 : Int) (z3 : Int) (l4 : List D) (z5 : Int) (z6 : Int) (z7 : Int) (l8 : List D) : Option (Bool) :=
  (if z1 = z5 then (if z2 = z6 then (if z3 = z7 then bO1 (F50 n l4 l8) fun b9 => some b9 else some false) else some false) else some false)
set_option maxRecDepth 100000 in
set_option maxHeartbeats 40000000 in
theorem T29 (n : Nat) : ∀ ⦃z1 : Int⦄ ⦃z2 : Int⦄ ⦃z3 : Int⦄ ⦃l4 : List D⦄ ⦃z5 : Int⦄ ⦃z6 : Int⦄ ⦃z7 : Int⦄ ⦃l8 : List D⦄ ⦃r1 : Bool⦄, F29 n z1 z2 z3 l4 z5 z6 z7 l8 = some r1 →
    Trip Tryd.prog inv 29 [.d (.agg [.int .u8 z1, .int .i64 z2, .int .i64 z3, .list false 1 l4]), .d (.agg [.int .u8 z5, .int .i64 z6, .int .i64 z7, .list false 1 l8])] [] (.v (.d (.bool r1))) [] [] := by
  intro z1 z2 z3 l4 z5 z6 z7 l8 r1 h
  unfold F29 at h
  refine Trip.of tab_ok tab_one fol Tryd.func29 rfl (by kernel_rfl) rfl rfl rfl (fun M hM hI => ?_)
  try cbv
  refine seq_go ?_
  try cbv
  refine seq_go ?_
  try cbv
  refine splitI (fun e => ?_) (fun e => ?_)
  · replace h := ite_t e h
    clear e
    try cbv
    refine splitI (fun e => ?_) (fun e => ?_)
    · replace h := ite_t e h
      clear e
      try cbv
      refine splitI (fun e => ?_) (fun e => ?_)
      · replace h := ite_t e h
        clear e
        try cbv
        replace h := bO1_inv h
        obtain ⟨b9, hr, h⟩ := h
        refine call_go rfl rfl ?_
        try cbv
        refine call_pure hM hI (T50 _ hr) rfl ?_
        clear hr
        try cbv
        obtain rfl := Option.some.inj h
        refine fin_go ?_
        try cbv
        exact ⟨[], rfl, rfl, trivial, trivial, trivial⟩
      · replace h := ite_f e h
        clear e
        try cbv
        obtain rfl := Option.some.inj h
        refine fin_go ?_
        try cbv
        exact ⟨[], rfl, rfl, trivial, trivial, trivial⟩
    · replace h := ite_f e h
      clear e
      try cbv
      obtain rfl := Option.some.inj h
      refine fin_go ?_
      try cbv
      exact ⟨[], rfl, rfl, trivial, trivial, trivial⟩
  · replace h := ite_f e h
    clear e
    try cbv
    obtain rfl := Option.some.inj h
    refine fin_go ?_
    try cbv
    exact ⟨[], rfl, rfl, trivial, trivial, trivial⟩
end Go.Proofs.YtjobleemmjjocaaDoor
end

/- Printed by lift.py: functional texts of functions, and their contracts. No condition. -/
set_option linter.unusedVariables false
noncomputable section
namespace Go.Proofs.YtjobleemmjjocaaDoor
open Go Go.AM
mutual
def L30_2 : Nat → (List D) → (List D) → Int → Option (Bool)
  | 0, _, _, _ => none
  | n + 1, l4, l8, z12 =>
    lenF l4 fun z13 => (if z12 < z13 then L30_3 n l4 l8 z12 true else L30_3 n l4 l8 z12 false)
def L30_3 : Nat → (List D) → (List D) → Int → Bool → Option (Bool)
  | 0, _, _, _, _ => none
  | n + 1, l4, l8, z12, b14 =>
    (if b14 = true then getF l4 z12 fun x15 => ds_i64 x15 fun z16 => getF l8 z12 fun x17 => ds_i64 x17 fun z18 => (if z16 = z18 then L30_4 n l4 l8 z12 false else L30_4 n l4 l8 z12 true) else some true)
def L30_4 : Nat → (List D) → (List D) → Int → Bool → Option (Bool)
  | 0, _, _, _, _ => none
  | n + 1, l4, l8, z12, b19 =>
    (if b19 = true then some false else letF (IntKind.wrap .i64 (z12 + 1)) fun z20 => L30_2 n l4 l8 z20)
end
def L30_1 : Nat → (List D) → (List D) → Bool → Option (Bool)
  | 0, _, _, _ => none
  | n + 1, l4, l8, b11 =>
    (if b11 = true then some false else L30_2 n l4 l8 (0 : Int))
def F30 (n : Nat) (z1 : Int) (z2 : Int) (z3 : Int) (l4 : List D) (z5 : Int) (z6 : Int) (z7 : Int) (l8 : List D) : Option (Bool) :=
  (if z1 = z5 then (if z2 = z6 then (if z3 = z7 then lenF l4 fun z9 => lenF l8 fun z10 => (if z9 = z10 then L30_1 n l4 l8 false else L30_1 n l4 l8 true) else L30_1 n l4 l8 true) else L30_1 n l4 l8 true) else L30_1 n l4 l8 true)
set_option maxRecDepth 100000 in
set_option maxHeartbeats 40000000 in
theorem T30 (n : Nat) : ∀ ⦃z1 : Int⦄ ⦃z2 : Int⦄ ⦃z3 : Int⦄ ⦃l4 : List D⦄ ⦃z5 : Int⦄ ⦃z6 : Int⦄ ⦃z7 : Int⦄ ⦃l8 : List D⦄ ⦃r1 : Bool⦄, F30 n z1 z2 z3 l4 z5 z6 z7 l8 = some r1 →
    Trip Tryd.prog inv 30 [.d (.agg [.int .u8 z1, .int .i64 z2, .int .i64 z3, .list false 1 l4]), .d (.agg [.int .u8 z5, .int .i64 z6, .int .i64 z7, .list false 1 l8])] [] (.v (.d (.bool r1))) [] [] := by
  intro z1 z2 z3 l4 z5 z6 z7 l8 r1 h
  unfold F30 at h
  refine Trip.of tab_ok tab_one fol Tryd.func30 rfl (by kernel_rfl) rfl rfl rfl (fun M hM hI => ?_)
  try cbv
  refine seq_go ?_
  try cbv
  refine seq_go ?_
  try cbv
  refine seq_join (T := Nat × Bool) (fun t => ⟨[(2, .v (.c (.ptr (.loc 0) 0))), (3, .v (.c (.ptr (.loc 32) 0))), (4, .v (.d (.bool false))), (33, .v (.d (.bool t.2)))], [(.loc 0, .cells [.d (.int .u8 z1), .d (.int .i64 z2), .d (.int .i64 z3), .d (.list false 1 l4)]), (.loc 32, .cells [.d (.int .u8 z5), .d (.int .i64 z6), .d (.int .i64 z7), .d (.list false 1 l8)])], 992⟩) (fun t => t.1 ≤ n ∧ L30_1 t.1 l4 l8 t.2 = some r1) ?_ ?_
  · try cbv
    refine splitI (fun e => ?_) (fun e => ?_)
    · replace h := ite_t e h
      clear e
      try cbv
      refine splitI (fun e => ?_) (fun e => ?_)
      · replace h := ite_t e h
        clear e
        try cbv
        refine splitI (fun e => ?_) (fun e => ?_)
        · replace h := ite_t e h
          clear e
          try cbv
          replace h := lenF_inv M h
          obtain ⟨z9, hz, h⟩ := h
          refine ⟨z9, hz, ?_⟩
          clear hz
          try cbv
          replace h := lenF_inv M h
          obtain ⟨z10, hz, h⟩ := h
          refine ⟨z10, hz, ?_⟩
          clear hz
          try cbv
          refine splitI (fun e => ?_) (fun e => ?_)
          · replace h := ite_t e h
            clear e
            try cbv
            exact join_next (n, false) [2, 3, 4, 33] [.loc 0, .loc 32] 992 ⟨by omega, h⟩ (by cbv)
          · replace h := ite_f e h
            clear e
            try cbv
            exact join_next (n, true) [2, 3, 4, 33] [.loc 0, .loc 32] 992 ⟨by omega, h⟩ (by cbv)
        · replace h := ite_f e h
          clear e
          try cbv
          exact join_next (n, true) [2, 3, 4, 33] [.loc 0, .loc 32] 992 ⟨by omega, h⟩ (by cbv)
      · replace h := ite_f e h
        clear e
        try cbv
        exact join_next (n, true) [2, 3, 4, 33] [.loc 0, .loc 32] 992 ⟨by omega, h⟩ (by cbv)
    · replace h := ite_f e h
      clear e
      try cbv
      exact join_next (n, true) [2, 3, 4, 33] [.loc 0, .loc 32] 992 ⟨by omega, h⟩ (by cbv)
  · clear h
    rintro ⟨m1, b11⟩ ⟨hm1, h⟩
    replace hm1 : m1 ≤ n := hm1
    cases m1 with
    | zero =>
      replace h : L30_1 0 l4 l8 b11 = some r1 := h
      rw [L30_1] at h
      cases h
    | succ m1 =>
      replace h : L30_1 (m1 + 1) l4 l8 b11 = some r1 := h
      rw [L30_1] at h
      try cbv
      cases b11
      · replace h := ite_f Bool.false_ne_true h
        try cbv
        refine seq_go ?_
        try cbv
        refine seq_go ?_
        try cbv
        refine loop_inv (T := Nat × Int) [2, 3, 4, 5] [.loc 0, .loc 32] 1024 (fun t => ⟨[(2, .v (.c (.ptr (.loc 0) 0))), (3, .v (.c (.ptr (.loc 32) 0))), (4, .v (.d (.bool false))), (5, .v (.d (.int .i64 t.2)))], [(.loc 0, .cells [.d (.int .u8 z1), .d (.int .i64 z2), .d (.int .i64 z3), .d (.list false 1 l4)]), (.loc 32, .cells [.d (.int .u8 z5), .d (.int .i64 z6), .d (.int .i64 z7), .d (.list false 1 l8)])], 1024⟩)
          (fun t => t.1 ≤ m1 ∧ L30_2 t.1 l4 l8 t.2 = some r1) (fun t => t.1) (m1, (0 : Int)) ⟨Nat.le_refl _, h⟩ (by cbv) ?_
        clear h
        rintro ⟨m2, z12⟩ ⟨hm2, h⟩
        replace hm2 : m2 ≤ m1 := hm2
        cases m2 with
        | zero =>
          replace h : L30_2 0 l4 l8 z12 = some r1 := h
          rw [L30_2] at h
          cases h
        | succ m2 =>
          replace h : L30_2 (m2 + 1) l4 l8 z12 = some r1 := h
          rw [L30_2] at h
          try cbv
          refine seq_go ?_
          try cbv
          refine seq_join (T := Nat × Bool) (fun t => ⟨[(2, .v (.c (.ptr (.loc 0) 0))), (3, .v (.c (.ptr (.loc 32) 0))), (4, .v (.d (.bool false))), (5, .v (.d (.int .i64 z12))), (38, .v (.d (.bool t.2)))], [(.loc 0, .cells [.d (.int .u8 z1), .d (.int .i64 z2), .d (.int .i64 z3), .d (.list false 1 l4)]), (.loc 32, .cells [.d (.int .u8 z5), .d (.int .i64 z6), .d (.int .i64 z7), .d (.list false 1 l8)])], 1184⟩) (fun t => t.1 ≤ m2 ∧ L30_3 t.1 l4 l8 z12 t.2 = some r1) ?_ ?_
          · try cbv
            replace h := lenF_inv M h
            obtain ⟨z13, hz, h⟩ := h
            refine ⟨z13, hz, ?_⟩
            clear hz
            try cbv
            refine splitL (fun e => ?_) (fun e => ?_)
            · replace h := ite_t e h
              clear e
              try cbv
              exact join_next (m2, true) [2, 3, 4, 5, 38] [.loc 0, .loc 32] 1184 ⟨by omega, h⟩ (by cbv)
            · replace h := ite_f (Int.not_lt.2 e) h
              clear e
              try cbv
              exact join_next (m2, false) [2, 3, 4, 5, 38] [.loc 0, .loc 32] 1184 ⟨by omega, h⟩ (by cbv)
          · clear h
            rintro ⟨m3, b14⟩ ⟨hm3, h⟩
            replace hm3 : m3 ≤ m2 := hm3
            cases m3 with
            | zero =>
              replace h : L30_3 0 l4 l8 z12 b14 = some r1 := h
              rw [L30_3] at h
              cases h
            | succ m3 =>
              replace h : L30_3 (m3 + 1) l4 l8 z12 b14 = some r1 := h
              rw [L30_3] at h
              try cbv
              cases b14
              · replace h := ite_f Bool.false_ne_true h
                try cbv
                refine seq_go ?_
                try cbv
                obtain rfl := Option.some.inj h
                refine fin_go ?_
                try cbv
                exact ⟨[], rfl, rfl, trivial, trivial, trivial⟩
              · replace h := ite_t rfl h
                try cbv
                refine seq_go ?_
                try cbv
                refine seq_join (T := Nat × Bool) (fun t => ⟨[(2, .v (.c (.ptr (.loc 0) 0))), (3, .v (.c (.ptr (.loc 32) 0))), (4, .v (.d (.bool false))), (5, .v (.d (.int .i64 z12))), (51, .v (.d (.bool t.2)))], [(.loc 0, .cells [.d (.int .u8 z1), .d (.int .i64 z2), .d (.int .i64 z3), .d (.list false 1 l4)]), (.loc 32, .cells [.d (.int .u8 z5), .d (.int .i64 z6), .d (.int .i64 z7), .d (.list false 1 l8)])], 1536⟩) (fun t => t.1 ≤ m3 ∧ L30_4 t.1 l4 l8 z12 t.2 = some r1) ?_ ?_
                · try cbv
                  replace h := getF_inv h
                  obtain ⟨x15, ⟨hx0, hx⟩, h⟩ := h
                  refine ⟨x15, hx0, hx, ?_⟩
                  clear hx0 hx
                  replace h := ds_i64_inv h
                  obtain ⟨z16, rfl, h⟩ := h
                  try cbv
                  replace h := getF_inv h
                  obtain ⟨x17, ⟨hx0, hx⟩, h⟩ := h
                  refine ⟨x17, hx0, hx, ?_⟩
                  clear hx0 hx
                  replace h := ds_i64_inv h
                  obtain ⟨z18, rfl, h⟩ := h
                  try cbv
                  refine splitI (fun e => ?_) (fun e => ?_)
                  · replace h := ite_t e h
                    clear e
                    try cbv
                    refine drawn ?_ ?_
                    · show _ = true
                      kernel_rfl
                    try cbv
                    exact join_next (m3, false) [2, 3, 4, 5, 51] [.loc 0, .loc 32] 1536 ⟨by omega, h⟩ (by cbv)
                  · replace h := ite_f e h
                    clear e
                    try cbv
                    refine drawn ?_ ?_
                    · show _ = true
                      kernel_rfl
                    try cbv
                    exact join_next (m3, true) [2, 3, 4, 5, 51] [.loc 0, .loc 32] 1536 ⟨by omega, h⟩ (by cbv)
                · clear h
                  rintro ⟨m4, b19⟩ ⟨hm4, h⟩
                  replace hm4 : m4 ≤ m3 := hm4
                  cases m4 with
                  | zero =>
                    replace h : L30_4 0 l4 l8 z12 b19 = some r1 := h
                    rw [L30_4] at h
                    cases h
                  | succ m4 =>
                    replace h : L30_4 (m4 + 1) l4 l8 z12 b19 = some r1 := h
                    rw [L30_4] at h
                    try cbv
                    cases b19
                    · replace h := ite_f Bool.false_ne_true h
                      try cbv
                      replace h := letF_inv h
                      obtain ⟨z20, hz, h⟩ := h
                      refine ⟨z20, hz, ?_⟩
                      clear hz
                      try cbv
                      exact loop_next (m4, z20) [2, 3, 4, 5] [.loc 0, .loc 32] 1024 ⟨by omega, h⟩ (Nat.lt_succ_of_le (by omega)) (by cbv)
                    · replace h := ite_t rfl h
                      try cbv
                      refine seq_go ?_
                      try cbv
                      obtain rfl := Option.some.inj h
                      refine fin_go ?_
                      try cbv
                      exact ⟨[], rfl, rfl, trivial, trivial, trivial⟩
      · replace h := ite_t rfl h
        try cbv
        refine seq_go ?_
        try cbv
        obtain rfl := Option.some.inj h
        refine fin_go ?_
        try cbv
        exact ⟨[], rfl, rfl, trivial, trivial, trivial⟩
end Go.Proofs.YtjobleemmjjocaaDoor
end

/- Printed by lift.py: functional texts of functions, and their contracts. No condition. -/
set_option linter.unusedVariables false
noncomputable section
namespace Go.Proofs.YtjobleemmjjocaaDoor
open Go Go.AM
def F9 (n : Nat) (z1 : Int) (z2 : Int) (z3 : Int) (l4 : List D) (z5 : Int) (z6 : Int) (z7 : Int) (l8 : List D) : Option (Bool) :=
  bO1 (F17 n ([.agg [.int .u8 z1, .int .i64 z2, .int .i64 z3, .list false 1 l4], .agg [.int .u8 z5, .int .i64 z6, .int .i64 z7, .list false 1 l8]])) fun b9 => (if b9 = true then some true else bO1 (F26 n z1 z2 z3 l4) fun b10 => bO1 (F27 n z1 z2 z3 l4) fun b11 => letB (b10 == b11) fun b12 => (if b12 = true then bO1 (F25 n z1 z2 z3 l4 z5 z6 z7 l8) fun b13 => bO1 (F28 n z1 z2 z3 l4 z5 z6 z7 l8) fun b14 => letB (b13 == b14) fun b15 => (if b15 = true then bO1 (F29 n z1 z2 z3 l4 z5 z6 z7 l8) fun b16 => bO1 (F30 n z1 z2 z3 l4 z5 z6 z7 l8) fun b17 => letB (b16 == b17) fun b18 => (if b18 = true then bO1 (F29 n z1 z2 z3 l4 z1 z2 z3 l4) fun b19 => (if b19 = true then bO1 (F22 n) fun b20 => some b20 else some false) else some false) else some false) else some false))
set_option maxRecDepth 100000 in
set_option maxHeartbeats 40000000 in
theorem T9 (n : Nat) : ∀ ⦃z1 : Int⦄ ⦃z2 : Int⦄ ⦃z3 : Int⦄ ⦃l4 : List D⦄ ⦃z5 : Int⦄ ⦃z6 : Int⦄ ⦃z7 : Int⦄ ⦃l8 : List D⦄ ⦃r1 : Bool⦄, F9 n z1 z2 z3 l4 z5 z6 z7 l8 = some r1 →
    Trip Tryd.prog inv 9 [.d (.agg [.int .u8 z1, .int .i64 z2, .int .i64 z3, .list false 1 l4]), .d (.agg [.int .u8 z5, .int .i64 z6, .int .i64 z7, .list false 1 l8])] [] (.v (.d (.bool r1))) [] [] := by
  intro z1 z2 z3 l4 z5 z6 z7 l8 r1 h
  unfold F9 at h
  refine Trip.of tab_ok tab_one fol Tryd.func9 rfl (by kernel_rfl) rfl rfl rfl (fun M hM hI => ?_)
  try cbv
  refine seq_go ?_
  try cbv
  refine seq_go ?_
  try cbv
  refine seq_go ?_
  try cbv
  refine ⟨false, ?_⟩
  try cbv
  refine ⟨true, ?_⟩
  try cbv
  replace h := bO1_inv h
  obtain ⟨b9, hr, h⟩ := h
  refine call_go rfl rfl ?_
  try cbv
  refine call_pure hM hI (T17 _ hr) rfl ?_
  clear hr
  try cbv
  cases b9
  · replace h := ite_f Bool.false_ne_true h
    try cbv
    refine seq_go ?_
    try cbv
    replace h := bO1_inv h
    obtain ⟨b10, hr, h⟩ := h
    first | refine .inr ⟨[], ?_⟩ | refine ⟨[], ?_⟩
    try cbv
    refine call_pure hM hI (T26 _ hr) rfl ?_
    clear hr
    try cbv
    replace h := bO1_inv h
    obtain ⟨b11, hr, h⟩ := h
    first | refine .inr ⟨[], ?_⟩ | refine ⟨[], ?_⟩
    try cbv
    refine call_pure hM hI (T27 _ hr) rfl ?_
    clear hr
    try cbv
    replace h := letB_inv h
    obtain ⟨b12, hz, h⟩ := h
    refine ⟨b12, eqv_eq hz, ?_⟩
    clear hz
    try cbv
    cases b12
    · replace h := ite_f Bool.false_ne_true h
      try cbv
      refine drawn ?_ ?_
      · show _ = true
        kernel_rfl
      try cbv
      obtain rfl := Option.some.inj h
      refine fin_go ?_
      try cbv
      exact ⟨[], rfl, rfl, trivial, trivial, trivial⟩
    · replace h := ite_t rfl h
      try cbv
      replace h := bO1_inv h
      obtain ⟨b13, hr, h⟩ := h
      first | refine .inr ⟨[], ?_⟩ | refine ⟨[], ?_⟩
      try cbv
      refine call_pure hM hI (T25 _ hr) rfl ?_
      clear hr
      try cbv
      replace h := bO1_inv h
      obtain ⟨b14, hr, h⟩ := h
      first | refine .inr ⟨[], ?_⟩ | refine ⟨[], ?_⟩
      try cbv
      refine call_pure hM hI (T28 _ hr) rfl ?_
      clear hr
      try cbv
      replace h := letB_inv h
      obtain ⟨b15, hz, h⟩ := h
      refine ⟨b15, eqv_eq hz, ?_⟩
      clear hz
      try cbv
      cases b15
      · replace h := ite_f Bool.false_ne_true h
        try cbv
        refine drawn ?_ ?_
        · show _ = true
          kernel_rfl
        try cbv
        obtain rfl := Option.some.inj h
        refine fin_go ?_
        try cbv
        exact ⟨[], rfl, rfl, trivial, trivial, trivial⟩
      · replace h := ite_t rfl h
        try cbv
        replace h := bO1_inv h
        obtain ⟨b16, hr, h⟩ := h
        first | refine .inr ⟨[], ?_⟩ | refine ⟨[], ?_⟩
        try cbv
        refine call_pure hM hI (T29 _ hr) rfl ?_
        clear hr
        try cbv
        replace h := bO1_inv h
        obtain ⟨b17, hr, h⟩ := h
        first | refine .inr ⟨[], ?_⟩ | refine ⟨[], ?_⟩
        try cbv
        refine call_pure hM hI (T30 _ hr) rfl ?_
        clear hr
        try cbv
        replace h := letB_inv h
        obtain ⟨b18, hz, h⟩ := h
        refine ⟨b18, eqv_eq hz, ?_⟩
        clear hz
        try cbv
        cases b18
        · replace h := ite_f Bool.false_ne_true h
          try cbv
          refine drawn ?_ ?_
          · show _ = true
            kernel_rfl
          try cbv
          obtain rfl := Option.some.inj h
          refine fin_go ?_
          try cbv
          exact ⟨[], rfl, rfl, trivial, trivial, trivial⟩
        · replace h := ite_t rfl h
          try cbv
          replace h := bO1_inv h
          obtain ⟨b19, hr, h⟩ := h
          first | refine .inr ⟨[], ?_⟩ | refine ⟨[], ?_⟩
          try cbv
          refine call_pure hM hI (T29 _ hr) rfl ?_
          clear hr
          try cbv
          cases b19
          · replace h := ite_f Bool.false_ne_true h
            try cbv
            refine drawn ?_ ?_
            · show _ = true
              kernel_rfl
            try cbv
            obtain rfl := Option.some.inj h
            refine fin_go ?_
            try cbv
            exact ⟨[], rfl, rfl, trivial, trivial, trivial⟩
          · replace h := ite_t rfl h
            try cbv
            replace h := bO1_inv h
            obtain ⟨b20, hr, h⟩ := h
            first | refine .inr ⟨[], ?_⟩ | refine ⟨[], ?_⟩
            try cbv
            refine call_pure hM hI (T22 _ hr) rfl ?_
            clear hr
            try cbv
            refine drawn ?_ ?_
            · show _ = true
              kernel_rfl
            try cbv
            obtain rfl := Option.some.inj h
            refine fin_go ?_
            try cbv
            exact ⟨[], rfl, rfl, trivial, trivial, trivial⟩
  · replace h := ite_t rfl h
    try cbv
    refine seq_go ?_
    try cbv
    obtain rfl := Option.some.inj h
    refine fin_go ?_
    try cbv
    exact ⟨[], rfl, rfl, trivial, trivial, trivial⟩
end Go.Proofs.YtjobleemmjjocaaDoor
end

/- The abstract machine, part R: a law that returns true, out of its contract over typed data. No condition. -/
namespace Go.AM
open Go Go.RowKit Go.ChangeShapes Go.WideShapes

/-- Arguments of given types. -/
def Shapes (ti : Types) : List TypeId → List D → Prop
  | [], [] => True
  | t :: ts, x :: xs => Shape ti t x.cells ∧ (∀ y, ti t = some y → x.isAgg = rowD y.desc) ∧ Shapes ti ts xs
  | _, _ => False

theorem Shapes.length {ti : Types} : ∀ {ts : List TypeId} {xs : List D}, Shapes ti ts xs → xs.length = ts.length
  | [], [], _ => rfl
  | _ :: _, _ :: _, h => by simp [Shapes.length h.2.2]
  | [], _ :: _, h => h.elim
  | _ :: _, [], h => h.elim

theorem rowD_cases {d : TypeDesc} : (∃ fs, d = .struct fs) ∨ (∃ n e, d = .array n e) ∨ rowD d = false := by
  cases d <;> simp [rowD]

section
variable {H : Type} {enc : TypeId × Value → H} {P : Program} {ti : Types} {T : List TypeId} {w : World}

/-- One argument. -/
theorem conv_arg (hti : TIok P ti) (hT : plainB ti T = true) {Z : Zone} (hZ : ∀ b o, ¬ Z b o) {base base' : Nat} {spare : Nat → Bool} {held : Bool} {r : Reach} {t : TypeId} {v : Value} {d : DataW H} {ps : List MemPlace} (ht : t ∈ T)
    (hok : Value.okWide P w r base' t v) (h : DataW.Trod enc P w base spare held t v d ps) : ∃ x : D, Shape ti t x.cells ∧ (∀ y, ti t = some y → x.isAgg = rowD y.desc) ∧ RelD w Z x v := by
  obtain ⟨fuel, h⟩ := h
  obtain ⟨ds, hs, h1, h2, h3⟩ := conv hti hT (Z := Z) hZ fuel t _ _ _ ht h
  have hp := List.all_eq_true.1 hT t ht
  split at hp
  · rename_i y hy
    have hu := (hti t y hy).1
    have single : rowD y.desc = false → v.cells.toList = [v] → ∃ x : D, Shape ti t x.cells ∧ (∀ y, ti t = some y → x.isAgg = rowD y.desc) ∧ RelD w Z x v := by
      intro hr hv
      rw [hv] at h1 h3
      obtain ⟨c, rfl⟩ := List.length_eq_one_iff.1 h1
      have hc := h2 c (by simp)
      have e : c.cells = [c] := by cases c <;> first | rfl | simp [D.isAgg] at hc
      refine ⟨c, by rw [e]; exact hs, fun y' hy' => ?_, h3 0 c v rfl rfl⟩
      rw [hy] at hy'
      obtain rfl : y = y' := by simpa using hy'
      rw [hc, hr]
    split at hp
    · rename_i hd
      rw [hd] at hu
      obtain ⟨b, rfl⟩ := okWide_bool hu hok
      exact single (by rw [hd]; rfl) rfl
    · rename_i k hd
      rw [hd] at hu
      obtain ⟨b, rfl⟩ := okWide_int hu hok
      exact single (by rw [hd]; rfl) rfl
    · rename_i hd
      rw [hd] at hu
      obtain ⟨b, rfl⟩ := okWide_string hu hok
      exact single (by rw [hd]; rfl) rfl
    · rename_i e hd
      rw [hd] at hu
      obtain ⟨a, l, c, rfl⟩ := okWide_slice hu hok
      exact single (by rw [hd]; rfl) rfl
    · rename_i fs hd
      rw [hd] at hu
      obtain ⟨cs, rfl, _⟩ := okWide_struct hu hok
      refine ⟨.agg ds, hs, fun y' hy' => ?_, .agg ds cs (by simpa [Value.cells] using h1.symm) h2 (fun j c u hc hu' => h3 j c u hc (by simpa [Value.cells] using hu'))⟩
      rw [hy] at hy'
      obtain rfl : y = y' := by simpa using hy'
      rw [hd]; rfl
    · simp at hp
  · simp at hp

theorem conv_args (hti : TIok P ti) (hT : plainB ti T = true) {Z : Zone} (hZ : ∀ b o, ¬ Z b o) {base base' : Nat} {spare : Nat → Bool} {held : Bool} {r : Reach} :
    ∀ (ts : List TypeId) (vs : List Value) (ds : List (DataW H)) (ps : List MemPlace), (∀ t ∈ ts, t ∈ T) → DataW.TrodAll enc P w base spare held ts vs ds ps →
      (∀ (j : Nat) t v, ts[j]? = some t → vs[j]? = some v → Value.okWide P w r base' t v) →
      ∃ xs, Shapes ti ts xs ∧ ∀ (j : Nat) x v, xs[j]? = some x → vs[j]? = some v → RelD w Z x v
  | [], vs, ds, ps, _, h, _ => ⟨[], trivial, by simp⟩
  | t :: ts, vs, ds, ps, ht, h, hok => by
    obtain ⟨v, vs1, d, ds1, a, b, rfl, rfl, rfl, h1, h2⟩ := trodAll_cons h
    obtain ⟨x, k1, k2, k3⟩ := conv_arg hti hT hZ (ht t (by simp)) (hok 0 t v rfl rfl) h1
    obtain ⟨xs, k4, k5⟩ := conv_args hti hT hZ ts vs1 ds1 b (fun t ht' => ht t (by simp [ht'])) h2 (fun j t v h1 h2 => hok (j + 1) t v (by simpa using h1) (by simpa using h2))
    refine ⟨x :: xs, ⟨k1, k2, k4⟩, fun j x' v' hx hv => ?_⟩
    match j with
    | 0 => simp at hx hv; subst hx; subst hv; exact k3
    | j + 1 => simp at hx hv; exact k5 j x' v' hx hv

theorem again_all (hl : laidOutB P = true) {W W' : World} (hb : Below W.heap.size W W') : ∀ (ts : List TypeId) (vs : List Value) (ds : List (DataW H)) (ps : List MemPlace),
    (∀ t ∈ ts, P.readableRec t = true ∧ t < P.types.size) → DataW.TrodAll enc P W 0 (fun _ => true) true ts vs ds ps → (∀ x ∈ ps, x.block < W.heap.size) →
    DataW.TrodAll enc P W' 0 (fun b => decide (b < W.heap.size)) true ts vs ds ps
  | [], vs, ds, ps, _, h, _ => by
    obtain ⟨rfl, rfl, rfl⟩ := trodAll_nil h
    exact rfl
  | t :: ts, vs, ds, ps, ht, h, hlt => by
    obtain ⟨v, vs1, d, ds1, a, b, rfl, rfl, rfl, h1, h2⟩ := trodAll_cons h
    have ht1 := ht t (by simp)
    exact ⟨a, b, Below.trod hl ht1.1 ht1.2 h1 hb (fun x hx => hlt x (by simp [hx])), again_all hl hb ts vs1 ds1 b (fun t ht' => ht t (by simp [ht'])) h2 (fun x hx => hlt x (by simp [hx])), rfl⟩

/-- A law: its contract over every typed input makes its row. -/
theorem law_calls {I : Inv} (hti : TIok P ti) (hT : plainB ti T = true) {s : ChangeSpec} {fn : Func} {f : FuncId} {ts : List TypeId} {bt : TypeId}
    (hp : fn.params.toList = ts) (hv : s.vars = []) (hr : fn.resultTypes = #[bt]) (hb : P.underlying bt = some .bool) (htT : ∀ t ∈ ts, t ∈ T)
    (hs : ∀ ds : List (DataW H), ds.length = ts.length → (s.fn H ds).results = [.lit (.bool true)] ∧ (s.fn H ds).args = ds ∧ (s.fn H ds).vars = [])
    (hl : laidOutB P = true) (hrec : ∀ t ∈ ts, P.readableRec t = true ∧ t < P.types.size)
    (hc : ∀ xs : List D, Shapes ti ts xs → Trip P I f (xs.map V1.d) [] (.v (.d (.bool true))) [] [])
    {W : World} {base : Nat} {args : Array Value} {ds gs : List (DataW H)} {before : List MemPlace}
    (hI : I.at W fun _ _ => False) (hval : ∀ (j : Nat) t v, fn.params[j]? = some t → args[j]? = some v → Value.okWide P W .any base t v)
    (hW : DataW.Whole enc P fn.params.toList s.vars false W args.toList ds gs before) :
    Calls P f args W fun e W' => ∃ v, e = .returned v ∧ s.post enc P fn false true false false W args v W' := by
  have hW' := hW
  obtain ⟨p, q, hA, hV, rfl, _, _⟩ := hW
  rw [hv] at hV
  obtain ⟨rfl, rfl⟩ : gs = [] ∧ q = [] := by
    cases gs with
    | nil => exact ⟨rfl, hV⟩
    | cons _ _ => exact hV.elim
  rw [hp] at hA
  obtain ⟨hlen, hdl⟩ := trodAll_length hA
  obtain ⟨xs, hsh, hrel⟩ := conv_args hti hT (Z := fun _ _ => False) (fun _ _ h => h) (r := .any) (base' := base) ts args.toList ds p htT hA (fun j t v h1 h2 => hval j t v (by
    rw [← Array.getElem?_toList, hp]; exact h1) (by simpa using h2))
  have hxl := hsh.length
  have hcall := hc xs hsh
  have hheap : ∀ i o, heapOf [] i = some o → False := by
    intro i o h
    cases i <;> simp [heapOf] at h
  have hzone : ∀ (g : Ghost) b o, ¬ zone g (heapOf []) b o := by
    rintro g b o ⟨i, ob, h, _⟩
    exact hheap i ob h
  refine (hcall.calls (w := W) (X := fun _ _ => False) (g := fun _ => undef) (vals := args) (fun _ _ h => h.elim) (hI.mono fun b o hz => hz.elim (hzone _ b o) id) ⟨fun i o h => (hheap i o h).elim, fun i _ _ _ _ h => (hheap i _ h).elim, fun i _ _ _ h => (hheap i _ h).elim⟩ (fun _ => rfl)
    (by simp at hlen; simp; omega) (fun j x v hx hvv => ?_)).mono ?_
  · simp only [List.getElem?_map, Option.map_eq_some_iff] at hx
    obtain ⟨d, hd, rfl⟩ := hx
    exact (hrel j d v hd (by simpa using hvv)).mono (fun b o u hu _ => ⟨hu, fun hz => hz.elim (hzone _ b o) id⟩)
  · rintro e W' ⟨v, g', rfl, hpost⟩
    obtain rfl : v = .bool true := by cases (show RelD _ _ (.bool true) v from hpost.res); rfl
    have hbel : Below W.heap.size W W' := ⟨hpost.frame.os, hpost.frame.tape, hpost.frame.output, hpost.frame.size, fun k hk => hpost.frame.block k hk (fun o => hzone _ k o)⟩
    obtain ⟨s1, s2, s3⟩ := hs (ds ++ []) (by simp [hdl])
    refine ⟨_, rfl, ds, [], p ++ [], [], p, [], hW', ?_, ?_, ?_, hbel.frame _, fun h => by cases h⟩
    · rw [s1, hr]
      exact trodAll_mk1 (shut_bool hb true)
    · rw [s2, hp, List.append_nil]
      exact again_all hl hbel ts args.toList ds p hrec hA (fun x hx => hW'.lt x (by simp [hx]))
    · rw [s3, hv]; rfl
end
end Go.AM

/- Chapter 25, the plain law, part A: paths, accesses, conflicts. No condition. -/
set_option linter.unusedVariables false
noncomputable section
namespace Go.Proofs.YtjobleemmjjocaaDoor
open Go Go.AM

theorem ilt {i N : Nat} (h : i < N) : (i : Int) < (N : Int) := Int.ofNat_lt.2 h
theorem bO1_some {α γ : Type} (a : α) (k : α → Option γ) : bO1 (some a) k = k a := rfl
theorem bO2_some {α β γ : Type} (a : α) (b : β) (k : α → β → Option γ) : bO2 (some (a, b)) k = k a b := rfl
theorem aw (m : Nat) : F22 (m + 60) = some true := by kernel_rfl
theorem ev22 : Ev (fun n => F22 n) true := ⟨60, fun n hn => by obtain ⟨m, rfl⟩ : ∃ m, n = m + 60 := ⟨n - 60, by omega⟩; exact aw m⟩

theorem drop_cons {L : List D} {i : Nat} {x : D} (h : L[i]? = some x) : L.drop i = x :: L.drop (i + 1) := by
  obtain ⟨hi, rfl⟩ := List.getElem?_eq_some_iff.1 h
  exact List.drop_eq_getElem_cons hi

/-- Long: a text that comes to an end. -/
theorem ev17 {L : List D} (hL : ListS tab 32 L) : ∃ r, Ev (fun n => F17 n L) r ∧ (r = false → L.length ≤ 2000) := by
  have loop : ∀ i, i ≤ L.length → ∃ r, Ev (fun n => L17_2 n L (i : Int)) r := by
    refine down L.length ⟨false, Ev.succ ?_⟩ (fun i hi ih => ?_)
    · simp only [L17_2, lenF, Int.lt_irrefl, if_false]
      exact Ev.succ (by simp only [L17_3, Bool.false_eq_true, if_false]; exact Ev.ret)
    · obtain ⟨x, hx, _, hr⟩ := hL.get hi
      obtain ⟨a, b, c, p, rfl, _⟩ := rs32 hr
      obtain ⟨r, ih⟩ := ih
      by_cases h : (100 : Int) < (p.length : Int)
      · refine ⟨true, Ev.succ ?_⟩
        simp only [L17_2, lenF, if_pos (ilt hi)]
        refine Ev.succ ?_
        simp only [L17_3, if_true, getF_nat hx, ds_t32, lenF, if_pos h]
        exact Ev.succ (by simp only [L17_4, if_true]; exact Ev.ret)
      · refine ⟨r, Ev.succ ?_⟩
        simp only [L17_2, lenF, if_pos (ilt hi)]
        refine Ev.succ ?_
        simp only [L17_3, if_true, getF_nat hx, ds_t32, lenF, if_neg h]
        refine Ev.succ ?_
        simp only [L17_4, Bool.false_eq_true, if_false, letF, wrap_succ hi hL.1]
        exact ih
  by_cases h : (2000 : Int) < (L.length : Int)
  · refine ⟨true, ?_, fun e => by cases e⟩
    simp only [F17, lenF, if_pos h]
    exact Ev.succ (by simp only [L17_1, if_true]; exact Ev.ret)
  · obtain ⟨r, hr⟩ := loop 0 (Nat.zero_le _)
    refine ⟨r, ?_, fun _ => by omega⟩
    simp only [F17, lenF, if_neg h]
    exact Ev.succ (by simp only [L17_1, Bool.false_eq_true, if_false]; exact hr)

/-- Paths are the same. -/
theorem ev50 {L M : List D} (hL : ListS tab 3 L) (hM : ListS tab 3 M) : ∃ r, Ev (fun n => F50 n L M) r ∧ (r = true ↔ L = M) := by
  by_cases e : L.length = M.length
  · have loop : ∀ i, i ≤ L.length → ∃ r, Ev (fun n => L50_2 n L M (L.length : Int) (i : Int)) r ∧ (r = true ↔ L.drop i = M.drop i) := by
      refine down L.length ⟨true, Ev.succ ?_, ?_⟩ (fun i hi ih => ?_)
      · simp only [L50_2, Int.lt_irrefl, if_false]
        exact Ev.succ (by simp only [L50_3, Bool.false_eq_true, if_false]; exact Ev.ret)
      · simp [e]
      · obtain ⟨x, hx, _, hr⟩ := hL.get hi
        obtain ⟨y, hy, _, hs⟩ := hM.get (show i < M.length by omega)
        obtain ⟨a, rfl, _⟩ := rs3 hr
        obtain ⟨b, rfl, _⟩ := rs3 hs
        obtain ⟨r, ih, ih2⟩ := ih
        rw [drop_cons hx, drop_cons hy]
        by_cases h : a = b
        · refine ⟨r, Ev.succ ?_, by rw [ih2, h]; simp⟩
          simp only [L50_2, if_pos (ilt hi)]
          refine Ev.succ ?_
          simp only [L50_3, if_true, getF_nat hx, getF_nat hy, ds_i64, if_pos h]
          refine Ev.succ ?_
          simp only [L50_4, Bool.false_eq_true, if_false, letF, wrap_succ hi hL.1]
          exact ih
        · refine ⟨false, Ev.succ ?_, by simp [h]⟩
          simp only [L50_2, if_pos (ilt hi)]
          refine Ev.succ ?_
          simp only [L50_3, if_true, getF_nat hx, getF_nat hy, ds_i64, if_neg h]
          exact Ev.succ (by simp only [L50_4, if_true]; exact Ev.ret)
    obtain ⟨r, h1, h2⟩ := loop 0 (Nat.zero_le _)
    refine ⟨r, ?_, by simpa using h2⟩
    simp only [F50, lenF, if_pos (show (L.length : Int) = (M.length : Int) by omega)]
    exact Ev.succ (by simp only [L50_1, Bool.false_eq_true, if_false, lenF]; exact h1)
  · refine ⟨false, ?_, by constructor <;> intro h; cases h; exact absurd (by rw [h]) e⟩
    simp only [F50, lenF, if_neg (show ¬ (L.length : Int) = (M.length : Int) by omega)]
    exact Ev.succ (by simp only [L50_1, if_true]; exact Ev.ret)
theorem take_listS {L : List D} {t : TypeId} (h : ListS tab t L) (i : Nat) : ListS tab t (L.take i) := ⟨by have := h.1; simp; omega, fun x hx => h.2 x (List.mem_of_mem_take hx)⟩
theorem nil_listS {t : TypeId} : ListS tab t [] := ⟨by simp, fun _ h => by cases h⟩

/-- One path begins the other. -/
theorem ev48 {L M : List D} (hL : ListS tab 3 L) (hM : ListS tab 3 M) : ∃ r, Ev (fun n => F48 n L M) r ∧ (r = true ↔ L <+: M) := by
  by_cases e : (L.length : Int) ≤ (M.length : Int)
  · obtain ⟨r, h1, h2⟩ := ev50 hL (take_listS hM L.length)
    refine ⟨r, ?_, ?_⟩
    · simp only [F48, lenF, if_pos e, sliceF]
      have : (0 : Int) ≤ 0 ∧ (0 : Int) ≤ (L.length : Int) ∧ (L.length : Int) ≤ (M.length : Int) := ⟨by omega, by omega, e⟩
      simp only [if_pos this]
      exact Ev.bO1 (by simpa using h1) Ev.ret
    · rw [h2, List.prefix_iff_eq_take]
  · refine ⟨false, ?_, by constructor <;> intro h; cases h; exact absurd h.length_le (by omega)⟩
    simp only [F48, lenF, if_neg e]; exact Ev.ret

theorem pre_nil {M : List D} : ([] : List D) <+: M := ⟨M, rfl⟩
/-- The document's 'one path begins the other'. -/
theorem ev49 (z1 z2 z3 z5 z6 z7 : Int) {L M : List D} (hL : ListS tab 3 L) (hM : ListS tab 3 M) :
    ∃ r, Ev (fun n => F49 n z1 z2 z3 L z5 z6 z7 M) r ∧ (r = true ↔ (z1 = 3 ∨ z5 = 3 ∨ L <+: M ∨ M <+: L)) := by
  have loop : ∀ i, i ≤ min L.length M.length → ∃ r, Ev (fun n => L49_2 n L M (i : Int)) r ∧ (r = true ↔ (L.drop i <+: M.drop i ∨ M.drop i <+: L.drop i)) := by
    refine down _ ⟨true, Ev.succ ?_, ?_⟩ (fun i hi ih => ?_)
    · simp only [L49_2, lenF]
      by_cases h : ((min L.length M.length : Nat) : Int) < (L.length : Int)
      · simp only [if_pos h, if_neg (show ¬ ((min L.length M.length : Nat) : Int) < (M.length : Int) by omega)]
        exact Ev.succ (by simp only [L49_3, Bool.false_eq_true, if_false]; exact Ev.ret)
      · simp only [if_neg h]
        exact Ev.succ (by simp only [L49_3, Bool.false_eq_true, if_false]; exact Ev.ret)
    · refine ⟨fun _ => ?_, fun _ => rfl⟩
      rcases Nat.le_total L.length M.length with h | h
      · left; rw [Nat.min_eq_left h, List.drop_length]; exact pre_nil
      · right; rw [Nat.min_eq_right h, List.drop_length]; exact pre_nil
    · have i1 : i < L.length := by omega
      have i2 : i < M.length := by omega
      obtain ⟨x, hx, _, hr⟩ := hL.get i1
      obtain ⟨y, hy, _, hs⟩ := hM.get i2
      obtain ⟨a, rfl, _⟩ := rs3 hr
      obtain ⟨b, rfl, _⟩ := rs3 hs
      obtain ⟨r, ih, ih2⟩ := ih
      rw [drop_cons hx, drop_cons hy, List.cons_prefix_cons, List.cons_prefix_cons]
      by_cases h : a = b
      · refine ⟨r, Ev.succ ?_, by rw [ih2, h]; simp⟩
        simp only [L49_2, lenF, if_pos (ilt i1), if_pos (ilt i2)]
        refine Ev.succ ?_
        simp only [L49_3, if_true, getF_nat hx, getF_nat hy, ds_i64, if_pos h]
        refine Ev.succ ?_
        simp only [L49_4, Bool.false_eq_true, if_false, letF, wrap_succ i1 hL.1]
        exact ih
      · refine ⟨false, Ev.succ ?_, by simp [h, Ne.symm h]⟩
        simp only [L49_2, lenF, if_pos (ilt i1), if_pos (ilt i2)]
        refine Ev.succ ?_
        simp only [L49_3, if_true, getF_nat hx, getF_nat hy, ds_i64, if_neg h]
        exact Ev.succ (by simp only [L49_4, if_true]; exact Ev.ret)
  by_cases h : z1 = 3
  · refine ⟨true, ?_, by simp [h]⟩
    simp only [F49, if_pos h]
    exact Ev.succ (by simp only [L49_1, if_true]; exact Ev.ret)
  · by_cases h2 : z5 = 3
    · refine ⟨true, ?_, by simp [h2]⟩
      simp only [F49, if_neg h, if_pos h2]
      exact Ev.succ (by simp only [L49_1, if_true]; exact Ev.ret)
    · obtain ⟨r, h1, h3⟩ := loop 0 (Nat.zero_le _)
      refine ⟨r, ?_, by simpa [h, h2] using h3⟩
      simp only [F49, if_neg h, if_neg h2]
      exact Ev.succ (by simp only [L49_1, Bool.false_eq_true, if_false]; exact h1)

abbrev acc (z : Int) : Prop := z = 1 ∨ z = 2 ∨ z = 4 ∨ z = 3
theorem e26 (n : Nat) (z1 z2 z3 : Int) (l : List D) : F26 n z1 z2 z3 l = some (decide (acc z1)) := by
  unfold F26 acc
  by_cases h1 : z1 = 1 <;> by_cases h2 : z1 = 2 <;> by_cases h3 : z1 = 4 <;> by_cases h4 : z1 = 3 <;> simp [h1, h2, h3, h4]
theorem e27 (n : Nat) (z1 z2 z3 : Int) (l : List D) : F27 n z1 z2 z3 l = some (decide (acc z1)) := e26 n z1 z2 z3 l
theorem e47 (n : Nat) (z1 z2 z3 : Int) (l : List D) : F47 n z1 z2 z3 l = some (decide (z1 = 2 ∨ z1 = 3)) := by
  unfold F47
  by_cases h2 : z1 = 2 <;> by_cases h4 : z1 = 3 <;> simp [h2, h4]
theorem ev46 (z1 z2 z3 : Int) (l : List D) : Ev (fun n => F46 n z1 z2 z3 l) (if z1 = 3 then [] else l) := by
  unfold F46
  by_cases h : z1 = 3
  · simp only [if_pos h]; exact Ev.succ (by simp only [L46_1, if_true]; exact Ev.ret)
  · simp only [if_neg h]; exact Ev.succ (by simp only [L46_1, Bool.false_eq_true, if_false]; exact Ev.ret)
def Conf (z1 z2 z3 : Int) (L : List D) (z5 z6 z7 : Int) (M : List D) : Prop :=
  acc z1 ∧ acc z5 ∧ z2 ≠ z6 ∧ z3 = z7 ∧ (z1 = 3 ∨ z5 = 3 ∨ L <+: M ∨ M <+: L) ∧ (z1 = 2 ∨ z1 = 3 ∨ z5 = 2 ∨ z5 = 3) ∧ ¬ (z1 = 4 ∧ z5 = 4)
theorem bEq {a b : Bool} (h : a = true ↔ b = true) : a = b := by cases a <;> cases b <;> simp_all

theorem ev25 (z1 z2 z3 z5 z6 z7 : Int) {L M : List D} (hL : ListS tab 3 L) (hM : ListS tab 3 M) :
    ∃ r, Ev (fun n => F25 n z1 z2 z3 L z5 z6 z7 M) r ∧ (r = true ↔ Conf z1 z2 z3 L z5 z6 z7 M) := by
  have stop : Ev (fun n => L25_1 n z1 z2 z3 L z5 z6 z7 M true) false := Ev.succ (by simp only [L25_1, if_true]; exact Ev.ret)
  unfold F25
  simp only [e26, bO1_some, letB]
  by_cases a1 : acc z1
  · simp only [decide_eq_true a1, Bool.not_true, Bool.false_eq_true, if_false]
    by_cases a2 : acc z5
    · simp only [decide_eq_true a2, Bool.not_true, Bool.false_eq_true, if_false]
      by_cases h1 : z2 = z6
      · simp only [if_pos h1]
        exact ⟨false, stop, by simp [Conf, h1]⟩
      · by_cases h2 : z3 = z7
        · simp only [if_neg h1, if_pos h2]
          have q1 : ListS tab 3 (if z1 = 3 then [] else L) := by split; exact nil_listS; exact hL
          have q2 : ListS tab 3 (if z5 = 3 then [] else M) := by split; exact nil_listS; exact hM
          obtain ⟨r1, v1, w1⟩ := ev48 q1 q2
          obtain ⟨r2, v2, w2⟩ := ev48 q2 q1
          have key : (r1 = true ∨ r2 = true) ↔ (z1 = 3 ∨ z5 = 3 ∨ L <+: M ∨ M <+: L) := by
            rw [w1, w2]
            by_cases g1 : z1 = 3
            · simp [g1]
            · by_cases g2 : z5 = 3
              · simp [g2]
              · simp [g1, g2]
          have fin : ∃ r, Ev (fun n => bO1 (F47 n z1 z2 z3 L) fun b17 => (if b17 = true then (if z1 = (4 : Int) then (if z5 = (4 : Int) then some false else some true) else some true) else bO1 (F47 n z5 z6 z7 M) fun b18 => (if b18 = true then (if z1 = (4 : Int) then (if z5 = (4 : Int) then some false else some true) else some true) else some false))) r ∧ (r = true ↔ ((z1 = 2 ∨ z1 = 3 ∨ z5 = 2 ∨ z5 = 3) ∧ ¬ (z1 = 4 ∧ z5 = 4))) := by
            simp only [e47, bO1_some]
            by_cases g1 : z1 = 2 ∨ z1 = 3
            · simp only [decide_eq_true g1, if_true]
              have : ¬ z1 = 4 := by omega
              simp only [if_neg this]
              exact ⟨true, Ev.ret, by simp only [true_iff]; omega⟩
            · by_cases g2 : z5 = 2 ∨ z5 = 3
              · simp only [decide_eq_true g2, decide_eq_false g1, Bool.false_eq_true, if_false, if_true]
                have : ¬ z5 = 4 := by omega
                simp only [if_neg this, ite_self]
                exact ⟨true, Ev.ret, by simp only [true_iff]; omega⟩
              · simp only [decide_eq_false g2, decide_eq_false g1, Bool.false_eq_true, if_false]
                exact ⟨false, Ev.ret, by simp only [Bool.false_eq_true, false_iff]; omega⟩
          obtain ⟨rf, vf, wf⟩ := fin
          have conf : Conf z1 z2 z3 L z5 z6 z7 M ↔ ((r1 = true ∨ r2 = true) ∧ rf = true) := by
            unfold Conf
            rw [key, wf]
            exact ⟨fun ⟨_, _, _, _, a, b, c⟩ => ⟨a, b, c⟩, fun ⟨a, b, c⟩ => ⟨a1, a2, h1, h2, a, b, c⟩⟩
          cases hr1 : r1
          · cases hr2 : r2
            · refine ⟨false, Ev.succ ?_, by rw [conf, hr1, hr2]; simp⟩
              simp only [L25_1, Bool.false_eq_true, if_false]
              refine Ev.bO1 (ev46 ..) (Ev.bO1 (ev46 ..) (Ev.bO1 v1 ?_))
              simp only [hr1, Bool.false_eq_true, if_false]
              refine Ev.bO1 v2 ?_
              simp only [hr2, Bool.false_eq_true, if_false]
              exact Ev.ret
            · refine ⟨rf, Ev.succ ?_, by rw [conf, hr1, hr2]; simp⟩
              simp only [L25_1, Bool.false_eq_true, if_false]
              refine Ev.bO1 (ev46 ..) (Ev.bO1 (ev46 ..) (Ev.bO1 v1 ?_))
              simp only [hr1, Bool.false_eq_true, if_false]
              refine Ev.bO1 v2 ?_
              simp only [hr2, if_true]
              exact vf
          · refine ⟨rf, Ev.succ ?_, by rw [conf, hr1]; simp⟩
            simp only [L25_1, Bool.false_eq_true, if_false]
            refine Ev.bO1 (ev46 ..) (Ev.bO1 (ev46 ..) (Ev.bO1 v1 ?_))
            simp only [hr1, if_true]
            exact vf
        · simp only [if_neg h1, if_neg h2]
          exact ⟨false, stop, by simp [Conf, h2]⟩
    · simp only [decide_eq_false a2, Bool.not_false, if_true]
      exact ⟨false, stop, by simp only [Bool.false_eq_true, false_iff]; exact fun h => a2 h.2.1⟩
  · simp only [decide_eq_false a1, Bool.not_false, if_true]
    exact ⟨false, stop, by simp only [Bool.false_eq_true, false_iff]; exact fun h => a1 h.1⟩

theorem ev28 (z1 z2 z3 z5 z6 z7 : Int) {L M : List D} (hL : ListS tab 3 L) (hM : ListS tab 3 M) :
    ∃ r, Ev (fun n => F28 n z1 z2 z3 L z5 z6 z7 M) r ∧ (r = true ↔ Conf z1 z2 z3 L z5 z6 z7 M) := by
  have stop : Ev (fun n => L28_1 n z1 z5 true) false := Ev.succ (by simp only [L28_1, if_true]; exact Ev.ret)
  unfold F28
  simp only [e27, bO1_some, letB]
  by_cases a1 : acc z1
  · simp only [decide_eq_true a1, Bool.not_true, Bool.false_eq_true, if_false]
    by_cases a2 : acc z5
    · simp only [decide_eq_true a2, Bool.not_true, Bool.false_eq_true, if_false]
      by_cases h1 : z2 = z6
      · simp only [if_pos h1]
        exact ⟨false, stop, by simp [Conf, h1]⟩
      · by_cases h2 : z3 = z7
        · simp only [if_neg h1, if_pos h2]
          obtain ⟨r1, v1, w1⟩ := ev49 z1 z2 z3 z5 z6 z7 hL hM
          cases hr1 : r1
          · refine ⟨false, Ev.bO1 v1 ?_, ?_⟩
            · simp only [hr1, Bool.not_false]; exact stop
            · simp only [Bool.false_eq_true, false_iff]
              intro h
              have := w1.2 h.2.2.2.2.1
              rw [hr1] at this; cases this
          · rw [hr1] at w1
            have w1 := w1.1 rfl
            have fin : ∃ r, Ev (fun n => L28_1 n z1 z5 false) r ∧ (r = true ↔ ((z1 = 2 ∨ z1 = 3 ∨ z5 = 2 ∨ z5 = 3) ∧ ¬ (z1 = 4 ∧ z5 = 4))) := by
              by_cases g : z1 = 4 ∧ z5 = 4
              · refine ⟨false, Ev.succ ?_, by simp [g]⟩
                simp only [L28_1, Bool.false_eq_true, if_false, if_pos g.1, if_pos g.2]
                exact Ev.succ (by simp only [L28_2, if_true]; exact Ev.ret)
              · by_cases g1 : z1 = 2 ∨ z1 = 3 ∨ z5 = 2 ∨ z5 = 3
                · refine ⟨true, Ev.succ ?_, by simp only [true_iff]; exact ⟨g1, g⟩⟩
                  have e : ∀ n, L28_1 (n + 1) z1 z5 false = L28_2 n z1 z5 false := by
                    intro n
                    simp only [L28_1, Bool.false_eq_true, if_false]
                    by_cases y : z1 = 4
                    · rw [if_pos y, if_neg (fun h => g ⟨y, h⟩)]
                    · rw [if_neg y]
                  simp only [e]
                  refine Ev.succ ?_
                  simp only [L28_2, Bool.false_eq_true, if_false]
                  by_cases y1 : z1 = 2
                  · simp only [if_pos y1]; exact Ev.ret
                  · by_cases y2 : z1 = 3
                    · simp only [if_neg y1, if_pos y2]; exact Ev.ret
                    · by_cases y3 : z5 = 2
                      · simp only [if_neg y1, if_neg y2, if_pos y3]; exact Ev.ret
                      · simp only [if_neg y1, if_neg y2, if_neg y3, if_pos (show z5 = 3 by omega)]; exact Ev.ret
                · refine ⟨false, Ev.succ ?_, by simp only [Bool.false_eq_true, false_iff]; exact fun h => g1 h.1⟩
                  have e : ∀ n, L28_1 (n + 1) z1 z5 false = L28_2 n z1 z5 false := by
                    intro n
                    simp only [L28_1, Bool.false_eq_true, if_false]
                    by_cases y : z1 = 4
                    · rw [if_pos y, if_neg (fun h => g ⟨y, h⟩)]
                    · rw [if_neg y]
                  simp only [e]
                  refine Ev.succ ?_
                  simp only [L28_2, Bool.false_eq_true, if_false, if_neg (show ¬ z1 = 2 by omega), if_neg (show ¬ z1 = 3 by omega), if_neg (show ¬ z5 = 2 by omega), if_neg (show ¬ z5 = 3 by omega)]
                  exact Ev.ret
            obtain ⟨r, v, w⟩ := fin
            refine ⟨r, Ev.bO1 v1 ?_, ?_⟩
            · simp only [hr1, Bool.not_true]; exact v
            · rw [w]
              exact ⟨fun ⟨b, c⟩ => ⟨a1, a2, h1, h2, w1, b, c⟩, fun ⟨_, _, _, _, _, b, c⟩ => ⟨b, c⟩⟩
        · simp only [if_neg h1, if_neg h2]
          exact ⟨false, stop, by simp [Conf, h2]⟩
    · simp only [decide_eq_false a2, Bool.not_false, if_true]
      exact ⟨false, stop, by simp only [Bool.false_eq_true, false_iff]; exact fun h => a2 h.2.1⟩
  · simp only [decide_eq_false a1, Bool.not_false, if_true]
    exact ⟨false, stop, by simp only [Bool.false_eq_true, false_iff]; exact fun h => a1 h.1⟩

def Same (z1 z2 z3 : Int) (L : List D) (z5 z6 z7 : Int) (M : List D) : Prop := z1 = z5 ∧ z2 = z6 ∧ z3 = z7 ∧ L = M
theorem ev29 (z1 z2 z3 z5 z6 z7 : Int) {L M : List D} (hL : ListS tab 3 L) (hM : ListS tab 3 M) :
    ∃ r, Ev (fun n => F29 n z1 z2 z3 L z5 z6 z7 M) r ∧ (r = true ↔ Same z1 z2 z3 L z5 z6 z7 M) := by
  obtain ⟨r, v, w⟩ := ev50 hL hM
  unfold F29 Same
  by_cases h1 : z1 = z5
  · by_cases h2 : z2 = z6
    · by_cases h3 : z3 = z7
      · simp only [if_pos h1, if_pos h2, if_pos h3]
        exact ⟨r, Ev.bO1 v Ev.ret, by simp [h1, h2, h3, w]⟩
      · simp only [if_pos h1, if_pos h2, if_neg h3]; exact ⟨false, Ev.ret, by simp [h3]⟩
    · simp only [if_pos h1, if_neg h2]; exact ⟨false, Ev.ret, by simp [h2]⟩
  · simp only [if_neg h1]; exact ⟨false, Ev.ret, by simp [h1]⟩
theorem ev30 (z1 z2 z3 z5 z6 z7 : Int) {L M : List D} (hL : ListS tab 3 L) (hM : ListS tab 3 M) :
    ∃ r, Ev (fun n => F30 n z1 z2 z3 L z5 z6 z7 M) r ∧ (r = true ↔ Same z1 z2 z3 L z5 z6 z7 M) := by
  have stop : Ev (fun n => L30_1 n L M true) false := Ev.succ (by simp only [L30_1, if_true]; exact Ev.ret)
  unfold F30 Same
  by_cases h1 : z1 = z5
  · by_cases h2 : z2 = z6
    · by_cases h3 : z3 = z7
      · simp only [if_pos h1, if_pos h2, if_pos h3, lenF]
        by_cases e : L.length = M.length
        · have loop : ∀ i, i ≤ L.length → ∃ r, Ev (fun n => L30_2 n L M (i : Int)) r ∧ (r = true ↔ L.drop i = M.drop i) := by
            refine down L.length ⟨true, Ev.succ ?_, ?_⟩ (fun i hi ih => ?_)
            · simp only [L30_2, lenF, Int.lt_irrefl, if_false]
              exact Ev.succ (by simp only [L30_3, Bool.false_eq_true, if_false]; exact Ev.ret)
            · simp [e]
            · obtain ⟨x, hx, _, hr⟩ := hL.get hi
              obtain ⟨y, hy, _, hs⟩ := hM.get (show i < M.length by omega)
              obtain ⟨a, rfl, _⟩ := rs3 hr
              obtain ⟨b, rfl, _⟩ := rs3 hs
              obtain ⟨r, ih, ih2⟩ := ih
              rw [drop_cons hx, drop_cons hy]
              by_cases h : a = b
              · refine ⟨r, Ev.succ ?_, by rw [ih2, h]; simp⟩
                simp only [L30_2, lenF, if_pos (ilt hi)]
                refine Ev.succ ?_
                simp only [L30_3, if_true, getF_nat hx, getF_nat hy, ds_i64, if_pos h]
                refine Ev.succ ?_
                simp only [L30_4, Bool.false_eq_true, if_false, letF, wrap_succ hi hL.1]
                exact ih
              · refine ⟨false, Ev.succ ?_, by simp [h]⟩
                simp only [L30_2, lenF, if_pos (ilt hi)]
                refine Ev.succ ?_
                simp only [L30_3, if_true, getF_nat hx, getF_nat hy, ds_i64, if_neg h]
                exact Ev.succ (by simp only [L30_4, if_true]; exact Ev.ret)
          obtain ⟨r, v1, v2⟩ := loop 0 (Nat.zero_le _)
          refine ⟨r, ?_, by simpa [h1, h2, h3] using v2⟩
          simp only [if_pos (show (L.length : Int) = (M.length : Int) by omega)]
          exact Ev.succ (by simp only [L30_1, Bool.false_eq_true, if_false]; exact v1)
        · simp only [if_neg (show ¬ (L.length : Int) = (M.length : Int) by omega)]
          exact ⟨false, stop, by simp only [Bool.false_eq_true, false_iff]; exact fun h => e (by rw [h.2.2.2])⟩
      · simp only [if_pos h1, if_pos h2, if_neg h3]; exact ⟨false, stop, by simp [h3]⟩
    · simp only [if_pos h1, if_neg h2]; exact ⟨false, stop, by simp [h2]⟩
  · simp only [if_neg h1]; exact ⟨false, stop, by simp [h1]⟩

theorem trace_conflict_trip : ∀ xs : List D, Shapes tab [32, 32] xs → Trip Tryd.prog inv 9 (xs.map V1.d) [] (.v (.d (.bool true))) [] [] := by
  intro xs h
  match xs, h with
  | [u, v], ⟨u1, u2, v1, v2, _⟩ =>
    have hu : RowS tab 32 u := ⟨u1, u2⟩
    have hv : RowS tab 32 v := ⟨v1, v2⟩
    have hl : ListS tab 32 [u, v] := ⟨by show 2 ≤ maxLen; decide, fun x hx => by
      rcases List.mem_cons.1 hx with rfl | hx
      · exact hu
      · rcases List.mem_cons.1 hx with rfl | hx
        · exact hv
        · cases hx⟩
    obtain ⟨a1, b1, c1, p1, rfl, _, _, _, hp⟩ := rs32 hu
    obtain ⟨a2, b2, c2, p2, rfl, _, _, _, hq⟩ := rs32 hv
    have law : Ev (fun n => F9 n a1 b1 c1 p1 a2 b2 c2 p2) true := by
      obtain ⟨r, hr, _⟩ := ev17 hl
      unfold F9
      refine Ev.bO1 hr ?_
      cases r
      · simp only [Bool.false_eq_true, if_false, e26, e27, bO1_some, letB, beq_self_eq_true, if_true]
        obtain ⟨s, v, w⟩ := ev25 a1 b1 c1 a2 b2 c2 hp hq
        obtain ⟨s', v', w'⟩ := ev28 a1 b1 c1 a2 b2 c2 hp hq
        obtain rfl : s = s' := bEq (w.trans w'.symm)
        refine Ev.bO1 v (Ev.bO1 v' ?_)
        simp only [beq_self_eq_true, if_true]
        obtain ⟨s, v, w⟩ := ev29 a1 b1 c1 a2 b2 c2 hp hq
        obtain ⟨s', v', w'⟩ := ev30 a1 b1 c1 a2 b2 c2 hp hq
        obtain rfl : s = s' := bEq (w.trans w'.symm)
        refine Ev.bO1 v (Ev.bO1 v' ?_)
        simp only [beq_self_eq_true, if_true]
        obtain ⟨s, v, w⟩ := ev29 a1 b1 c1 a1 b1 c1 hp hp
        obtain rfl : s = true := w.2 ⟨rfl, rfl, rfl, rfl⟩
        refine Ev.bO1 v ?_
        simp only [if_true]
        exact Ev.bO1 ev22 Ev.ret
      · simp only [if_true]; exact Ev.ret
    obtain ⟨n, hn⟩ := law.run
    exact T9 n hn
end Go.Proofs.YtjobleemmjjocaaDoor
end

/- Printed by lift.py: functional texts of functions, and their contracts. No condition. -/
set_option linter.unusedVariables false
noncomputable section
namespace Go.Proofs.YtjobleemmjjocaaDoor
open Go Go.AM
mutual
def L41_2 : Nat → (List D) → Int → Option (Bool)
  | 0, _, _ => none
  | n + 1, l1, z4 =>
    lenF l1 fun z5 => (if z4 < z5 then L41_3 n l1 z4 true else L41_3 n l1 z4 false)
def L41_3 : Nat → (List D) → Int → Bool → Option (Bool)
  | 0, _, _, _ => none
  | n + 1, l1, z4, b6 =>
    (if b6 = true then getF l1 z4 fun x7 => ds_i64 x7 fun z8 => (if z8 < (-1 : Int) then L41_4 n l1 z4 true else L41_4 n l1 z4 false) else some true)
def L41_4 : Nat → (List D) → Int → Bool → Option (Bool)
  | 0, _, _, _ => none
  | n + 1, l1, z4, b9 =>
    (if b9 = true then some false else letF (IntKind.wrap .i64 (z4 + 1)) fun z10 => L41_2 n l1 z10)
end
def L41_1 : Nat → (List D) → Bool → Option (Bool)
  | 0, _, _ => none
  | n + 1, l1, b3 =>
    (if b3 = true then some false else L41_2 n l1 (0 : Int))
def F41 (n : Nat) (l1 : List D) : Option (Bool) :=
  lenF l1 fun z2 => (if (40 : Int) < z2 then L41_1 n l1 true else L41_1 n l1 false)
set_option maxRecDepth 100000 in
set_option maxHeartbeats 40000000 in
theorem T41 (n : Nat) : ∀ ⦃l1 : List D⦄ ⦃r1 : Bool⦄, F41 n l1 = some r1 →
    Trip Tryd.prog inv 41 [.d (.list false 1 l1)] [] (.v (.d (.bool r1))) [] [] := by
  intro l1 r1 h
  unfold F41 at h
  refine Trip.of tab_ok tab_one fol Tryd.func41 rfl (by kernel_rfl) rfl rfl rfl (fun M hM hI => ?_)
  try cbv
  refine seq_go ?_
  try cbv
  refine seq_go ?_
  try cbv
  refine seq_join (T := Nat × Bool) (fun t => ⟨[(0, .v (.d (.list false 1 l1))), (2, .v (.d (.bool false))), (6, .v (.d (.bool t.2)))], [], 128⟩) (fun t => t.1 ≤ n ∧ L41_1 t.1 l1 t.2 = some r1) ?_ ?_
  · try cbv
    replace h := lenF_inv M h
    obtain ⟨z2, hz, h⟩ := h
    refine ⟨z2, hz, ?_⟩
    clear hz
    try cbv
    refine splitL (fun e => ?_) (fun e => ?_)
    · replace h := ite_t e h
      clear e
      try cbv
      exact join_next (n, true) [0, 2, 6] [] 128 ⟨by omega, h⟩ (by cbv)
    · replace h := ite_f (Int.not_lt.2 e) h
      clear e
      try cbv
      exact join_next (n, false) [0, 2, 6] [] 128 ⟨by omega, h⟩ (by cbv)
  · clear h
    rintro ⟨m1, b3⟩ ⟨hm1, h⟩
    replace hm1 : m1 ≤ n := hm1
    cases m1 with
    | zero =>
      replace h : L41_1 0 l1 b3 = some r1 := h
      rw [L41_1] at h
      cases h
    | succ m1 =>
      replace h : L41_1 (m1 + 1) l1 b3 = some r1 := h
      rw [L41_1] at h
      try cbv
      cases b3
      · replace h := ite_f Bool.false_ne_true h
        try cbv
        refine seq_go ?_
        try cbv
        refine seq_go ?_
        try cbv
        refine loop_inv (T := Nat × Int) [0, 2, 3] [] 160 (fun t => ⟨[(0, .v (.d (.list false 1 l1))), (2, .v (.d (.bool false))), (3, .v (.d (.int .i64 t.2)))], [], 160⟩)
          (fun t => t.1 ≤ m1 ∧ L41_2 t.1 l1 t.2 = some r1) (fun t => t.1) (m1, (0 : Int)) ⟨Nat.le_refl _, h⟩ (by cbv) ?_
        clear h
        rintro ⟨m2, z4⟩ ⟨hm2, h⟩
        replace hm2 : m2 ≤ m1 := hm2
        cases m2 with
        | zero =>
          replace h : L41_2 0 l1 z4 = some r1 := h
          rw [L41_2] at h
          cases h
        | succ m2 =>
          replace h : L41_2 (m2 + 1) l1 z4 = some r1 := h
          rw [L41_2] at h
          try cbv
          refine seq_go ?_
          try cbv
          refine seq_join (T := Nat × Bool) (fun t => ⟨[(0, .v (.d (.list false 1 l1))), (2, .v (.d (.bool false))), (3, .v (.d (.int .i64 z4))), (10, .v (.d (.bool t.2)))], [], 288⟩) (fun t => t.1 ≤ m2 ∧ L41_3 t.1 l1 z4 t.2 = some r1) ?_ ?_
          · try cbv
            replace h := lenF_inv M h
            obtain ⟨z5, hz, h⟩ := h
            refine ⟨z5, hz, ?_⟩
            clear hz
            try cbv
            refine splitL (fun e => ?_) (fun e => ?_)
            · replace h := ite_t e h
              clear e
              try cbv
              exact join_next (m2, true) [0, 2, 3, 10] [] 288 ⟨by omega, h⟩ (by cbv)
            · replace h := ite_f (Int.not_lt.2 e) h
              clear e
              try cbv
              exact join_next (m2, false) [0, 2, 3, 10] [] 288 ⟨by omega, h⟩ (by cbv)
          · clear h
            rintro ⟨m3, b6⟩ ⟨hm3, h⟩
            replace hm3 : m3 ≤ m2 := hm3
            cases m3 with
            | zero =>
              replace h : L41_3 0 l1 z4 b6 = some r1 := h
              rw [L41_3] at h
              cases h
            | succ m3 =>
              replace h : L41_3 (m3 + 1) l1 z4 b6 = some r1 := h
              rw [L41_3] at h
              try cbv
              cases b6
              · replace h := ite_f Bool.false_ne_true h
                try cbv
                refine seq_go ?_
                try cbv
                obtain rfl := Option.some.inj h
                refine fin_go ?_
                try cbv
                exact ⟨[], rfl, rfl, trivial, trivial, trivial⟩
              · replace h := ite_t rfl h
                try cbv
                refine seq_go ?_
                try cbv
                refine seq_join (T := Nat × Bool) (fun t => ⟨[(0, .v (.d (.list false 1 l1))), (2, .v (.d (.bool false))), (3, .v (.d (.int .i64 z4))), (17, .v (.d (.bool t.2)))], [], 448⟩) (fun t => t.1 ≤ m3 ∧ L41_4 t.1 l1 z4 t.2 = some r1) ?_ ?_
                · try cbv
                  replace h := getF_inv h
                  obtain ⟨x7, ⟨hx0, hx⟩, h⟩ := h
                  refine ⟨x7, hx0, hx, ?_⟩
                  clear hx0 hx
                  replace h := ds_i64_inv h
                  obtain ⟨z8, rfl, h⟩ := h
                  try cbv
                  refine splitL (fun e => ?_) (fun e => ?_)
                  · replace h := ite_t e h
                    clear e
                    try cbv
                    exact join_next (m3, true) [0, 2, 3, 17] [] 448 ⟨by omega, h⟩ (by cbv)
                  · replace h := ite_f (Int.not_lt.2 e) h
                    clear e
                    try cbv
                    exact join_next (m3, false) [0, 2, 3, 17] [] 448 ⟨by omega, h⟩ (by cbv)
                · clear h
                  rintro ⟨m4, b9⟩ ⟨hm4, h⟩
                  replace hm4 : m4 ≤ m3 := hm4
                  cases m4 with
                  | zero =>
                    replace h : L41_4 0 l1 z4 b9 = some r1 := h
                    rw [L41_4] at h
                    cases h
                  | succ m4 =>
                    replace h : L41_4 (m4 + 1) l1 z4 b9 = some r1 := h
                    rw [L41_4] at h
                    try cbv
                    cases b9
                    · replace h := ite_f Bool.false_ne_true h
                      try cbv
                      replace h := letF_inv h
                      obtain ⟨z10, hz, h⟩ := h
                      refine ⟨z10, hz, ?_⟩
                      clear hz
                      try cbv
                      exact loop_next (m4, z10) [0, 2, 3] [] 160 ⟨by omega, h⟩ (Nat.lt_succ_of_le (by omega)) (by cbv)
                    · replace h := ite_t rfl h
                      try cbv
                      refine seq_go ?_
                      try cbv
                      obtain rfl := Option.some.inj h
                      refine fin_go ?_
                      try cbv
                      exact ⟨[], rfl, rfl, trivial, trivial, trivial⟩
      · replace h := ite_t rfl h
        try cbv
        refine seq_go ?_
        try cbv
        obtain rfl := Option.some.inj h
        refine fin_go ?_
        try cbv
        exact ⟨[], rfl, rfl, trivial, trivial, trivial⟩
end Go.Proofs.YtjobleemmjjocaaDoor
end

/- Printed by lift.py: functional texts of functions, and their contracts. No condition. -/
set_option linter.unusedVariables false
noncomputable section
namespace Go.Proofs.YtjobleemmjjocaaDoor
open Go Go.AM
set_option maxHeartbeats 40000000 in
mutual
def L18_1 : Nat → (List D) → Int → (List D) → Option (Int × Int)
  | 0, _, _, _ => none
  | n + 1, l1, z3, l4 =>
    lenF l1 fun z5 => (if z3 < z5 then L18_2 n l1 z3 l4 true else L18_2 n l1 z3 l4 false)
def L18_2 : Nat → (List D) → Int → (List D) → Bool → Option (Int × Int)
  | 0, _, _, _, _ => none
  | n + 1, l1, z3, l4, b6 =>
    (if b6 = true then getF l1 z3 fun x7 => ds_t32 x7 fun z8 z9 z10 l11 => (if (65536 : Int) ≤ z3 then L18_3 n l1 z3 l4 z8 z9 z10 l11 true else (if z9 < (0 : Int) then L18_3 n l1 z3 l4 z8 z9 z10 l11 true else lenF l4 fun z12 => (if z12 ≤ z9 then L18_3 n l1 z3 l4 z8 z9 z10 l11 true else needF (0 ≤ z9 ∧ z9.toNat < l4.length) (getN l4 (z9.toNat) fun x13 => ds_bool x13 fun b14 => L18_3 n l1 z3 l4 z8 z9 z10 l11 b14)))) else lenF l4 fun z50 => some ((-1 : Int), z50))
def L18_3 : Nat → (List D) → Int → (List D) → Int → Int → Int → (List D) → Bool → Option (Int × Int)
  | 0, _, _, _, _, _, _, _, _ => none
  | n + 1, l1, z3, l4, z8, z9, z10, l11, b15 =>
    (if b15 = true then some (z3, (0 : Int)) else lenF l11 fun z16 => (if z16 = (0 : Int) then L18_4 n l1 z3 l4 z8 z9 z10 l11 true else L18_4 n l1 z3 l4 z8 z9 z10 l11 false))
def L18_4 : Nat → (List D) → Int → (List D) → Int → Int → Int → (List D) → Bool → Option (Int × Int)
  | 0, _, _, _, _, _, _, _, _ => none
  | n + 1, l1, z3, l4, z8, z9, z10, l11, b17 =>
    (if z8 = (1 : Int) then L18_5 n l1 z3 l4 z8 z9 z10 l11 b17 true else L18_5 n l1 z3 l4 z8 z9 z10 l11 b17 false)
def L18_5 : Nat → (List D) → Int → (List D) → Int → Int → Int → (List D) → Bool → Bool → Option (Int × Int)
  | 0, _, _, _, _, _, _, _, _, _ => none
  | n + 1, l1, z3, l4, z8, z9, z10, l11, b17, b18 =>
    (if b18 = true then L18_7 n l1 z3 l4 z8 z9 z10 l11 b17 true else (if z8 = (2 : Int) then L18_6 n l1 z3 l4 z8 z9 z10 l11 b17 true else L18_6 n l1 z3 l4 z8 z9 z10 l11 b17 false))
def L18_6 : Nat → (List D) → Int → (List D) → Int → Int → Int → (List D) → Bool → Bool → Option (Int × Int)
  | 0, _, _, _, _, _, _, _, _, _ => none
  | n + 1, l1, z3, l4, z8, z9, z10, l11, b17, b19 =>
    (if b19 = true then L18_7 n l1 z3 l4 z8 z9 z10 l11 b17 true else (if z8 = (4 : Int) then L18_7 n l1 z3 l4 z8 z9 z10 l11 b17 true else L18_7 n l1 z3 l4 z8 z9 z10 l11 b17 false))
def L18_7 : Nat → (List D) → Int → (List D) → Int → Int → Int → (List D) → Bool → Bool → Option (Int × Int)
  | 0, _, _, _, _, _, _, _, _, _ => none
  | n + 1, l1, z3, l4, z8, z9, z10, l11, b17, b20 =>
    (if b20 = true then (if (0 : Int) ≤ z10 then bO1 (F41 n l11) fun b21 => letB (!b21) fun b40 => (if b40 = true then some (z3, (0 : Int)) else letF (IntKind.wrap .i64 (z3 + 1)) fun z44 => L18_1 n l1 z44 l4) else some (z3, (0 : Int))) else (if z8 = (3 : Int) then L18_8 n l1 z3 l4 z8 z9 z10 b17 true else L18_8 n l1 z3 l4 z8 z9 z10 b17 false))
def L18_8 : Nat → (List D) → Int → (List D) → Int → Int → Int → Bool → Bool → Option (Int × Int)
  | 0, _, _, _, _, _, _, _, _ => none
  | n + 1, l1, z3, l4, z8, z9, z10, b17, b22 =>
    (if b22 = true then L18_10 n l1 z3 l4 z8 z9 z10 b17 true else (if z8 = (5 : Int) then L18_9 n l1 z3 l4 z8 z9 z10 b17 true else L18_9 n l1 z3 l4 z8 z9 z10 b17 false))
def L18_9 : Nat → (List D) → Int → (List D) → Int → Int → Int → Bool → Bool → Option (Int × Int)
  | 0, _, _, _, _, _, _, _, _ => none
  | n + 1, l1, z3, l4, z8, z9, z10, b17, b23 =>
    (if b23 = true then L18_10 n l1 z3 l4 z8 z9 z10 b17 true else (if z8 = (6 : Int) then L18_10 n l1 z3 l4 z8 z9 z10 b17 true else L18_10 n l1 z3 l4 z8 z9 z10 b17 false))
def L18_10 : Nat → (List D) → Int → (List D) → Int → Int → Int → Bool → Bool → Option (Int × Int)
  | 0, _, _, _, _, _, _, _, _ => none
  | n + 1, l1, z3, l4, z8, z9, z10, b17, b24 =>
    (if b24 = true then (if b17 = true then (if (0 : Int) ≤ z10 then letF (IntKind.wrap .i64 (z3 + 1)) fun z45 => L18_1 n l1 z45 l4 else some (z3, (0 : Int))) else some (z3, (0 : Int))) else (if z8 = (7 : Int) then L18_11 n l1 z3 l4 z8 z9 z10 b17 true else L18_11 n l1 z3 l4 z8 z9 z10 b17 false))
def L18_11 : Nat → (List D) → Int → (List D) → Int → Int → Int → Bool → Bool → Option (Int × Int)
  | 0, _, _, _, _, _, _, _, _ => none
  | n + 1, l1, z3, l4, z8, z9, z10, b17, b25 =>
    (if b25 = true then (if b17 = true then lenF l4 fun z26 => (if z10 = z26 then lenF l4 fun z27 => (if z27 < (65536 : Int) then L18_12 n l1 z3 l4 true else L18_12 n l1 z3 l4 false) else L18_12 n l1 z3 l4 false) else L18_12 n l1 z3 l4 false) else (if z8 = (8 : Int) then L18_13 n l1 z3 l4 z8 z9 z10 b17 true else L18_13 n l1 z3 l4 z8 z9 z10 b17 false))
def L18_12 : Nat → (List D) → Int → (List D) → Bool → Option (Int × Int)
  | 0, _, _, _, _ => none
  | n + 1, l1, z3, l4, b28 =>
    (if b28 = true then letL [.bool false] fun l29 => appF 1 l4 l29 fun l30 => letF (IntKind.wrap .i64 (z3 + 1)) fun z46 => L18_1 n l1 z46 l30 else some (z3, (0 : Int)))
def L18_13 : Nat → (List D) → Int → (List D) → Int → Int → Int → Bool → Bool → Option (Int × Int)
  | 0, _, _, _, _, _, _, _, _ => none
  | n + 1, l1, z3, l4, z8, z9, z10, b17, b31 =>
    (if b31 = true then (if b17 = true then (if (0 : Int) ≤ z10 then lenF l4 fun z32 => (if z10 < z32 then needF (0 ≤ z10 ∧ z10.toNat < l4.length) (getN l4 (z10.toNat) fun x33 => ds_bool x33 fun b34 => letB (!b34) fun b41 => (if b41 = true then some (z3, (0 : Int)) else letF (IntKind.wrap .i64 (z3 + 1)) fun z47 => L18_1 n l1 z47 l4)) else some (z3, (0 : Int))) else some (z3, (0 : Int))) else some (z3, (0 : Int))) else (if z8 = (9 : Int) then L18_14 n l1 z3 l4 z9 z10 b17 true else L18_14 n l1 z3 l4 z9 z10 b17 false))
def L18_14 : Nat → (List D) → Int → (List D) → Int → Int → Bool → Bool → Option (Int × Int)
  | 0, _, _, _, _, _, _, _ => none
  | n + 1, l1, z3, l4, z9, z10, b17, b35 =>
    (if b35 = true then (if b17 = true then (if z10 = (0 : Int) then L18_15 n l1 z3 l4 z9 true else L18_15 n l1 z3 l4 z9 false) else L18_15 n l1 z3 l4 z9 false) else some (z3, (0 : Int)))
def L18_15 : Nat → (List D) → Int → (List D) → Int → Bool → Option (Int × Int)
  | 0, _, _, _, _, _ => none
  | n + 1, l1, z3, l4, z9, b36 =>
    needF (0 ≤ z9 ∧ z9.toNat < l4.length) (getN l4 (z9.toNat) fun x37 => ds_bool x37 fun b38 => letB (!b36) fun b42 => (if b42 = true then some (z3, (0 : Int)) else letF (IntKind.wrap .i64 (z3 + 1)) fun z48 => setF l4 (z9.toNat) (.bool true) fun l49 => L18_1 n l1 z48 l49))
end
def F18 (n : Nat) (l1 : List D) : Option (Int × Int) :=
  letL [.bool false] fun l2 => L18_1 n l1 (0 : Int) l2
set_option maxRecDepth 100000 in
set_option maxHeartbeats 40000000 in
theorem T18 (n : Nat) : ∀ ⦃l1 : List D⦄ ⦃r1 : Int⦄ ⦃r2 : Int⦄, F18 n l1 = some (r1, r2) →
    Trip Tryd.prog inv 18 [.d (.list true 4 l1)] [] (.t [.d (.int .i64 r1), .d (.int .i64 r2)]) [] [] := by
  intro l1 r1 r2 h
  unfold F18 at h
  refine Trip.of tab_ok tab_one fol Tryd.func18 rfl (by kernel_rfl) rfl rfl rfl (fun M hM hI => ?_)
  try cbv
  refine seq_go ?_
  try cbv
  refine seq_go ?_
  try cbv
  refine ⟨true, ?_⟩
  try cbv
  refine ⟨[], ?_⟩
  try cbv
  replace h := letL_inv h
  obtain ⟨l2, hz, h⟩ := h
  refine ⟨l2, hz, ?_⟩
  clear hz
  try cbv
  refine seq_go ?_
  try cbv
  refine seq_go ?_
  try cbv
  refine loop_invG (T := Nat × Int × List D) [] [] [0, 2, 3, 4, 5] [.loc 64] 160 (fun t => ⟨[(0, .v (.d (.list true 4 l1))), (2, .v (.d (.int .i64 0))), (3, .v (.d (.int .i64 0))), (4, .v (.c (.ow (.loc 64)))), (5, .v (.d (.int .i64 t.2.1)))], [(.loc 64, .tree .row false 1 t.2.2 none)], 160⟩)
    (fun t => t.1 ≤ n ∧ L18_1 t.1 l1 t.2.1 t.2.2 = some (r1, r2)) (fun t => t.1) (n, ((0 : Int), l2)) ⟨Nat.le_refl _, h⟩ (by cbv) ?_
  clear h
  rintro ⟨m1, z3, l4⟩ ⟨hm1, h⟩
  replace hm1 : m1 ≤ n := hm1
  cases m1 with
  | zero =>
    replace h : L18_1 0 l1 z3 l4 = some (r1, r2) := h
    rw [L18_1] at h
    cases h
  | succ m1 =>
    replace h : L18_1 (m1 + 1) l1 z3 l4 = some (r1, r2) := h
    rw [L18_1] at h
    try cbv
    refine seq_go ?_
    try cbv
    refine seq_join (T := Nat × Bool) (fun t => ⟨[(0, .v (.d (.list true 4 l1))), (2, .v (.d (.int .i64 0))), (3, .v (.d (.int .i64 0))), (4, .v (.c (.ow (.loc 64)))), (5, .v (.d (.int .i64 z3))), (12, .v (.d (.bool t.2)))], [(.loc 64, .tree .row false 1 l4 none)], 288⟩) (fun t => t.1 ≤ m1 ∧ L18_2 t.1 l1 z3 l4 t.2 = some (r1, r2)) ?_ ?_
    · try cbv
      replace h := lenF_inv M h
      obtain ⟨z5, hz, h⟩ := h
      refine ⟨z5, hz, ?_⟩
      clear hz
      try cbv
      refine splitL (fun e => ?_) (fun e => ?_)
      · replace h := ite_t e h
        clear e
        try cbv
        exact join_next (m1, true) [0, 2, 3, 4, 5, 12] [.loc 64] 288 ⟨by omega, h⟩ (by cbv)
      · replace h := ite_f (Int.not_lt.2 e) h
        clear e
        try cbv
        exact join_next (m1, false) [0, 2, 3, 4, 5, 12] [.loc 64] 288 ⟨by omega, h⟩ (by cbv)
    · clear h
      rintro ⟨m2, b6⟩ ⟨hm2, h⟩
      replace hm2 : m2 ≤ m1 := hm2
      cases m2 with
      | zero =>
        replace h : L18_2 0 l1 z3 l4 b6 = some (r1, r2) := h
        rw [L18_2] at h
        cases h
      | succ m2 =>
        replace h : L18_2 (m2 + 1) l1 z3 l4 b6 = some (r1, r2) := h
        rw [L18_2] at h
        try cbv
        cases b6
        · replace h := ite_f Bool.false_ne_true h
          try cbv
          refine seq_go ?_
          try cbv
          replace h := lenF_inv M h
          obtain ⟨z50, hz, h⟩ := h
          refine ⟨false, ?_⟩
          try cbv
          refine ⟨z50, hz, ?_⟩
          clear hz
          try cbv
          obtain ⟨rfl, rfl⟩ := inj2 h
          refine fin_go ?_
          try cbv
          exact ⟨[], rfl, rfl, trivial, trivial, trivial⟩
        · replace h := ite_t rfl h
          try cbv
          refine seq_go ?_
          try cbv
          refine seq_go ?_
          try cbv
          replace h := getF_inv h
          obtain ⟨x7, ⟨hx0, hx⟩, h⟩ := h
          refine ⟨x7, hx0, hx, ?_⟩
          clear hx0 hx
          replace h := ds_t32_inv h
          obtain ⟨z8, z9, z10, l11, rfl, h⟩ := h
          try cbv
          refine seq_go ?_
          try cbv
          refine seq_join (T := Nat × Bool) (fun t => ⟨[(0, .v (.d (.list true 4 l1))), (2, .v (.d (.int .i64 0))), (3, .v (.d (.int .i64 0))), (4, .v (.c (.ow (.loc 64)))), (5, .v (.d (.int .i64 z3))), (6, .v (.c (.ptr (.loc 416) 0))), (39, .v (.d (.bool t.2)))], [(.loc 64, .tree .row false 1 l4 none), (.loc 416, .cells [.d (.int .u8 z8), .d (.int .i64 z9), .d (.int .i64 z10), .d (.list false 1 l11)])], 1152⟩) (fun t => t.1 ≤ m2 ∧ L18_3 t.1 l1 z3 l4 z8 z9 z10 l11 t.2 = some (r1, r2)) ?_ ?_
          · try cbv
            refine splitLe (fun e => ?_) (fun e => ?_)
            · replace h := ite_t e h
              clear e
              try cbv
              exact join_next (m2, true) [0, 2, 3, 4, 5, 6, 39] [.loc 64, .loc 416] 1152 ⟨by omega, h⟩ (by cbv)
            · replace h := ite_f (Int.not_le.2 e) h
              clear e
              try cbv
              refine splitL (fun e => ?_) (fun e => ?_)
              · replace h := ite_t e h
                clear e
                try cbv
                exact join_next (m2, true) [0, 2, 3, 4, 5, 6, 39] [.loc 64, .loc 416] 1152 ⟨by omega, h⟩ (by cbv)
              · replace h := ite_f (Int.not_lt.2 e) h
                clear e
                try cbv
                replace h := lenF_inv M h
                obtain ⟨z12, hz, h⟩ := h
                refine ⟨false, ?_⟩
                try cbv
                refine ⟨z12, hz, ?_⟩
                clear hz
                try cbv
                refine splitLe (fun e => ?_) (fun e => ?_)
                · replace h := ite_t e h
                  clear e
                  try cbv
                  exact join_next (m2, true) [0, 2, 3, 4, 5, 6, 39] [.loc 64, .loc 416] 1152 ⟨by omega, h⟩ (by cbv)
                · replace h := ite_f (Int.not_le.2 e) h
                  clear e
                  try cbv
                  replace h := needF_inv h
                  obtain ⟨hn, h⟩ := h
                  refine ⟨(M.lock_iff _).2 hn, ?_⟩
                  clear hn
                  try cbv
                  refine ⟨[], ?_⟩
                  try cbv
                  replace h := getN_inv h
                  obtain ⟨x13, hx, h⟩ := h
                  replace h := ds_bool_inv h
                  obtain ⟨b14, rfl, h⟩ := h
                  refine ⟨_, hx, ?_⟩
                  clear hx
                  try cbv
                  refine ⟨true, ?_⟩
                  try cbv
                  exact join_next (m2, b14) [0, 2, 3, 4, 5, 6, 39] [.loc 64, .loc 416] 1152 ⟨by omega, h⟩ (by cbv)
          · clear h
            rintro ⟨m3, b15⟩ ⟨hm3, h⟩
            replace hm3 : m3 ≤ m2 := hm3
            cases m3 with
            | zero =>
              replace h : L18_3 0 l1 z3 l4 z8 z9 z10 l11 b15 = some (r1, r2) := h
              rw [L18_3] at h
              cases h
            | succ m3 =>
              replace h : L18_3 (m3 + 1) l1 z3 l4 z8 z9 z10 l11 b15 = some (r1, r2) := h
              rw [L18_3] at h
              try cbv
              cases b15
              · replace h := ite_f Bool.false_ne_true h
                try cbv
                refine seq_join (T := Nat × Bool) (fun t => ⟨[(0, .v (.d (.list true 4 l1))), (2, .v (.d (.int .i64 0))), (3, .v (.d (.int .i64 0))), (4, .v (.c (.ow (.loc 64)))), (5, .v (.d (.int .i64 z3))), (6, .v (.c (.ptr (.loc 416) 0))), (7, .v (.d (.bool t.2)))], [(.loc 64, .tree .row false 1 l4 none), (.loc 416, .cells [.d (.int .u8 z8), .d (.int .i64 z9), .d (.int .i64 z10), .d (.list false 1 l11)])], 1312⟩) (fun t => t.1 ≤ m3 ∧ L18_4 t.1 l1 z3 l4 z8 z9 z10 l11 t.2 = some (r1, r2)) ?_ ?_
                · try cbv
                  replace h := lenF_inv M h
                  obtain ⟨z16, hz, h⟩ := h
                  refine ⟨z16, hz, ?_⟩
                  clear hz
                  try cbv
                  refine splitI (fun e => ?_) (fun e => ?_)
                  · replace h := ite_t e h
                    clear e
                    try cbv
                    exact join_next (m3, true) [0, 2, 3, 4, 5, 6, 7] [.loc 64, .loc 416] 1312 ⟨by omega, h⟩ (by cbv)
                  · replace h := ite_f e h
                    clear e
                    try cbv
                    exact join_next (m3, false) [0, 2, 3, 4, 5, 6, 7] [.loc 64, .loc 416] 1312 ⟨by omega, h⟩ (by cbv)
                · clear h
                  rintro ⟨m4, b17⟩ ⟨hm4, h⟩
                  replace hm4 : m4 ≤ m3 := hm4
                  cases m4 with
                  | zero =>
                    replace h : L18_4 0 l1 z3 l4 z8 z9 z10 l11 b17 = some (r1, r2) := h
                    rw [L18_4] at h
                    cases h
                  | succ m4 =>
                    replace h : L18_4 (m4 + 1) l1 z3 l4 z8 z9 z10 l11 b17 = some (r1, r2) := h
                    rw [L18_4] at h
                    try cbv
                    refine seq_go ?_
                    try cbv
                    refine seq_go ?_
                    try cbv
                    refine seq_join (T := Nat × Bool) (fun t => ⟨[(0, .v (.d (.list true 4 l1))), (2, .v (.d (.int .i64 0))), (3, .v (.d (.int .i64 0))), (4, .v (.c (.ow (.loc 64)))), (5, .v (.d (.int .i64 z3))), (6, .v (.c (.ptr (.loc 416) 0))), (7, .v (.d (.bool b17))), (46, .v (.d (.int .u8 z8))), (47, .v (.d (.bool t.2)))], [(.loc 64, .tree .row false 1 l4 none), (.loc 416, .cells [.d (.int .u8 z8), .d (.int .i64 z9), .d (.int .i64 z10), .d (.list false 1 l11)])], 1568⟩) (fun t => t.1 ≤ m4 ∧ L18_7 t.1 l1 z3 l4 z8 z9 z10 l11 b17 t.2 = some (r1, r2)) ?_ ?_
                    · try cbv
                      refine seq_join (T := Nat × Bool) (fun t => ⟨[(0, .v (.d (.list true 4 l1))), (2, .v (.d (.int .i64 0))), (3, .v (.d (.int .i64 0))), (4, .v (.c (.ow (.loc 64)))), (5, .v (.d (.int .i64 z3))), (6, .v (.c (.ptr (.loc 416) 0))), (7, .v (.d (.bool b17))), (46, .v (.d (.int .u8 z8))), (47, .v (.d (.bool t.2)))], [(.loc 64, .tree .row false 1 l4 none), (.loc 416, .cells [.d (.int .u8 z8), .d (.int .i64 z9), .d (.int .i64 z10), .d (.list false 1 l11)])], 1440⟩) (fun t => t.1 ≤ m4 ∧ L18_5 t.1 l1 z3 l4 z8 z9 z10 l11 b17 t.2 = some (r1, r2)) ?_ ?_
                      · try cbv
                        refine splitI (fun e => ?_) (fun e => ?_)
                        · replace h := ite_t e h
                          clear e
                          try cbv
                          exact join_next (m4, true) [0, 2, 3, 4, 5, 6, 7, 46, 47] [.loc 64, .loc 416] 1440 ⟨by omega, h⟩ (by cbv)
                        · replace h := ite_f e h
                          clear e
                          try cbv
                          exact join_next (m4, false) [0, 2, 3, 4, 5, 6, 7, 46, 47] [.loc 64, .loc 416] 1440 ⟨by omega, h⟩ (by cbv)
                      · clear h
                        rintro ⟨m5, b18⟩ ⟨hm5, h⟩
                        replace hm5 : m5 ≤ m4 := hm5
                        cases m5 with
                        | zero =>
                          replace h : L18_5 0 l1 z3 l4 z8 z9 z10 l11 b17 b18 = some (r1, r2) := h
                          rw [L18_5] at h
                          cases h
                        | succ m5 =>
                          replace h : L18_5 (m5 + 1) l1 z3 l4 z8 z9 z10 l11 b17 b18 = some (r1, r2) := h
                          rw [L18_5] at h
                          try cbv
                          cases b18
                          · replace h := ite_f Bool.false_ne_true h
                            try cbv
                            refine seq_join (T := Nat × Bool) (fun t => ⟨[(0, .v (.d (.list true 4 l1))), (2, .v (.d (.int .i64 0))), (3, .v (.d (.int .i64 0))), (4, .v (.c (.ow (.loc 64)))), (5, .v (.d (.int .i64 z3))), (6, .v (.c (.ptr (.loc 416) 0))), (7, .v (.d (.bool b17))), (46, .v (.d (.int .u8 z8))), (47, .v (.d (.bool t.2)))], [(.loc 64, .tree .row false 1 l4 none), (.loc 416, .cells [.d (.int .u8 z8), .d (.int .i64 z9), .d (.int .i64 z10), .d (.list false 1 l11)])], 1504⟩) (fun t => t.1 ≤ m5 ∧ L18_6 t.1 l1 z3 l4 z8 z9 z10 l11 b17 t.2 = some (r1, r2)) ?_ ?_
                            · try cbv
                              refine splitI (fun e => ?_) (fun e => ?_)
                              · replace h := ite_t e h
                                clear e
                                try cbv
                                exact join_next (m5, true) [0, 2, 3, 4, 5, 6, 7, 46, 47] [.loc 64, .loc 416] 1504 ⟨by omega, h⟩ (by cbv)
                              · replace h := ite_f e h
                                clear e
                                try cbv
                                exact join_next (m5, false) [0, 2, 3, 4, 5, 6, 7, 46, 47] [.loc 64, .loc 416] 1504 ⟨by omega, h⟩ (by cbv)
                            · clear h
                              rintro ⟨m6, b19⟩ ⟨hm6, h⟩
                              replace hm6 : m6 ≤ m5 := hm6
                              cases m6 with
                              | zero =>
                                replace h : L18_6 0 l1 z3 l4 z8 z9 z10 l11 b17 b19 = some (r1, r2) := h
                                rw [L18_6] at h
                                cases h
                              | succ m6 =>
                                replace h : L18_6 (m6 + 1) l1 z3 l4 z8 z9 z10 l11 b17 b19 = some (r1, r2) := h
                                rw [L18_6] at h
                                try cbv
                                cases b19
                                · replace h := ite_f Bool.false_ne_true h
                                  try cbv
                                  refine splitI (fun e => ?_) (fun e => ?_)
                                  · replace h := ite_t e h
                                    clear e
                                    try cbv
                                    exact join_next (m6, true) [0, 2, 3, 4, 5, 6, 7, 46, 47] [.loc 64, .loc 416] 1568 ⟨by omega, h⟩ (by cbv)
                                  · replace h := ite_f e h
                                    clear e
                                    try cbv
                                    exact join_next (m6, false) [0, 2, 3, 4, 5, 6, 7, 46, 47] [.loc 64, .loc 416] 1568 ⟨by omega, h⟩ (by cbv)
                                · replace h := ite_t rfl h
                                  try cbv
                                  exact join_next (m6, true) [0, 2, 3, 4, 5, 6, 7, 46, 47] [.loc 64, .loc 416] 1568 ⟨by omega, h⟩ (by cbv)
                          · replace h := ite_t rfl h
                            try cbv
                            exact join_next (m5, true) [0, 2, 3, 4, 5, 6, 7, 46, 47] [.loc 64, .loc 416] 1568 ⟨by omega, h⟩ (by cbv)
                    · clear h
                      rintro ⟨m7, b20⟩ ⟨hm7, h⟩
                      replace hm7 : m7 ≤ m4 := hm7
                      cases m7 with
                      | zero =>
                        replace h : L18_7 0 l1 z3 l4 z8 z9 z10 l11 b17 b20 = some (r1, r2) := h
                        rw [L18_7] at h
                        cases h
                      | succ m7 =>
                        replace h : L18_7 (m7 + 1) l1 z3 l4 z8 z9 z10 l11 b17 b20 = some (r1, r2) := h
                        rw [L18_7] at h
                        try cbv
                        cases b20
                        · replace h := ite_f Bool.false_ne_true h
                          try cbv
                          refine seq_join (T := Nat × Bool) (fun t => ⟨[(0, .v (.d (.list true 4 l1))), (2, .v (.d (.int .i64 0))), (3, .v (.d (.int .i64 0))), (4, .v (.c (.ow (.loc 64)))), (5, .v (.d (.int .i64 z3))), (6, .v (.c (.ptr (.loc 416) 0))), (7, .v (.d (.bool b17))), (46, .v (.d (.int .u8 z8))), (47, .v (.d (.bool false))), (59, .v (.d (.bool t.2)))], [(.loc 64, .tree .row false 1 l4 none), (.loc 416, .cells [.d (.int .u8 z8), .d (.int .i64 z9), .d (.int .i64 z10), .d (.list false 1 l11)])], 1760⟩) (fun t => t.1 ≤ m7 ∧ L18_10 t.1 l1 z3 l4 z8 z9 z10 b17 t.2 = some (r1, r2)) ?_ ?_
                          · try cbv
                            refine seq_join (T := Nat × Bool) (fun t => ⟨[(0, .v (.d (.list true 4 l1))), (2, .v (.d (.int .i64 0))), (3, .v (.d (.int .i64 0))), (4, .v (.c (.ow (.loc 64)))), (5, .v (.d (.int .i64 z3))), (6, .v (.c (.ptr (.loc 416) 0))), (7, .v (.d (.bool b17))), (46, .v (.d (.int .u8 z8))), (47, .v (.d (.bool false))), (59, .v (.d (.bool t.2)))], [(.loc 64, .tree .row false 1 l4 none), (.loc 416, .cells [.d (.int .u8 z8), .d (.int .i64 z9), .d (.int .i64 z10), .d (.list false 1 l11)])], 1632⟩) (fun t => t.1 ≤ m7 ∧ L18_8 t.1 l1 z3 l4 z8 z9 z10 b17 t.2 = some (r1, r2)) ?_ ?_
                            · try cbv
                              refine splitI (fun e => ?_) (fun e => ?_)
                              · replace h := ite_t e h
                                clear e
                                try cbv
                                exact join_next (m7, true) [0, 2, 3, 4, 5, 6, 7, 46, 47, 59] [.loc 64, .loc 416] 1632 ⟨by omega, h⟩ (by cbv)
                              · replace h := ite_f e h
                                clear e
                                try cbv
                                exact join_next (m7, false) [0, 2, 3, 4, 5, 6, 7, 46, 47, 59] [.loc 64, .loc 416] 1632 ⟨by omega, h⟩ (by cbv)
                            · clear h
                              rintro ⟨m8, b22⟩ ⟨hm8, h⟩
                              replace hm8 : m8 ≤ m7 := hm8
                              cases m8 with
                              | zero =>
                                replace h : L18_8 0 l1 z3 l4 z8 z9 z10 b17 b22 = some (r1, r2) := h
                                rw [L18_8] at h
                                cases h
                              | succ m8 =>
                                replace h : L18_8 (m8 + 1) l1 z3 l4 z8 z9 z10 b17 b22 = some (r1, r2) := h
                                rw [L18_8] at h
                                try cbv
                                cases b22
                                · replace h := ite_f Bool.false_ne_true h
                                  try cbv
                                  refine seq_join (T := Nat × Bool) (fun t => ⟨[(0, .v (.d (.list true 4 l1))), (2, .v (.d (.int .i64 0))), (3, .v (.d (.int .i64 0))), (4, .v (.c (.ow (.loc 64)))), (5, .v (.d (.int .i64 z3))), (6, .v (.c (.ptr (.loc 416) 0))), (7, .v (.d (.bool b17))), (46, .v (.d (.int .u8 z8))), (47, .v (.d (.bool false))), (59, .v (.d (.bool t.2)))], [(.loc 64, .tree .row false 1 l4 none), (.loc 416, .cells [.d (.int .u8 z8), .d (.int .i64 z9), .d (.int .i64 z10), .d (.list false 1 l11)])], 1696⟩) (fun t => t.1 ≤ m8 ∧ L18_9 t.1 l1 z3 l4 z8 z9 z10 b17 t.2 = some (r1, r2)) ?_ ?_
                                  · try cbv
                                    refine splitI (fun e => ?_) (fun e => ?_)
                                    · replace h := ite_t e h
                                      clear e
                                      try cbv
                                      exact join_next (m8, true) [0, 2, 3, 4, 5, 6, 7, 46, 47, 59] [.loc 64, .loc 416] 1696 ⟨by omega, h⟩ (by cbv)
                                    · replace h := ite_f e h
                                      clear e
                                      try cbv
                                      exact join_next (m8, false) [0, 2, 3, 4, 5, 6, 7, 46, 47, 59] [.loc 64, .loc 416] 1696 ⟨by omega, h⟩ (by cbv)
                                  · clear h
                                    rintro ⟨m9, b23⟩ ⟨hm9, h⟩
                                    replace hm9 : m9 ≤ m8 := hm9
                                    cases m9 with
                                    | zero =>
                                      replace h : L18_9 0 l1 z3 l4 z8 z9 z10 b17 b23 = some (r1, r2) := h
                                      rw [L18_9] at h
                                      cases h
                                    | succ m9 =>
                                      replace h : L18_9 (m9 + 1) l1 z3 l4 z8 z9 z10 b17 b23 = some (r1, r2) := h
                                      rw [L18_9] at h
                                      try cbv
                                      cases b23
                                      · replace h := ite_f Bool.false_ne_true h
                                        try cbv
                                        refine splitI (fun e => ?_) (fun e => ?_)
                                        · replace h := ite_t e h
                                          clear e
                                          try cbv
                                          exact join_next (m9, true) [0, 2, 3, 4, 5, 6, 7, 46, 47, 59] [.loc 64, .loc 416] 1760 ⟨by omega, h⟩ (by cbv)
                                        · replace h := ite_f e h
                                          clear e
                                          try cbv
                                          exact join_next (m9, false) [0, 2, 3, 4, 5, 6, 7, 46, 47, 59] [.loc 64, .loc 416] 1760 ⟨by omega, h⟩ (by cbv)
                                      · replace h := ite_t rfl h
                                        try cbv
                                        exact join_next (m9, true) [0, 2, 3, 4, 5, 6, 7, 46, 47, 59] [.loc 64, .loc 416] 1760 ⟨by omega, h⟩ (by cbv)
                                · replace h := ite_t rfl h
                                  try cbv
                                  exact join_next (m8, true) [0, 2, 3, 4, 5, 6, 7, 46, 47, 59] [.loc 64, .loc 416] 1760 ⟨by omega, h⟩ (by cbv)
                          · clear h
                            rintro ⟨m10, b24⟩ ⟨hm10, h⟩
                            replace hm10 : m10 ≤ m7 := hm10
                            cases m10 with
                            | zero =>
                              replace h : L18_10 0 l1 z3 l4 z8 z9 z10 b17 b24 = some (r1, r2) := h
                              rw [L18_10] at h
                              cases h
                            | succ m10 =>
                              replace h : L18_10 (m10 + 1) l1 z3 l4 z8 z9 z10 b17 b24 = some (r1, r2) := h
                              rw [L18_10] at h
                              try cbv
                              cases b24
                              · replace h := ite_f Bool.false_ne_true h
                                try cbv
                                refine seq_join (T := Nat × Bool) (fun t => ⟨[(0, .v (.d (.list true 4 l1))), (2, .v (.d (.int .i64 0))), (3, .v (.d (.int .i64 0))), (4, .v (.c (.ow (.loc 64)))), (5, .v (.d (.int .i64 z3))), (6, .v (.c (.ptr (.loc 416) 0))), (7, .v (.d (.bool b17))), (46, .v (.d (.int .u8 z8))), (47, .v (.d (.bool false))), (59, .v (.d (.bool false))), (69, .v (.d (.bool t.2)))], [(.loc 64, .tree .row false 1 l4 none), (.loc 416, .cells [.d (.int .u8 z8), .d (.int .i64 z9), .d (.int .i64 z10), .d (.list false 1 l11)])], 1824⟩) (fun t => t.1 ≤ m10 ∧ L18_11 t.1 l1 z3 l4 z8 z9 z10 b17 t.2 = some (r1, r2)) ?_ ?_
                                · try cbv
                                  refine splitI (fun e => ?_) (fun e => ?_)
                                  · replace h := ite_t e h
                                    clear e
                                    try cbv
                                    exact join_next (m10, true) [0, 2, 3, 4, 5, 6, 7, 46, 47, 59, 69] [.loc 64, .loc 416] 1824 ⟨by omega, h⟩ (by cbv)
                                  · replace h := ite_f e h
                                    clear e
                                    try cbv
                                    exact join_next (m10, false) [0, 2, 3, 4, 5, 6, 7, 46, 47, 59, 69] [.loc 64, .loc 416] 1824 ⟨by omega, h⟩ (by cbv)
                                · clear h
                                  rintro ⟨m11, b25⟩ ⟨hm11, h⟩
                                  replace hm11 : m11 ≤ m10 := hm11
                                  cases m11 with
                                  | zero =>
                                    replace h : L18_11 0 l1 z3 l4 z8 z9 z10 b17 b25 = some (r1, r2) := h
                                    rw [L18_11] at h
                                    cases h
                                  | succ m11 =>
                                    replace h : L18_11 (m11 + 1) l1 z3 l4 z8 z9 z10 b17 b25 = some (r1, r2) := h
                                    rw [L18_11] at h
                                    try cbv
                                    cases b25
                                    · replace h := ite_f Bool.false_ne_true h
                                      try cbv
                                      refine seq_join (T := Nat × Bool) (fun t => ⟨[(0, .v (.d (.list true 4 l1))), (2, .v (.d (.int .i64 0))), (3, .v (.d (.int .i64 0))), (4, .v (.c (.ow (.loc 64)))), (5, .v (.d (.int .i64 z3))), (6, .v (.c (.ptr (.loc 416) 0))), (7, .v (.d (.bool b17))), (46, .v (.d (.int .u8 z8))), (47, .v (.d (.bool false))), (59, .v (.d (.bool false))), (88, .v (.d (.bool t.2)))], [(.loc 64, .tree .row false 1 l4 none), (.loc 416, .cells [.d (.int .u8 z8), .d (.int .i64 z9), .d (.int .i64 z10), .d (.list false 1 l11)])], 1888⟩) (fun t => t.1 ≤ m11 ∧ L18_13 t.1 l1 z3 l4 z8 z9 z10 b17 t.2 = some (r1, r2)) ?_ ?_
                                      · try cbv
                                        refine splitI (fun e => ?_) (fun e => ?_)
                                        · replace h := ite_t e h
                                          clear e
                                          try cbv
                                          exact join_next (m11, true) [0, 2, 3, 4, 5, 6, 7, 46, 47, 59, 88] [.loc 64, .loc 416] 1888 ⟨by omega, h⟩ (by cbv)
                                        · replace h := ite_f e h
                                          clear e
                                          try cbv
                                          exact join_next (m11, false) [0, 2, 3, 4, 5, 6, 7, 46, 47, 59, 88] [.loc 64, .loc 416] 1888 ⟨by omega, h⟩ (by cbv)
                                      · clear h
                                        rintro ⟨m13, b31⟩ ⟨hm13, h⟩
                                        replace hm13 : m13 ≤ m11 := hm13
                                        cases m13 with
                                        | zero =>
                                          replace h : L18_13 0 l1 z3 l4 z8 z9 z10 b17 b31 = some (r1, r2) := h
                                          rw [L18_13] at h
                                          cases h
                                        | succ m13 =>
                                          replace h : L18_13 (m13 + 1) l1 z3 l4 z8 z9 z10 b17 b31 = some (r1, r2) := h
                                          rw [L18_13] at h
                                          try cbv
                                          cases b31
                                          · replace h := ite_f Bool.false_ne_true h
                                            try cbv
                                            refine seq_join (T := Nat × Bool) (fun t => ⟨[(0, .v (.d (.list true 4 l1))), (2, .v (.d (.int .i64 0))), (3, .v (.d (.int .i64 0))), (4, .v (.c (.ow (.loc 64)))), (5, .v (.d (.int .i64 z3))), (6, .v (.c (.ptr (.loc 416) 0))), (7, .v (.d (.bool b17))), (47, .v (.d (.bool false))), (59, .v (.d (.bool false))), (110, .v (.d (.bool t.2)))], [(.loc 64, .tree .row false 1 l4 none), (.loc 416, .cells [.d (.int .u8 z8), .d (.int .i64 z9), .d (.int .i64 z10), .d (.list false 1 l11)])], 1952⟩) (fun t => t.1 ≤ m13 ∧ L18_14 t.1 l1 z3 l4 z9 z10 b17 t.2 = some (r1, r2)) ?_ ?_
                                            · try cbv
                                              refine splitI (fun e => ?_) (fun e => ?_)
                                              · replace h := ite_t e h
                                                clear e
                                                try cbv
                                                exact join_next (m13, true) [0, 2, 3, 4, 5, 6, 7, 47, 59, 110] [.loc 64, .loc 416] 1952 ⟨by omega, h⟩ (by cbv)
                                              · replace h := ite_f e h
                                                clear e
                                                try cbv
                                                exact join_next (m13, false) [0, 2, 3, 4, 5, 6, 7, 47, 59, 110] [.loc 64, .loc 416] 1952 ⟨by omega, h⟩ (by cbv)
                                            · clear h
                                              rintro ⟨m14, b35⟩ ⟨hm14, h⟩
                                              replace hm14 : m14 ≤ m13 := hm14
                                              cases m14 with
                                              | zero =>
                                                replace h : L18_14 0 l1 z3 l4 z9 z10 b17 b35 = some (r1, r2) := h
                                                rw [L18_14] at h
                                                cases h
                                              | succ m14 =>
                                                replace h : L18_14 (m14 + 1) l1 z3 l4 z9 z10 b17 b35 = some (r1, r2) := h
                                                rw [L18_14] at h
                                                try cbv
                                                cases b35
                                                · replace h := ite_f Bool.false_ne_true h
                                                  try cbv
                                                  refine seq_go ?_
                                                  try cbv
                                                  refine ⟨true, rfl, ?_⟩
                                                  try cbv
                                                  refine seq_go ?_
                                                  try cbv
                                                  obtain ⟨rfl, rfl⟩ := inj2 h
                                                  refine fin_go ?_
                                                  try cbv
                                                  exact ⟨[], rfl, rfl, trivial, trivial, trivial⟩
                                                · replace h := ite_t rfl h
                                                  try cbv
                                                  refine seq_join (T := Nat × Bool) (fun t => ⟨[(0, .v (.d (.list true 4 l1))), (2, .v (.d (.int .i64 0))), (3, .v (.d (.int .i64 0))), (4, .v (.c (.ow (.loc 64)))), (5, .v (.d (.int .i64 z3))), (6, .v (.c (.ptr (.loc 416) 0))), (7, .v (.d (.bool t.2))), (47, .v (.d (.bool false))), (59, .v (.d (.bool false)))], [(.loc 64, .tree .row false 1 l4 none), (.loc 416, .cells [.d (.int .u8 z8), .d (.int .i64 z9), .d (.int .i64 z10), .d (.list false 1 l11)])], 2176⟩) (fun t => t.1 ≤ m14 ∧ L18_15 t.1 l1 z3 l4 z9 t.2 = some (r1, r2)) ?_ ?_
                                                  · try cbv
                                                    cases b17
                                                    · replace h := ite_f Bool.false_ne_true h
                                                      try cbv
                                                      exact join_next (m14, false) [0, 2, 3, 4, 5, 6, 7, 47, 59] [.loc 64, .loc 416] 2176 ⟨by omega, h⟩ (by cbv)
                                                    · replace h := ite_t rfl h
                                                      try cbv
                                                      refine splitI (fun e => ?_) (fun e => ?_)
                                                      · replace h := ite_t e h
                                                        clear e
                                                        try cbv
                                                        exact join_next (m14, true) [0, 2, 3, 4, 5, 6, 7, 47, 59] [.loc 64, .loc 416] 2176 ⟨by omega, h⟩ (by cbv)
                                                      · replace h := ite_f e h
                                                        clear e
                                                        try cbv
                                                        exact join_next (m14, false) [0, 2, 3, 4, 5, 6, 7, 47, 59] [.loc 64, .loc 416] 2176 ⟨by omega, h⟩ (by cbv)
                                                  · clear h
                                                    rintro ⟨m15, b36⟩ ⟨hm15, h⟩
                                                    replace hm15 : m15 ≤ m14 := hm15
                                                    cases m15 with
                                                    | zero =>
                                                      replace h : L18_15 0 l1 z3 l4 z9 b36 = some (r1, r2) := h
                                                      rw [L18_15] at h
                                                      cases h
                                                    | succ m15 =>
                                                      replace h : L18_15 (m15 + 1) l1 z3 l4 z9 b36 = some (r1, r2) := h
                                                      rw [L18_15] at h
                                                      try cbv
                                                      replace h := needF_inv h
                                                      obtain ⟨hn, h⟩ := h
                                                      refine ⟨(M.lock_iff _).2 hn, ?_⟩
                                                      clear hn
                                                      try cbv
                                                      refine ⟨[], ?_⟩
                                                      try cbv
                                                      replace h := getN_inv h
                                                      obtain ⟨x37, hx, h⟩ := h
                                                      replace h := ds_bool_inv h
                                                      obtain ⟨b38, rfl, h⟩ := h
                                                      refine ⟨_, hx, ?_⟩
                                                      clear hx
                                                      try cbv
                                                      refine seq_go ?_
                                                      try cbv
                                                      replace h := letB_inv h
                                                      obtain ⟨b42, hz, h⟩ := h
                                                      refine ⟨b42, not_eq' hz, ?_⟩
                                                      clear hz
                                                      try cbv
                                                      cases b42
                                                      · replace h := ite_f Bool.false_ne_true h
                                                        try cbv
                                                        replace h := letF_inv h
                                                        obtain ⟨z48, hz, h⟩ := h
                                                        refine ⟨z48, hz, ?_⟩
                                                        clear hz
                                                        try cbv
                                                        replace h := setF_inv h
                                                        obtain ⟨l49, hz0, h⟩ := h
                                                        refine loop_nextG (m15, (z48, l49)) [.close (.loc 64)] [] [0, 2, 3, 4, 5] [.loc 64] 160 ⟨by omega, h⟩ (Nat.lt_succ_of_le (by omega)) ?_
                                                        try cbv
                                                        first | exact ⟨l49, hz0, rfl⟩ | (refine ⟨l49, hz0, ?_⟩; cbv)
                                                      · replace h := ite_t rfl h
                                                        try cbv
                                                        refine seq_go ?_
                                                        try cbv
                                                        obtain ⟨rfl, rfl⟩ := inj2 h
                                                        refine fin_go ?_
                                                        try cbv
                                                        exact ⟨[], rfl, rfl, trivial, trivial, trivial⟩
                                          · replace h := ite_t rfl h
                                            try cbv
                                            cases b17
                                            · replace h := ite_f Bool.false_ne_true h
                                              try cbv
                                              refine seq_go ?_
                                              try cbv
                                              refine ⟨true, rfl, ?_⟩
                                              try cbv
                                              refine seq_go ?_
                                              try cbv
                                              obtain ⟨rfl, rfl⟩ := inj2 h
                                              refine fin_go ?_
                                              try cbv
                                              exact ⟨[], rfl, rfl, trivial, trivial, trivial⟩
                                            · replace h := ite_t rfl h
                                              try cbv
                                              refine splitLe (fun e => ?_) (fun e => ?_)
                                              · replace h := ite_t e h
                                                clear e
                                                try cbv
                                                replace h := lenF_inv M h
                                                obtain ⟨z32, hz, h⟩ := h
                                                refine ⟨false, ?_⟩
                                                try cbv
                                                refine ⟨z32, hz, ?_⟩
                                                clear hz
                                                try cbv
                                                refine splitL (fun e => ?_) (fun e => ?_)
                                                · replace h := ite_t e h
                                                  clear e
                                                  try cbv
                                                  replace h := needF_inv h
                                                  obtain ⟨hn, h⟩ := h
                                                  refine ⟨(M.lock_iff _).2 hn, ?_⟩
                                                  clear hn
                                                  try cbv
                                                  refine ⟨[], ?_⟩
                                                  try cbv
                                                  replace h := getN_inv h
                                                  obtain ⟨x33, hx, h⟩ := h
                                                  replace h := ds_bool_inv h
                                                  obtain ⟨b34, rfl, h⟩ := h
                                                  refine ⟨_, hx, ?_⟩
                                                  clear hx
                                                  try cbv
                                                  refine ⟨true, ?_⟩
                                                  try cbv
                                                  refine seq_go ?_
                                                  try cbv
                                                  replace h := letB_inv h
                                                  obtain ⟨b41, hz, h⟩ := h
                                                  refine ⟨b41, not_eq' hz, ?_⟩
                                                  clear hz
                                                  try cbv
                                                  cases b41
                                                  · replace h := ite_f Bool.false_ne_true h
                                                    try cbv
                                                    replace h := letF_inv h
                                                    obtain ⟨z47, hz, h⟩ := h
                                                    refine ⟨z47, hz, ?_⟩
                                                    clear hz
                                                    try cbv
                                                    refine loop_nextG (m13, (z47, l4)) [] [] [0, 2, 3, 4, 5] [.loc 64] 160 ⟨by omega, h⟩ (Nat.lt_succ_of_le (by omega)) ?_
                                                    try cbv
                                                  · replace h := ite_t rfl h
                                                    try cbv
                                                    refine seq_go ?_
                                                    try cbv
                                                    obtain ⟨rfl, rfl⟩ := inj2 h
                                                    refine fin_go ?_
                                                    try cbv
                                                    exact ⟨[], rfl, rfl, trivial, trivial, trivial⟩
                                                · replace h := ite_f (Int.not_lt.2 e) h
                                                  clear e
                                                  try cbv
                                                  refine seq_go ?_
                                                  try cbv
                                                  refine ⟨true, rfl, ?_⟩
                                                  try cbv
                                                  refine seq_go ?_
                                                  try cbv
                                                  obtain ⟨rfl, rfl⟩ := inj2 h
                                                  refine fin_go ?_
                                                  try cbv
                                                  exact ⟨[], rfl, rfl, trivial, trivial, trivial⟩
                                              · replace h := ite_f (Int.not_le.2 e) h
                                                clear e
                                                try cbv
                                                refine seq_go ?_
                                                try cbv
                                                refine ⟨true, rfl, ?_⟩
                                                try cbv
                                                refine seq_go ?_
                                                try cbv
                                                obtain ⟨rfl, rfl⟩ := inj2 h
                                                refine fin_go ?_
                                                try cbv
                                                exact ⟨[], rfl, rfl, trivial, trivial, trivial⟩
                                    · replace h := ite_t rfl h
                                      try cbv
                                      refine seq_join (T := Nat × Bool) (fun t => ⟨[(0, .v (.d (.list true 4 l1))), (2, .v (.d (.int .i64 0))), (3, .v (.d (.int .i64 0))), (4, .v (.c (.ow (.loc 64)))), (5, .v (.d (.int .i64 z3))), (6, .v (.c (.ptr (.loc 416) 0))), (7, .v (.d (.bool t.2))), (46, .v (.d (.int .u8 z8))), (47, .v (.d (.bool false))), (59, .v (.d (.bool false)))], [(.loc 64, .tree .row false 1 l4 none), (.loc 416, .cells [.d (.int .u8 z8), .d (.int .i64 z9), .d (.int .i64 z10), .d (.list false 1 l11)])], 2272⟩) (fun t => t.1 ≤ m11 ∧ L18_12 t.1 l1 z3 l4 t.2 = some (r1, r2)) ?_ ?_
                                      · try cbv
                                        cases b17
                                        · replace h := ite_f Bool.false_ne_true h
                                          try cbv
                                          exact join_next (m11, false) [0, 2, 3, 4, 5, 6, 7, 46, 47, 59] [.loc 64, .loc 416] 2272 ⟨by omega, h⟩ (by cbv)
                                        · replace h := ite_t rfl h
                                          try cbv
                                          replace h := lenF_inv M h
                                          obtain ⟨z26, hz, h⟩ := h
                                          refine ⟨false, ?_⟩
                                          try cbv
                                          refine ⟨z26, hz, ?_⟩
                                          clear hz
                                          try cbv
                                          refine splitI (fun e => ?_) (fun e => ?_)
                                          · replace h := ite_t e h
                                            clear e
                                            try cbv
                                            replace h := lenF_inv M h
                                            obtain ⟨z27, hz, h⟩ := h
                                            refine ⟨false, ?_⟩
                                            try cbv
                                            refine ⟨z27, hz, ?_⟩
                                            clear hz
                                            try cbv
                                            refine splitL (fun e => ?_) (fun e => ?_)
                                            · replace h := ite_t e h
                                              clear e
                                              try cbv
                                              exact join_next (m11, true) [0, 2, 3, 4, 5, 6, 7, 46, 47, 59] [.loc 64, .loc 416] 2272 ⟨by omega, h⟩ (by cbv)
                                            · replace h := ite_f (Int.not_lt.2 e) h
                                              clear e
                                              try cbv
                                              exact join_next (m11, false) [0, 2, 3, 4, 5, 6, 7, 46, 47, 59] [.loc 64, .loc 416] 2272 ⟨by omega, h⟩ (by cbv)
                                          · replace h := ite_f e h
                                            clear e
                                            try cbv
                                            exact join_next (m11, false) [0, 2, 3, 4, 5, 6, 7, 46, 47, 59] [.loc 64, .loc 416] 2272 ⟨by omega, h⟩ (by cbv)
                                      · clear h
                                        rintro ⟨m12, b28⟩ ⟨hm12, h⟩
                                        replace hm12 : m12 ≤ m11 := hm12
                                        cases m12 with
                                        | zero =>
                                          replace h : L18_12 0 l1 z3 l4 b28 = some (r1, r2) := h
                                          rw [L18_12] at h
                                          cases h
                                        | succ m12 =>
                                          replace h : L18_12 (m12 + 1) l1 z3 l4 b28 = some (r1, r2) := h
                                          rw [L18_12] at h
                                          try cbv
                                          refine seq_go ?_
                                          try cbv
                                          cases b28
                                          · replace h := ite_f Bool.false_ne_true h
                                            try cbv
                                            refine seq_go ?_
                                            try cbv
                                            refine ⟨true, rfl, ?_⟩
                                            try cbv
                                            refine seq_go ?_
                                            try cbv
                                            obtain ⟨rfl, rfl⟩ := inj2 h
                                            refine fin_go ?_
                                            try cbv
                                            exact ⟨[], rfl, rfl, trivial, trivial, trivial⟩
                                          · replace h := ite_t rfl h
                                            try cbv
                                            refine ⟨true, ?_⟩
                                            try cbv
                                            refine ⟨[], ?_⟩
                                            try cbv
                                            replace h := letL_inv h
                                            obtain ⟨l29, hz, h⟩ := h
                                            refine ⟨l29, hz, ?_⟩
                                            clear hz
                                            try cbv
                                            refine ⟨true, ?_⟩
                                            try cbv
                                            refine ⟨[], ?_⟩
                                            try cbv
                                            replace h := appF_inv h
                                            obtain ⟨l30, hb, hz, h⟩ := h
                                            refine ⟨(M.lock_iff _).2 hb, l30, hz, ?_⟩
                                            clear hb hz
                                            try cbv
                                            refine seq_go ?_
                                            try cbv
                                            refine ⟨false, rfl, ?_⟩
                                            try cbv
                                            replace h := letF_inv h
                                            obtain ⟨z46, hz, h⟩ := h
                                            refine ⟨z46, hz, ?_⟩
                                            clear hz
                                            try cbv
                                            refine loop_nextG (m12, (z46, l30)) [] [(2368, 64)] [0, 2, 3, 4, 5] [.loc 2368] 160 ⟨by omega, h⟩ (Nat.lt_succ_of_le (by omega)) ?_
                                            try cbv
                              · replace h := ite_t rfl h
                                try cbv
                                cases b17
                                · replace h := ite_f Bool.false_ne_true h
                                  try cbv
                                  refine seq_go ?_
                                  try cbv
                                  refine ⟨true, rfl, ?_⟩
                                  try cbv
                                  refine seq_go ?_
                                  try cbv
                                  obtain ⟨rfl, rfl⟩ := inj2 h
                                  refine fin_go ?_
                                  try cbv
                                  exact ⟨[], rfl, rfl, trivial, trivial, trivial⟩
                                · replace h := ite_t rfl h
                                  try cbv
                                  refine splitLe (fun e => ?_) (fun e => ?_)
                                  · replace h := ite_t e h
                                    clear e
                                    try cbv
                                    refine seq_go ?_
                                    try cbv
                                    refine ⟨false, rfl, ?_⟩
                                    try cbv
                                    replace h := letF_inv h
                                    obtain ⟨z45, hz, h⟩ := h
                                    refine ⟨z45, hz, ?_⟩
                                    clear hz
                                    try cbv
                                    refine loop_nextG (m10, (z45, l4)) [] [] [0, 2, 3, 4, 5] [.loc 64] 160 ⟨by omega, h⟩ (Nat.lt_succ_of_le (by omega)) ?_
                                    try cbv
                                  · replace h := ite_f (Int.not_le.2 e) h
                                    clear e
                                    try cbv
                                    refine seq_go ?_
                                    try cbv
                                    refine ⟨true, rfl, ?_⟩
                                    try cbv
                                    refine seq_go ?_
                                    try cbv
                                    obtain ⟨rfl, rfl⟩ := inj2 h
                                    refine fin_go ?_
                                    try cbv
                                    exact ⟨[], rfl, rfl, trivial, trivial, trivial⟩
                        · replace h := ite_t rfl h
                          try cbv
                          refine splitLe (fun e => ?_) (fun e => ?_)
                          · replace h := ite_t e h
                            clear e
                            try cbv
                            replace h := bO1_inv h
                            obtain ⟨b21, hr, h⟩ := h
                            refine call_go rfl rfl ?_
                            try cbv
                            refine call_pure hM hI (T41 _ hr) rfl ?_
                            clear hr
                            try cbv
                            refine seq_go ?_
                            try cbv
                            replace h := letB_inv h
                            obtain ⟨b40, hz, h⟩ := h
                            refine ⟨b40, not_eq' hz, ?_⟩
                            clear hz
                            try cbv
                            cases b40
                            · replace h := ite_f Bool.false_ne_true h
                              try cbv
                              replace h := letF_inv h
                              obtain ⟨z44, hz, h⟩ := h
                              refine ⟨z44, hz, ?_⟩
                              clear hz
                              try cbv
                              refine loop_nextG (m7, (z44, l4)) [] [] [0, 2, 3, 4, 5] [.loc 64] 160 ⟨by omega, h⟩ (Nat.lt_succ_of_le (by omega)) ?_
                              try cbv
                            · replace h := ite_t rfl h
                              try cbv
                              refine seq_go ?_
                              try cbv
                              obtain ⟨rfl, rfl⟩ := inj2 h
                              refine fin_go ?_
                              try cbv
                              exact ⟨[], rfl, rfl, trivial, trivial, trivial⟩
                          · replace h := ite_f (Int.not_le.2 e) h
                            clear e
                            try cbv
                            refine seq_go ?_
                            try cbv
                            refine ⟨true, rfl, ?_⟩
                            try cbv
                            refine seq_go ?_
                            try cbv
                            obtain ⟨rfl, rfl⟩ := inj2 h
                            refine fin_go ?_
                            try cbv
                            exact ⟨[], rfl, rfl, trivial, trivial, trivial⟩
              · replace h := ite_t rfl h
                try cbv
                refine seq_go ?_
                try cbv
                obtain ⟨rfl, rfl⟩ := inj2 h
                refine fin_go ?_
                try cbv
                exact ⟨[], rfl, rfl, trivial, trivial, trivial⟩
end Go.Proofs.YtjobleemmjjocaaDoor
end

/- Printed by lift.py: functional texts of functions, and their contracts. No condition. -/
set_option linter.unusedVariables false
noncomputable section
namespace Go.Proofs.YtjobleemmjjocaaDoor
open Go Go.AM
def F3 (n : Nat) (l1 : List D) : Option (Bool) :=
  bO1 (F17 n l1) fun b2 => (if b2 = true then some true else bO2 (F18 n l1) fun z3 z4 => bO1 (F19 n l1) fun z5 => (if z5 = z3 then bO1 (F20 n l1) fun z6 => (if z6 = z4 then bO1 (F21 n l1) fun z7 => (if z7 = (0 : Int) then (if z3 < (0 : Int) then (if z3 < (0 : Int) then bO1 (F22 n) fun b8 => some b8 else bO1 (F21 n l1) fun z9 => (if z9 = (250 : Int) then bO1 (F22 n) fun b10 => some b10 else some false)) else some false) else (if z3 < (0 : Int) then some false else (if z3 < (0 : Int) then bO1 (F22 n) fun b11 => some b11 else bO1 (F21 n l1) fun z12 => (if z12 = (250 : Int) then bO1 (F22 n) fun b13 => some b13 else some false)))) else some false) else some false))
set_option maxRecDepth 100000 in
set_option maxHeartbeats 40000000 in
theorem T3 (n : Nat) : ∀ ⦃l1 : List D⦄ ⦃r1 : Bool⦄, F3 n l1 = some r1 →
    Trip Tryd.prog inv 3 [.d (.list true 4 l1)] [] (.v (.d (.bool r1))) [] [] := by
  intro l1 r1 h
  unfold F3 at h
  refine Trip.of tab_ok tab_one fol Tryd.func3 rfl (by kernel_rfl) rfl rfl rfl (fun M hM hI => ?_)
  try cbv
  refine seq_go ?_
  try cbv
  refine seq_go ?_
  try cbv
  refine seq_go ?_
  try cbv
  replace h := bO1_inv h
  obtain ⟨b2, hr, h⟩ := h
  refine call_go rfl rfl ?_
  try cbv
  refine call_pure hM hI (T17 _ hr) rfl ?_
  clear hr
  try cbv
  cases b2
  · replace h := ite_f Bool.false_ne_true h
    try cbv
    refine seq_go ?_
    try cbv
    replace h := bO2_inv h
    obtain ⟨z3, z4, hr, h⟩ := h
    refine call_go rfl rfl ?_
    try cbv
    refine call_pure hM hI (T18 _ hr) rfl ?_
    clear hr
    try cbv
    refine seq_go ?_
    try cbv
    replace h := bO1_inv h
    obtain ⟨z5, hr, h⟩ := h
    refine call_go rfl rfl ?_
    try cbv
    refine call_pure hM hI (T19 _ hr) rfl ?_
    clear hr
    try cbv
    refine splitI (fun e => ?_) (fun e => ?_)
    · replace h := ite_t e h
      clear e
      try cbv
      replace h := bO1_inv h
      obtain ⟨z6, hr, h⟩ := h
      refine call_go rfl rfl ?_
      try cbv
      refine call_pure hM hI (T20 _ hr) rfl ?_
      clear hr
      try cbv
      refine splitI (fun e => ?_) (fun e => ?_)
      · replace h := ite_t e h
        clear e
        try cbv
        replace h := bO1_inv h
        obtain ⟨z7, hr, h⟩ := h
        refine call_go rfl rfl ?_
        try cbv
        refine call_pure hM hI (T21 _ hr) rfl ?_
        clear hr
        try cbv
        refine splitI (fun e => ?_) (fun e => ?_)
        · replace h := ite_t e h
          clear e
          try cbv
          refine splitL (fun e => ?_) (fun e => ?_)
          · replace h := ite_t e h
            clear e
            try cbv
            refine ⟨true, rfl, ?_⟩
            try cbv
            refine splitL (fun e => ?_) (fun e => ?_)
            · replace h := ite_t e h
              clear e
              try cbv
              replace h := bO1_inv h
              obtain ⟨b8, hr, h⟩ := h
              refine call_go rfl rfl ?_
              try cbv
              refine call_pure hM hI (T22 _ hr) rfl ?_
              clear hr
              try cbv
              obtain rfl := Option.some.inj h
              refine fin_go ?_
              try cbv
              exact ⟨[], rfl, rfl, trivial, trivial, trivial⟩
            · replace h := ite_f (Int.not_lt.2 e) h
              clear e
              try cbv
              replace h := bO1_inv h
              obtain ⟨z9, hr, h⟩ := h
              refine call_go rfl rfl ?_
              try cbv
              refine call_pure hM hI (T21 _ hr) rfl ?_
              clear hr
              try cbv
              refine splitI (fun e => ?_) (fun e => ?_)
              · replace h := ite_t e h
                clear e
                try cbv
                replace h := bO1_inv h
                obtain ⟨b10, hr, h⟩ := h
                refine call_go rfl rfl ?_
                try cbv
                refine call_pure hM hI (T22 _ hr) rfl ?_
                clear hr
                try cbv
                obtain rfl := Option.some.inj h
                refine fin_go ?_
                try cbv
                exact ⟨[], rfl, rfl, trivial, trivial, trivial⟩
              · replace h := ite_f e h
                clear e
                try cbv
                obtain rfl := Option.some.inj h
                refine fin_go ?_
                try cbv
                exact ⟨[], rfl, rfl, trivial, trivial, trivial⟩
          · replace h := ite_f (Int.not_lt.2 e) h
            clear e
            try cbv
            refine ⟨false, rfl, ?_⟩
            try cbv
            obtain rfl := Option.some.inj h
            refine fin_go ?_
            try cbv
            exact ⟨[], rfl, rfl, trivial, trivial, trivial⟩
        · replace h := ite_f e h
          clear e
          try cbv
          refine splitL (fun e => ?_) (fun e => ?_)
          · replace h := ite_t e h
            clear e
            try cbv
            refine ⟨false, rfl, ?_⟩
            try cbv
            obtain rfl := Option.some.inj h
            refine fin_go ?_
            try cbv
            exact ⟨[], rfl, rfl, trivial, trivial, trivial⟩
          · replace h := ite_f (Int.not_lt.2 e) h
            clear e
            try cbv
            refine ⟨true, rfl, ?_⟩
            try cbv
            refine splitL (fun e => ?_) (fun e => ?_)
            · replace h := ite_t e h
              clear e
              try cbv
              replace h := bO1_inv h
              obtain ⟨b11, hr, h⟩ := h
              refine call_go rfl rfl ?_
              try cbv
              refine call_pure hM hI (T22 _ hr) rfl ?_
              clear hr
              try cbv
              obtain rfl := Option.some.inj h
              refine fin_go ?_
              try cbv
              exact ⟨[], rfl, rfl, trivial, trivial, trivial⟩
            · replace h := ite_f (Int.not_lt.2 e) h
              clear e
              try cbv
              replace h := bO1_inv h
              obtain ⟨z12, hr, h⟩ := h
              refine call_go rfl rfl ?_
              try cbv
              refine call_pure hM hI (T21 _ hr) rfl ?_
              clear hr
              try cbv
              refine splitI (fun e => ?_) (fun e => ?_)
              · replace h := ite_t e h
                clear e
                try cbv
                replace h := bO1_inv h
                obtain ⟨b13, hr, h⟩ := h
                refine call_go rfl rfl ?_
                try cbv
                refine call_pure hM hI (T22 _ hr) rfl ?_
                clear hr
                try cbv
                obtain rfl := Option.some.inj h
                refine fin_go ?_
                try cbv
                exact ⟨[], rfl, rfl, trivial, trivial, trivial⟩
              · replace h := ite_f e h
                clear e
                try cbv
                obtain rfl := Option.some.inj h
                refine fin_go ?_
                try cbv
                exact ⟨[], rfl, rfl, trivial, trivial, trivial⟩
      · replace h := ite_f e h
        clear e
        try cbv
        obtain rfl := Option.some.inj h
        refine fin_go ?_
        try cbv
        exact ⟨[], rfl, rfl, trivial, trivial, trivial⟩
    · replace h := ite_f e h
      clear e
      try cbv
      obtain rfl := Option.some.inj h
      refine fin_go ?_
      try cbv
      exact ⟨[], rfl, rfl, trivial, trivial, trivial⟩
  · replace h := ite_t rfl h
    try cbv
    refine seq_go ?_
    try cbv
    obtain rfl := Option.some.inj h
    refine fin_go ?_
    try cbv
    exact ⟨[], rfl, rfl, trivial, trivial, trivial⟩
end Go.Proofs.YtjobleemmjjocaaDoor
end

/- Chapter 25, the plain law, part B: how far a trace may be read. No condition. -/
set_option linter.unusedVariables false
noncomputable section
namespace Go.Proofs.YtjobleemmjjocaaDoor
open Go Go.AM
open Classical

theorem all_drop {L : List D} {i : Nat} {x : D} (h : L[i]? = some x) (p : D → Bool) : (L.drop i).all p = (p x && (L.drop (i + 1)).all p) := by
  rw [drop_cons h, List.all_cons]
def ge1 : D → Bool
  | .int .i64 z => decide (-1 ≤ z)
  | _ => false
def okP (p : List D) : Bool := decide ((p.length : Int) ≤ 40) && p.all ge1

theorem ev41 {L : List D} (hL : ListS tab 3 L) : Ev (fun n => F41 n L) (okP L) := by
  have loop : ∀ i, i ≤ L.length → Ev (fun n => L41_2 n L (i : Int)) ((L.drop i).all ge1) := by
    refine down L.length (Ev.succ ?_) (fun i hi ih => ?_)
    · simp only [L41_2, lenF, Int.lt_irrefl, if_false]
      exact Ev.succ (by simp only [L41_3, Bool.false_eq_true, if_false, List.drop_length]; exact Ev.ret)
    · obtain ⟨x, hx, _, hr⟩ := hL.get hi
      obtain ⟨a, rfl, _⟩ := rs3 hr
      rw [all_drop hx]
      refine Ev.succ ?_
      simp only [L41_2, lenF, if_pos (ilt hi)]
      refine Ev.succ ?_
      by_cases h : a < -1
      · simp only [L41_3, if_true, getF_nat hx, ds_i64, if_pos h, ge1, decide_eq_false (show ¬ -1 ≤ a by omega), Bool.false_and]
        exact Ev.succ (by simp only [L41_4, if_true]; exact Ev.ret)
      · simp only [L41_3, if_true, getF_nat hx, ds_i64, if_neg h, ge1, decide_eq_true (show -1 ≤ a by omega), Bool.true_and]
        refine Ev.succ ?_
        simp only [L41_4, Bool.false_eq_true, if_false, letF, wrap_succ hi hL.1]
        exact ih
  unfold okP
  by_cases h : (40 : Int) < (L.length : Int)
  · simp only [F41, lenF, if_pos h, decide_eq_false (show ¬ (L.length : Int) ≤ 40 by omega), Bool.false_and]
    exact Ev.succ (by simp only [L41_1, if_true]; exact Ev.ret)
  · simp only [F41, lenF, if_neg h, decide_eq_true (show (L.length : Int) ≤ 40 by omega), Bool.true_and]
    exact Ev.succ (by simp only [L41_1, Bool.false_eq_true, if_false]; exact loop 0 (Nat.zero_le _))

theorem ev73 {L : List D} (hL : ListS tab 3 L) : ∃ r, Ev (fun n => F73 n L) r ∧ decide (0 ≤ r) = !L.all ge1 := by
  have loop : ∀ i, i ≤ L.length → ∃ r, Ev (fun n => L73_1 n L (L.length : Int) (i : Int)) r ∧ decide (0 ≤ r) = !(L.drop i).all ge1 := by
    refine down L.length ⟨-1, Ev.succ ?_, by simp⟩ (fun i hi ih => ?_)
    · simp only [L73_1, Int.lt_irrefl, if_false]
      exact Ev.succ (by simp only [L73_2, Bool.false_eq_true, if_false]; exact Ev.ret)
    · obtain ⟨x, hx, _, hr⟩ := hL.get hi
      obtain ⟨a, rfl, _⟩ := rs3 hr
      obtain ⟨r, h1, h2⟩ := ih
      rw [all_drop hx]
      by_cases h : a < -1
      · refine ⟨(i : Int), Ev.succ ?_, ?_⟩
        · simp only [L73_1, if_pos (ilt hi)]
          refine Ev.succ ?_
          simp only [L73_2, if_true, getF_nat hx, ds_i64, F96, if_pos h, bO1_some]
          exact Ev.ret
        · simp only [ge1, decide_eq_false (show ¬ -1 ≤ a by omega), Bool.false_and, Bool.not_false, decide_eq_true_eq]; omega
      · refine ⟨r, Ev.succ ?_, ?_⟩
        · simp only [L73_1, if_pos (ilt hi)]
          refine Ev.succ ?_
          simp only [L73_2, if_true, getF_nat hx, ds_i64, F96, if_neg h, bO1_some, Bool.false_eq_true, if_false, letF, wrap_succ hi hL.1]
          exact h1
        · simp only [ge1, decide_eq_true (show -1 ≤ a by omega), Bool.true_and]; exact h2
  obtain ⟨r, h1, h2⟩ := loop 0 (Nat.zero_le _)
  exact ⟨r, by simp only [F73, lenF]; exact h1, by simpa using h2⟩
theorem ev57 {L : List D} (hL : ListS tab 3 L) : Ev (fun n => F57 n L) (!L.all ge1) := by
  obtain ⟨r, h1, h2⟩ := ev73 hL
  unfold F57
  refine Ev.bO1 h1 ?_
  rw [← h2]
  by_cases h : 0 ≤ r <;> simp only [h, if_true, if_false, decide_true, decide_false] <;> exact Ev.ret
theorem ev89 {L : List D} (hL : ListS tab 3 L) : Ev (fun n => F89 n L) (okP L) := by
  unfold F89 okP
  by_cases h : (L.length : Int) ≤ 40
  · simp only [lenF, if_pos h, decide_eq_true h, Bool.true_and]
    refine Ev.bO1 (ev57 hL) ?_
    simp only [letB, Bool.not_not]
    exact Ev.ret
  · simp only [lenF, if_neg h, decide_eq_false h, Bool.false_and]; exact Ev.ret

/-- What one event does to what has ended. -/
def stepK (k t d : Int) (p E : List D) : Option (List D) :=
  if k = 1 ∨ k = 2 ∨ k = 4 then (if 0 ≤ d ∧ okP p = true then some E else none)
  else if k = 3 ∨ k = 5 ∨ k = 6 then (if 0 ≤ d ∧ p = [] then some E else none)
  else if k = 7 then (if d = (E.length : Int) ∧ (E.length : Int) < 65536 ∧ p = [] then some (E ++ [.bool false]) else none)
  else if k = 8 then (if p = [] ∧ 0 ≤ d ∧ d < (E.length : Int) ∧ E[d.toNat]? = some (.bool true) then some E else none)
  else if k = 9 then (if d = 0 ∧ p = [] then some (E.set t.toNat (.bool true)) else none)
  else none
def AllB (E : List D) : Prop := ∀ x ∈ E, ∃ b, x = .bool b

theorem lenz {p : List D} : ((p.length : Int) = 0) ↔ p = [] := by
  constructor
  · intro h; exact List.eq_nil_of_length_eq_zero (by omega)
  · rintro rfl; rfl
theorem getN_eq {γ : Type} {L : List D} {i : Nat} {x : D} {k : D → Option γ} (h : L[i]? = some x) : getN L i k = k x := by simp only [getN, h]
theorem AllB.get {E : List D} (h : AllB E) {i : Nat} (hi : i < E.length) : ∃ b, E[i]? = some (.bool b) := by
  obtain ⟨b, hb⟩ := h _ (List.getElem_mem hi)
  exact ⟨b, by rw [List.getElem?_eq_getElem hi, hb]⟩
theorem AllB.app {E : List D} (h : AllB E) (b : Bool) : AllB (E ++ [.bool b]) := fun x hx => by
  rcases List.mem_append.1 hx with hx | hx
  · exact h x hx
  · exact ⟨b, by simpa using hx⟩
theorem AllB.set {E : List D} (h : AllB E) (i : Nat) (b : Bool) : AllB (E.set i (.bool b)) := fun x hx => by
  rcases List.mem_or_eq_of_mem_set hx with hx | hx
  · exact h x hx
  · exact ⟨b, hx⟩
theorem stepK_ok {k t d : Int} {p E E' : List D} (h : stepK k t d p E = some E') (hE : AllB E) (hl : (E.length : Int) ≤ 65536) : AllB E' ∧ (E'.length : Int) ≤ 65536 := by
  unfold stepK at h
  split at h
  · split at h
    · cases h; exact ⟨hE, hl⟩
    · cases h
  · split at h
    · split at h
      · cases h; exact ⟨hE, hl⟩
      · cases h
    · split at h
      · split at h
        · rename_i c; cases h; exact ⟨hE.app _, by simp; omega⟩
        · cases h
      · split at h
        · split at h
          · cases h; exact ⟨hE, hl⟩
          · cases h
        · split at h
          · split at h
            · cases h; exact ⟨hE.set _ _, by simpa using hl⟩
            · cases h
          · cases h

theorem app_ok {E : List D} (h : (E.length : Int) ≤ 65536) : E.length + [D.bool false].length ≤ maxLen ∧ (E.length + [D.bool false].length) * 1 ≤ 140737488355328 := by
  have : (9223372036854775807 : Nat) ≤ maxLen ∨ (140737488355328 : Nat) ≤ maxLen ∨ (70000 : Nat) ≤ maxLen := by right; right; decide
  simp only [List.length_cons, List.length_nil]
  omega

theorem refK {L : List D} (hL : L.length ≤ maxLen) {i : Nat} (hi : i < L.length) {k t d : Int} {p E : List D} (hp : ListS tab 3 p) (hE : AllB E) (hl : (E.length : Int) ≤ 65536)
    (ht : 0 ≤ t) (ht2 : t.toNat < E.length) (hy : E[t.toNat]? = some (.bool false)) {r : Int × Int}
    (hbad : stepK k t d p E = none → r = ((i : Int), 0)) (hgood : ∀ E', stepK k t d p E = some E' → Ev (fun n => L18_1 n L ((i + 1 : Nat) : Int) E') r) :
    Ev (fun n => L18_4 n L (i : Int) E k t d p (decide (p = []))) r := by
  have hw := wrap_succ hi hL
  have acc3 : (k = 1 ∨ k = 2 ∨ k = 4) → Ev (fun n => L18_7 n L (i : Int) E k t d p (decide (p = [])) true) r := by
    intro hk
    refine Ev.succ ?_
    by_cases c : 0 ≤ d
    · simp only [L18_7, if_true, if_pos c]
      refine Ev.bO1 (ev41 hp) ?_
      simp only [letB, letF, hw]
      cases ho : okP p
      · obtain rfl := hbad (by simp [stepK, hk, ho])
        exact Ev.ret
      · exact hgood _ (by simp [stepK, hk, ho, c])
    · simp only [L18_7, if_true, if_neg c]
      obtain rfl := hbad (by simp [stepK, hk, c])
      exact Ev.ret
  have acc5 : (k = 3 ∨ k = 5 ∨ k = 6) → Ev (fun n => L18_10 n L (i : Int) E k t d (decide (p = [])) true) r := by
    intro hk
    have hk2 : ¬ (k = 1 ∨ k = 2 ∨ k = 4) := by omega
    refine Ev.succ ?_
    simp only [L18_10, if_true, decide_eq_true_eq, letF, hw]
    by_cases c2 : p = []
    · by_cases c : 0 ≤ d
      · simp only [if_pos c2, if_pos c]
        exact hgood _ (by simp only [stepK, if_neg hk2, if_pos hk, if_pos (And.intro c c2)])
      · simp only [if_pos c2, if_neg c]
        obtain rfl := hbad (by simp only [stepK, if_neg hk2, if_pos hk, if_neg (fun h => c (And.left h))])
        exact Ev.ret
    · simp only [if_neg c2]
      obtain rfl := hbad (by simp only [stepK, if_neg hk2, if_pos hk, if_neg (fun h => c2 (And.right h))])
      exact Ev.ret
  by_cases k1 : k = 1
  · refine Ev.succ ?_; simp only [L18_4, if_pos k1]
    refine Ev.succ ?_; simp only [L18_5, if_true]
    exact acc3 (by omega)
  refine Ev.succ ?_; simp only [L18_4, if_neg k1]
  by_cases k2 : k = 2
  · refine Ev.succ ?_; simp only [L18_5, Bool.false_eq_true, if_false, if_pos k2]
    refine Ev.succ ?_; simp only [L18_6, if_true]
    exact acc3 (by omega)
  refine Ev.succ ?_; simp only [L18_5, Bool.false_eq_true, if_false, if_neg k2]
  by_cases k4 : k = 4
  · refine Ev.succ ?_; simp only [L18_6, Bool.false_eq_true, if_false, if_pos k4]
    exact acc3 (by omega)
  refine Ev.succ ?_; simp only [L18_6, Bool.false_eq_true, if_false, if_neg k4]
  by_cases k3 : k = 3
  · refine Ev.succ ?_; simp only [L18_7, Bool.false_eq_true, if_false, if_pos k3]
    refine Ev.succ ?_; simp only [L18_8, if_true]
    exact acc5 (by omega)
  refine Ev.succ ?_; simp only [L18_7, Bool.false_eq_true, if_false, if_neg k3]
  by_cases k5 : k = 5
  · refine Ev.succ ?_; simp only [L18_8, Bool.false_eq_true, if_false, if_pos k5]
    refine Ev.succ ?_; simp only [L18_9, if_true]
    exact acc5 (by omega)
  refine Ev.succ ?_; simp only [L18_8, Bool.false_eq_true, if_false, if_neg k5]
  by_cases k6 : k = 6
  · refine Ev.succ ?_; simp only [L18_9, Bool.false_eq_true, if_false, if_pos k6]
    exact acc5 (by omega)
  refine Ev.succ ?_; simp only [L18_9, Bool.false_eq_true, if_false, if_neg k6]
  have n1 : ¬ (k = 1 ∨ k = 2 ∨ k = 4) := by omega
  have n2 : ¬ (k = 3 ∨ k = 5 ∨ k = 6) := by omega
  by_cases k7 : k = 7
  · refine Ev.succ ?_; simp only [L18_10, Bool.false_eq_true, if_false, if_pos k7]
    refine Ev.succ ?_
    have e : stepK k t d p E = if d = (E.length : Int) ∧ (E.length : Int) < 65536 ∧ p = [] then some (E ++ [.bool false]) else none := by
      simp only [stepK, if_neg n1, if_neg n2, if_pos k7]
    have stop : (stepK k t d p E = none) → Ev (fun n => L18_12 n L (i : Int) E false) r := by
      intro h
      obtain rfl := hbad h
      exact Ev.succ (by simp only [L18_12, Bool.false_eq_true, if_false]; exact Ev.ret)
    simp only [L18_11]
    simp only [if_true, decide_eq_true_eq]
    dsimp only [lenF]
    by_cases c : p = []
    · by_cases c2 : d = (E.length : Int)
      · by_cases c3 : (E.length : Int) < 65536
        · simp only [if_pos c, if_pos c2, if_pos c3]
          refine Ev.succ ?_
          simp only [L18_12, if_true, letL, appF, if_pos (app_ok hl), letF, hw]
          exact hgood _ (by rw [e, if_pos ⟨c2, c3, c⟩])
        · simp only [if_pos c, if_pos c2, if_neg c3]
          exact stop (by rw [e, if_neg (fun h => c3 h.2.1)])
      · simp only [if_pos c, if_neg c2]
        exact stop (by rw [e, if_neg (fun h => c2 h.1)])
    · simp only [if_neg c]
      exact stop (by rw [e, if_neg (fun h => c h.2.2)])
  refine Ev.succ ?_; simp only [L18_10, Bool.false_eq_true, if_false, if_neg k7]
  by_cases k8 : k = 8
  · refine Ev.succ ?_; simp only [L18_11, Bool.false_eq_true, if_false, if_pos k8]
    refine Ev.succ ?_
    have e : stepK k t d p E = if p = [] ∧ 0 ≤ d ∧ d < (E.length : Int) ∧ E[d.toNat]? = some (.bool true) then some E else none := by
      simp only [stepK, if_neg n1, if_neg n2, if_neg k7, if_pos k8]
    simp only [L18_13, if_true, decide_eq_true_eq, lenF]
    by_cases c : p = []
    · by_cases c2 : 0 ≤ d
      · by_cases c3 : d < (E.length : Int)
        · obtain ⟨b, hb⟩ := hE.get (show d.toNat < E.length by omega)
          simp only [if_pos c, if_pos c2, if_pos c3, needF, if_pos (show 0 ≤ d ∧ d.toNat < E.length by omega), getN_eq hb, ds_bool, letB, letF, hw]
          cases b
          · obtain rfl := hbad (by rw [e, if_neg (fun h => by have := h.2.2.2; rw [hb] at this; cases this)])
            exact Ev.ret
          · exact hgood _ (by rw [e, if_pos ⟨c, c2, c3, hb⟩])
        · simp only [if_pos c, if_pos c2, if_neg c3]
          obtain rfl := hbad (by rw [e, if_neg (fun h => c3 h.2.2.1)])
          exact Ev.ret
      · simp only [if_pos c, if_neg c2]
        obtain rfl := hbad (by rw [e, if_neg (fun h => c2 h.2.1)])
        exact Ev.ret
    · simp only [if_neg c]
      obtain rfl := hbad (by rw [e, if_neg (fun h => c h.1)])
      exact Ev.ret
  refine Ev.succ ?_; simp only [L18_11, Bool.false_eq_true, if_false, if_neg k8]
  by_cases k9 : k = 9
  · refine Ev.succ ?_; simp only [L18_13, Bool.false_eq_true, if_false, if_pos k9]
    have e : stepK k t d p E = if d = 0 ∧ p = [] then some (E.set t.toNat (.bool true)) else none := by
      simp only [stepK, if_neg n1, if_neg n2, if_neg k7, if_neg k8, if_pos k9]
    have stop : (stepK k t d p E = none) → Ev (fun n => L18_15 n L (i : Int) E t false) r := by
      intro h
      obtain rfl := hbad h
      refine Ev.succ ?_
      simp only [L18_15, needF, if_pos (show 0 ≤ t ∧ t.toNat < E.length from ⟨ht, ht2⟩), getN_eq hy, ds_bool, letB, Bool.not_false, if_true]
      exact Ev.ret
    refine Ev.succ ?_
    simp only [L18_14, if_true, decide_eq_true_eq]
    by_cases c : p = []
    · by_cases c2 : d = 0
      · simp only [if_pos c, if_pos c2]
        refine Ev.succ ?_
        simp only [L18_15, needF, if_pos (show 0 ≤ t ∧ t.toNat < E.length from ⟨ht, ht2⟩), getN_eq hy, ds_bool, letB, Bool.not_true, Bool.false_eq_true, if_false, letF, setF, hw]
        exact hgood _ (by rw [e, if_pos ⟨c2, c⟩])
      · simp only [if_pos c, if_neg c2]
        exact stop (by rw [e, if_neg (fun h => c2 h.1)])
    · simp only [if_neg c]
      exact stop (by rw [e, if_neg (fun h => c h.2)])
  refine Ev.succ ?_; simp only [L18_13, Bool.false_eq_true, if_false, if_neg k9]
  refine Ev.succ ?_; simp only [L18_14, Bool.false_eq_true, if_false]
  obtain rfl := hbad (by simp only [stepK, if_neg n1, if_neg n2, if_neg k7, if_neg k8, if_neg k9])
  exact Ev.ret

def stepS (k t d : Int) (p E : List D) : Option (List D) :=
  if 0 ≤ t ∧ t.toNat < E.length ∧ E[t.toNat]? = some (.bool false) then stepK k t d p E else none

theorem refS {L : List D} (hL : L.length ≤ maxLen) {i : Nat} (hi : i < L.length) {k t d : Int} {p E : List D} (hx : L[i]? = some (.agg [.int .u8 k, .int .i64 t, .int .i64 d, .list false 1 p])) (hp : ListS tab 3 p) (hE : AllB E) (hl : (E.length : Int) ≤ 65536) {r : Int × Int}
    (hbad : (65536 ≤ (i : Int) ∨ stepS k t d p E = none) → r = ((i : Int), 0)) (hgood : (i : Int) < 65536 → ∀ E', stepS k t d p E = some E' → Ev (fun n => L18_1 n L ((i + 1 : Nat) : Int) E') r) :
    Ev (fun n => L18_1 n L (i : Int) E) r := by
  refine Ev.succ ?_
  simp only [L18_1, lenF, if_pos (ilt hi)]
  refine Ev.succ ?_
  simp only [L18_2, if_true, getF_nat hx, ds_t32, lenF]
  have stop : (65536 ≤ (i : Int) ∨ stepS k t d p E = none) → Ev (fun n => L18_3 n L (i : Int) E k t d p true) r := by
    intro h
    obtain rfl := hbad h
    exact Ev.succ (by simp only [L18_3, if_true]; exact Ev.ret)
  by_cases c : 65536 ≤ (i : Int)
  · simp only [if_pos c]; exact stop (.inl c)
  simp only [if_neg c]
  by_cases c1 : t < 0
  · simp only [if_pos c1]; exact stop (.inr (by unfold stepS; rw [if_neg (fun h => by omega)]))
  simp only [if_neg c1]
  by_cases c2 : (E.length : Int) ≤ t
  · simp only [if_pos c2]; exact stop (.inr (by unfold stepS; rw [if_neg (fun h => by omega)]))
  have q1 : 0 ≤ t := by omega
  have q2 : t.toNat < E.length := by omega
  obtain ⟨b, hb⟩ := hE.get q2
  simp only [if_neg c2, needF, if_pos (And.intro q1 q2), getN_eq hb, ds_bool]
  cases b
  · have e : stepS k t d p E = stepK k t d p E := by unfold stepS; rw [if_pos ⟨q1, q2, hb⟩]
    refine Ev.succ ?_
    have k4 := refK hL hi hp hE hl q1 q2 hb (fun h => hbad (.inr (by rw [e]; exact h))) (fun E' h => hgood (by omega) E' (by rw [e]; exact h))
    simp only [L18_3, Bool.false_eq_true, if_false, lenF, lenz]
    by_cases z : p = []
    · simp only [if_pos z]; simp only [decide_eq_true z] at k4; exact k4
    · simp only [if_neg z]; simp only [decide_eq_false z] at k4; exact k4
  · exact stop (.inr (by unfold stepS; rw [if_neg (fun h => by have := h.2.2; rw [hb] at this; cases this)]))

theorem ev81K {k t d : Int} {p E : List D} (hp : ListS tab 3 p) (hE : AllB E) (hl : (E.length : Int) ≤ 65536)
    (ht : 0 ≤ t) (ht2 : t.toNat < E.length) (hy : E[t.toNat]? = some (.bool false)) :
    ∃ s, Ev (fun n => L81_1 n k t d p E false) s ∧ (match stepK k t d p E with | none => ∃ E', s = .inl (false, E') | some E' => s = .inl (true, E') ∨ s = .inr E') := by
  have acc3 : (k = 1 ∨ k = 2 ∨ k = 4) → ∃ s, Ev (fun n => L81_4 n k t d p E true) s ∧ (match stepK k t d p E with | none => ∃ E', s = .inl (false, E') | some E' => s = .inl (true, E') ∨ s = .inr E') := by
    intro hk
    by_cases c : 0 ≤ d
    · refine ⟨.inl (okP p, E), Ev.succ ?_, ?_⟩
      · simp only [L81_4, if_true, if_pos c]
        exact Ev.bO1 (ev89 hp) Ev.ret
      · simp only [stepK, if_pos hk, c, true_and]
        cases okP p
        · exact ⟨E, rfl⟩
        · exact .inl rfl
    · refine ⟨.inl (false, E), Ev.succ ?_, ?_⟩
      · simp only [L81_4, if_true, if_neg c]
        exact Ev.ret
      · simp only [stepK, if_pos hk, c, false_and, if_false]
        exact ⟨E, rfl⟩
  have acc5 : (k = 3 ∨ k = 5 ∨ k = 6) → ∃ s, Ev (fun n => L81_11 n d p E) s ∧ (match stepK k t d p E with | none => ∃ E', s = .inl (false, E') | some E' => s = .inl (true, E') ∨ s = .inr E') := by
    intro hk
    have hk2 : ¬ (k = 1 ∨ k = 2 ∨ k = 4) := by omega
    have e : stepK k t d p E = if 0 ≤ d ∧ p = [] then some E else none := by simp only [stepK, if_neg hk2, if_pos hk]
    rw [e]
    by_cases c : 0 ≤ d
    · by_cases c2 : p = []
      · refine ⟨.inl (true, E), Ev.succ ?_, ?_⟩
        · simp only [L81_11, if_pos c, lenF, lenz, if_pos c2]; exact Ev.ret
        · rw [if_pos ⟨c, c2⟩]; exact .inl rfl
      · refine ⟨.inl (false, E), Ev.succ ?_, ?_⟩
        · simp only [L81_11, if_pos c, lenF, lenz, if_neg c2]; exact Ev.ret
        · rw [if_neg (fun h => c2 h.2)]; exact ⟨E, rfl⟩
    · refine ⟨.inl (false, E), Ev.succ ?_, ?_⟩
      · simp only [L81_11, if_neg c]; exact Ev.ret
      · rw [if_neg (fun h => c h.1)]; exact ⟨E, rfl⟩
  have lift : ∀ {A B : Nat → Option ((Bool × List D) ⊕ List D)}, (∀ n, B (n + 1) = A n) → (∃ s, Ev A s ∧ (match stepK k t d p E with | none => ∃ E', s = .inl (false, E') | some E' => s = .inl (true, E') ∨ s = .inr E')) → ∃ s, Ev B s ∧ (match stepK k t d p E with | none => ∃ E', s = .inl (false, E') | some E' => s = .inl (true, E') ∨ s = .inr E') := by
    rintro A B h ⟨s, h1, h2⟩
    exact ⟨s, Ev.succ (by simp only [h]; exact h1), h2⟩
  by_cases k1 : k = 1
  · refine lift (A := fun n => L81_2 n k t d p E true) (fun n => by simp only [L81_1, Bool.false_eq_true, if_false, if_pos k1]) ?_
    refine lift (A := fun n => L81_4 n k t d p E true) (fun n => by simp only [L81_2, if_true]) (acc3 (by omega))
  refine lift (A := fun n => L81_2 n k t d p E false) (fun n => by simp only [L81_1, Bool.false_eq_true, if_false, if_neg k1]) ?_
  by_cases k2 : k = 2
  · refine lift (A := fun n => L81_3 n k t d p E true) (fun n => by simp only [L81_2, Bool.false_eq_true, if_false, if_pos k2]) ?_
    refine lift (A := fun n => L81_4 n k t d p E true) (fun n => by simp only [L81_3, if_true]) (acc3 (by omega))
  refine lift (A := fun n => L81_3 n k t d p E false) (fun n => by simp only [L81_2, Bool.false_eq_true, if_false, if_neg k2]) ?_
  by_cases k4 : k = 4
  · refine lift (A := fun n => L81_4 n k t d p E true) (fun n => by simp only [L81_3, Bool.false_eq_true, if_false, if_pos k4]) (acc3 (by omega))
  refine lift (A := fun n => L81_4 n k t d p E false) (fun n => by simp only [L81_3, Bool.false_eq_true, if_false, if_neg k4]) ?_
  by_cases k3 : k = 3
  · refine lift (A := fun n => L81_5 n k t d p E true) (fun n => by simp only [L81_4, Bool.false_eq_true, if_false, if_pos k3]) ?_
    refine lift (A := fun n => L81_11 n d p E) (fun n => by simp only [L81_5, if_true]) (acc5 (by omega))
  refine lift (A := fun n => L81_5 n k t d p E false) (fun n => by simp only [L81_4, Bool.false_eq_true, if_false, if_neg k3]) ?_
  by_cases k5 : k = 5
  · refine lift (A := fun n => L81_6 n k t d p E true) (fun n => by simp only [L81_5, Bool.false_eq_true, if_false, if_pos k5]) ?_
    refine lift (A := fun n => L81_7 n k t d p E true) (fun n => by simp only [L81_6, if_true]) ?_
    refine lift (A := fun n => L81_11 n d p E) (fun n => by simp only [L81_7, if_true]) (acc5 (by omega))
  refine lift (A := fun n => L81_6 n k t d p E false) (fun n => by simp only [L81_5, Bool.false_eq_true, if_false, if_neg k5]) ?_
  by_cases k6 : k = 6
  · refine lift (A := fun n => L81_7 n k t d p E true) (fun n => by simp only [L81_6, Bool.false_eq_true, if_false, if_pos k6]) ?_
    refine lift (A := fun n => L81_11 n d p E) (fun n => by simp only [L81_7, if_true]) (acc5 (by omega))
  refine lift (A := fun n => L81_7 n k t d p E false) (fun n => by simp only [L81_6, Bool.false_eq_true, if_false, if_neg k6]) ?_
  have n1 : ¬ (k = 1 ∨ k = 2 ∨ k = 4) := by omega
  have n2 : ¬ (k = 3 ∨ k = 5 ∨ k = 6) := by omega
  by_cases k7 : k = 7
  · have e : stepK k t d p E = if d = (E.length : Int) ∧ (E.length : Int) < 65536 ∧ p = [] then some (E ++ [.bool false]) else none := by
      simp only [stepK, if_neg n1, if_neg n2, if_pos k7]
    refine lift (A := fun n => L81_8 n k t d p E true) (fun n => by simp only [L81_7, Bool.false_eq_true, if_false, if_pos k7]) ?_
    rw [e]
    by_cases c : d = (E.length : Int) ∧ (E.length : Int) < 65536 ∧ p = []
    · refine ⟨.inr (E ++ [.bool false]), Ev.succ ?_, by rw [if_pos c]; exact .inr rfl⟩
      simp only [L81_8, if_true, lenF, if_pos c.1, if_pos (show d < 65536 by omega), lenz, if_pos c.2.2]
      refine Ev.succ ?_
      simp only [L81_12, if_true, needF, if_pos (show scalB [D.bool false] = true by rfl), appF, if_pos (app_ok hl)]
      exact Ev.ret
    · refine ⟨.inl (false, E), Ev.succ ?_, by rw [if_neg c]; exact ⟨E, rfl⟩⟩
      have stop : Ev (fun n => L81_12 n p false) (.inl (false, p)) := Ev.succ (by simp only [L81_12, Bool.false_eq_true, if_false]; exact Ev.ret)
      have stop : Ev (fun n => L81_12 n E false) (.inl (false, E)) := Ev.succ (by simp only [L81_12, Bool.false_eq_true, if_false]; exact Ev.ret)
      simp only [L81_8, if_true, lenF, lenz]
      by_cases c1 : d = (E.length : Int)
      · by_cases c2 : d < 65536
        · have c3 : ¬ p = [] := fun h => c ⟨c1, by omega, h⟩
          simp only [if_pos c1, if_neg c3]
          split <;> exact stop
        · have c3 : ¬ (E.length : Int) < 65536 := by omega
          simp only [if_pos c1, if_neg c3, if_neg c2]; exact stop
      · simp only [if_neg c1]; exact stop
  refine lift (A := fun n => L81_8 n k t d p E false) (fun n => by simp only [L81_7, Bool.false_eq_true, if_false, if_neg k7]) ?_
  by_cases k8 : k = 8
  · have e : stepK k t d p E = if p = [] ∧ 0 ≤ d ∧ d < (E.length : Int) ∧ E[d.toNat]? = some (.bool true) then some E else none := by
      simp only [stepK, if_neg n1, if_neg n2, if_neg k7, if_pos k8]
    refine lift (A := fun n => L81_9 n k t d p E true) (fun n => by simp only [L81_8, Bool.false_eq_true, if_false, if_pos k8]) ?_
    rw [e]
    by_cases c2 : 0 ≤ d
    · by_cases c3 : d < (E.length : Int)
      · obtain ⟨b, hb⟩ := hE.get (show d.toNat < E.length by omega)
        by_cases c : p = []
        · refine ⟨.inl (b, E), Ev.succ ?_, ?_⟩
          · simp only [L81_9, if_true, lenF, if_pos c2, if_pos c3, needF, if_pos (show 0 ≤ d ∧ d.toNat < E.length by omega), getN_eq hb, ds_bool, lenz, if_pos c]
            cases b <;> exact Ev.ret
          · cases b
            · rw [if_neg (fun h => by have := h.2.2.2; rw [hb] at this; cases this)]; exact ⟨E, rfl⟩
            · rw [if_pos ⟨c, c2, c3, hb⟩]; exact .inl rfl
        · refine ⟨.inl (false, E), Ev.succ ?_, by rw [if_neg (fun h => c h.1)]; exact ⟨E, rfl⟩⟩
          simp only [L81_9, if_true, lenF, if_pos c2, if_pos c3, needF, if_pos (show 0 ≤ d ∧ d.toNat < E.length by omega), getN_eq hb, ds_bool, lenz, if_neg c]
          cases b <;> exact Ev.ret
      · refine ⟨.inl (false, E), Ev.succ ?_, by rw [if_neg (fun h => c3 h.2.2.1)]; exact ⟨E, rfl⟩⟩
        simp only [L81_9, if_true, lenF, if_pos c2, if_neg c3]; exact Ev.ret
    · refine ⟨.inl (false, E), Ev.succ ?_, by rw [if_neg (fun h => c2 h.2.1)]; exact ⟨E, rfl⟩⟩
      simp only [L81_9, if_true, if_neg c2]; exact Ev.ret
  refine lift (A := fun n => L81_9 n k t d p E false) (fun n => by simp only [L81_8, Bool.false_eq_true, if_false, if_neg k8]) ?_
  by_cases k9 : k = 9
  · have e : stepK k t d p E = if d = 0 ∧ p = [] then some (E.set t.toNat (.bool true)) else none := by
      simp only [stepK, if_neg n1, if_neg n2, if_neg k7, if_neg k8, if_pos k9]
    refine lift (A := fun n => L81_10 n t d p E true) (fun n => by simp only [L81_9, Bool.false_eq_true, if_false, if_pos k9]) ?_
    rw [e]
    have fin : ∀ b, Ev (fun n => L81_13 n t E b) (.inl (b, E.set t.toNat (.bool b))) := fun b => Ev.succ (by
      simp only [L81_13, needF, if_pos (show 0 ≤ t ∧ t.toNat < E.length from ⟨ht, ht2⟩), getN_eq hy, ds_bool, setF]; exact Ev.ret)
    by_cases c1 : d = 0
    · by_cases c : p = []
      · refine ⟨.inl (true, E.set t.toNat (.bool true)), Ev.succ ?_, ?_⟩
        · simp only [L81_10, if_true, if_pos c1, lenF, lenz, if_pos c]; exact fin true
        · rw [if_pos ⟨c1, c⟩]; exact .inl rfl
      · refine ⟨.inl (false, E.set t.toNat (.bool false)), Ev.succ ?_, by rw [if_neg (fun h => c h.2)]; exact ⟨_, rfl⟩⟩
        simp only [L81_10, if_true, if_pos c1, lenF, lenz, if_neg c]; exact fin false
    · refine ⟨.inl (false, E.set t.toNat (.bool false)), Ev.succ ?_, by rw [if_neg (fun h => c1 h.1)]; exact ⟨_, rfl⟩⟩
      simp only [L81_10, if_true, if_neg c1]; exact fin false
  refine lift (A := fun n => L81_10 n t d p E false) (fun n => by simp only [L81_9, Bool.false_eq_true, if_false, if_neg k9]) ?_
  refine ⟨.inl (false, E), Ev.succ ?_, ?_⟩
  · simp only [L81_10, Bool.false_eq_true, if_false]; exact Ev.ret
  · simp only [stepK, if_neg n1, if_neg n2, if_neg k7, if_neg k8, if_neg k9]
    exact ⟨E, rfl⟩

theorem ev81 {k t d : Int} {p E : List D} (hp : ListS tab 3 p) (hE : AllB E) (hl : (E.length : Int) ≤ 65536) :
    ∃ s, Ev (fun n => F81 n k t d p E) s ∧ (match stepS k t d p E with | none => ∃ E', s = .inl (false, E') | some E' => s = .inl (true, E') ∨ s = .inr E') := by
  have stop : Ev (fun n => L81_1 n k t d p E true) (.inl (false, E)) := Ev.succ (by simp only [L81_1, if_true]; exact Ev.ret)
  by_cases c1 : t < 0
  · refine ⟨_, by simp only [F81, if_pos c1]; exact stop, ?_⟩
    have : stepS k t d p E = none := by unfold stepS; rw [if_neg (fun h => by omega)]
    rw [this]; exact ⟨E, rfl⟩
  by_cases c2 : (E.length : Int) ≤ t
  · refine ⟨_, by simp only [F81, if_neg c1, lenF, if_pos c2]; exact stop, ?_⟩
    have : stepS k t d p E = none := by unfold stepS; rw [if_neg (fun h => by omega)]
    rw [this]; exact ⟨E, rfl⟩
  have q1 : 0 ≤ t := by omega
  have q2 : t.toNat < E.length := by omega
  obtain ⟨b, hb⟩ := hE.get q2
  cases b
  · obtain ⟨s, h1, h2⟩ := ev81K (k := k) (d := d) hp hE hl q1 q2 hb
    refine ⟨s, ?_, ?_⟩
    · simp only [F81, if_neg c1, lenF, if_neg c2, needF, if_pos (And.intro q1 q2), getN_eq hb, ds_bool]; exact h1
    · have e : stepS k t d p E = stepK k t d p E := by unfold stepS; rw [if_pos ⟨q1, q2, hb⟩]
      rw [e]; exact h2
  · refine ⟨_, by simp only [F81, if_neg c1, lenF, if_neg c2, needF, if_pos (And.intro q1 q2), getN_eq hb, ds_bool]; exact stop, ?_⟩
    have : stepS k t d p E = none := by unfold stepS; rw [if_neg (fun h => by have := h.2.2; rw [hb] at this; cases this)]
    rw [this]; exact ⟨E, rfl⟩
end Go.Proofs.YtjobleemmjjocaaDoor
end

/- Chapter 25, the plain law, part C: whether a trace may be, and how many threads it has. No condition. -/
set_option linter.unusedVariables false
noncomputable section
namespace Go.Proofs.YtjobleemmjjocaaDoor
open Go Go.AM

theorem Ev.bSl {α β γ : Type} {A : Nat → Option (α ⊕ β)} {a : α} {k1 : Nat → α → Option γ} {k2 : Nat → β → Option γ} {r : γ} (ha : Ev A (.inl a)) (hk : Ev (fun n => k1 n a) r) : Ev (fun n => bS (A n) (k1 n) (k2 n)) r := by
  obtain ⟨N, h⟩ := ha
  obtain ⟨M, h'⟩ := hk
  refine ⟨N + M, fun n hn => ?_⟩
  show bS (A n) (k1 n) (k2 n) = some r
  rw [h n (by omega)]
  exact h' n (by omega)
theorem Ev.bSr {α β γ : Type} {A : Nat → Option (α ⊕ β)} {b : β} {k1 : Nat → α → Option γ} {k2 : Nat → β → Option γ} {r : γ} (ha : Ev A (.inr b)) (hk : Ev (fun n => k2 n b) r) : Ev (fun n => bS (A n) (k1 n) (k2 n)) r := by
  obtain ⟨N, h⟩ := ha
  obtain ⟨M, h'⟩ := hk
  refine ⟨N + M, fun n hn => ?_⟩
  show bS (A n) (k1 n) (k2 n) = some r
  rw [h n (by omega)]
  exact h' n (by omega)

def Met (s : (Int × Int × List D × List D) ⊕ (Int × List D × List D)) (r : Int × Int) : Prop :=
  match s with
  | .inl (_, _, _, l) => r = (-1, (l.length : Int))
  | .inr (z, _, _) => r = (z, 0) ∧ 0 ≤ z

/-- A list of events. -/
def EvL (L : List D) : Prop := L.length ≤ maxLen ∧ ∀ x ∈ L, ∃ k t d p, x = D.agg [.int .u8 k, .int .i64 t, .int .i64 d, .list false 1 p] ∧ ListS tab 3 p
theorem EvL.of {L : List D} (h : ListS tab 32 L) : EvL L := ⟨h.1, fun x hx => by
  obtain ⟨k, t, d, p, rfl, _, _, _, hp⟩ := rs32 (h.2 x hx)
  exact ⟨k, t, d, p, rfl, hp⟩⟩
theorem EvL.get {L : List D} (h : EvL L) {i : Nat} (hi : i < L.length) : ∃ k t d p, L[i]? = some (D.agg [.int .u8 k, .int .i64 t, .int .i64 d, .list false 1 p]) ∧ ListS tab 3 p := by
  obtain ⟨k, t, d, p, e, hp⟩ := h.2 _ (List.getElem_mem hi)
  exact ⟨k, t, d, p, by rw [List.getElem?_eq_getElem hi, e], hp⟩
theorem evRead {L : List D} (hL : EvL L) : ∀ i, i ≤ L.length → ∀ E, AllB E → (E.length : Int) ≤ 65536 →
    ∃ r s, Ev (fun n => L18_1 n L (i : Int) E) r ∧ Ev (fun n => L80_1 n 0 0 L (L.length : Int) (i : Int) E) s ∧ Met s r := by
  refine down L.length (fun E hE hl => ?_) (fun i hi ih E hE hl => ?_)
  · refine ⟨(-1, (E.length : Int)), .inl (0, 0, L, E), Ev.succ ?_, Ev.succ ?_, rfl⟩
    · simp only [L18_1, lenF, Int.lt_irrefl, if_false]
      exact Ev.succ (by simp only [L18_2, Bool.false_eq_true, if_false, lenF]; exact Ev.ret)
    · simp only [L80_1, Int.lt_irrefl, if_false]
      exact Ev.succ (by simp only [L80_2, Bool.false_eq_true, if_false]; exact Ev.ret)
  · obtain ⟨k, t, d, p, hx, hp⟩ := hL.get hi
    have hw := wrap_succ hi hL.1
    by_cases c : 65536 ≤ (i : Int)
    · refine ⟨((i : Int), 0), .inr ((i : Int), L, E), refS hL.1 hi hx hp hE hl (fun _ => rfl) (fun h => absurd c (by omega)), Ev.succ ?_, rfl, by omega⟩
      simp only [L80_1, if_pos (ilt hi)]
      refine Ev.succ ?_
      simp only [L80_2, if_true, getF_nat hx, ds_t32, if_pos c, F42r0, bO1_some]
      exact Ev.ret
    · obtain ⟨s, hs, hm⟩ := ev81 (k := k) (t := t) (d := d) hp hE hl
      cases hst : stepS k t d p E with
      | none =>
        rw [hst] at hm
        obtain ⟨E', rfl⟩ := hm
        refine ⟨((i : Int), 0), .inr ((i : Int), L, E'), refS hL.1 hi hx hp hE hl (fun _ => rfl) (fun _ E'' h => by rw [hst] at h; cases h), Ev.succ ?_, rfl, by omega⟩
        simp only [L80_1, if_pos (ilt hi)]
        refine Ev.succ ?_
        simp only [L80_2, if_true, getF_nat hx, ds_t32, if_neg c]
        refine Ev.bSl hs ?_
        simp only [bO2_some, letB, Bool.not_false, if_true, F42r0, bO1_some]
        exact Ev.ret
      | some E' =>
        rw [hst] at hm
        have hok : AllB E' ∧ (E'.length : Int) ≤ 65536 := by
          unfold stepS at hst
          split at hst
          · exact stepK_ok hst hE hl
          · cases hst
        obtain ⟨r, s', h1, h2, h3⟩ := ih E' hok.1 hok.2
        refine ⟨r, s', refS hL.1 hi hx hp hE hl (fun h => ?_) (fun _ E'' h => ?_), Ev.succ ?_, h3⟩
        · rcases h with h | h
          · exact absurd h c
          · rw [hst] at h; cases h
        · rw [hst] at h
          obtain rfl := Option.some.inj h
          exact h1
        · simp only [L80_1, if_pos (ilt hi)]
          refine Ev.succ ?_
          simp only [L80_2, if_true, getF_nat hx, ds_t32, if_neg c]
          rcases hm with rfl | rfl
          · refine Ev.bSl hs ?_
            simp only [bO2_some, letB, Bool.not_true, Bool.false_eq_true, if_false, letF, hw]
            exact h2
          · refine Ev.bSr hs ?_
            simp only [letF, hw]
            exact h2

theorem ev42 {L : List D} (hL : EvL L) : ∃ z m, Ev (fun n => F18 n L) (z, m) ∧ Ev (fun n => F42 n L) (z, m) ∧ (z = -1 ∨ (0 ≤ z ∧ m = 0)) := by
  obtain ⟨⟨z, m⟩, s, h1, h2, h3⟩ := evRead hL 0 (Nat.zero_le _) [.bool false] (fun x hx => ⟨false, by simpa using hx⟩) (by simp)
  refine ⟨z, m, by simp only [F18, letL]; exact h1, ?_, ?_⟩
  · simp only [F42, letL, F69, bO2_some]
    have h2' : Ev (fun n => F80 n 0 0 L [.bool false]) s := by simp only [F80, lenF]; exact h2
    match s, h2', h3 with
    | .inl (a, b, c, l), h2', h3 =>
      obtain ⟨rfl, rfl⟩ := Prod.mk.inj (show (z, m) = (-1, (l.length : Int)) from h3)
      refine Ev.bSl h2' ?_
      exact Ev.ret
    | .inr (a, b, c), h2', h3 =>
      obtain ⟨rfl, rfl⟩ := Prod.mk.inj (show (z, m) = (a, 0) from h3.1)
      refine Ev.bSr h2' ?_
      exact Ev.ret
  · match s, h3 with
    | .inl (a, b, c, l), h3 =>
      obtain ⟨rfl, rfl⟩ := Prod.mk.inj (show (z, m) = (-1, (l.length : Int)) from h3)
      exact .inl rfl
    | .inr (a, b, c), h3 =>
      obtain ⟨rfl, rfl⟩ := Prod.mk.inj (show (z, m) = (a, 0) from h3.1)
      exact .inr ⟨h3.2, rfl⟩

theorem trace_may_trip : ∀ xs : List D, Shapes tab [22] xs → Trip Tryd.prog inv 3 (xs.map V1.d) [] (.v (.d (.bool true))) [] [] := by
  intro xs h
  match xs, h with
  | [u], ⟨u1, u2, _⟩ =>
    have hu : RowS tab 22 u := ⟨u1, u2⟩
    obtain ⟨l, e0, hl⟩ := (hu.flat1 (y := tyD tab 22) (by kernel_rfl) rfl).listS (x := tyD tab 22) (y := tyD tab 32) (by kernel_rfl) rfl (by kernel_rfl)
    obtain rfl : u = .list true 4 l := e0
    have law : Ev (fun n => F3 n l) true := by
      obtain ⟨r, hr, _⟩ := ev17 hl
      unfold F3
      refine Ev.bO1 hr ?_
      cases r
      · simp only [Bool.false_eq_true, if_false]
        obtain ⟨z, m, h1, h2, h3⟩ := ev42 (EvL.of hl)
        have v19 : Ev (fun n => F19 n l) z := by unfold F19; exact Ev.bO2 h2 Ev.ret
        have v20 : Ev (fun n => F20 n l) m := by unfold F20; exact Ev.bO2 h2 Ev.ret
        have v21 : Ev (fun n => F21 n l) (if 0 ≤ z then 250 else 0) := by
          unfold F21
          refine Ev.bO1 v19 ?_
          by_cases c : 0 ≤ z
          · simp only [if_pos c]; exact Ev.succ (by simp only [L21_1, if_true]; exact Ev.ret)
          · simp only [if_neg c]; exact Ev.succ (by simp only [L21_1, Bool.false_eq_true, if_false]; exact Ev.ret)
        refine Ev.bO2 h1 (Ev.bO1 v19 ?_)
        simp only [if_true]
        refine Ev.bO1 v20 ?_
        simp only [if_true]
        refine Ev.bO1 v21 ?_
        by_cases c : 0 ≤ z
        · simp only [if_pos c, if_neg (show ¬ (250 : Int) = 0 by decide), if_neg (show ¬ z < 0 by omega)]
          refine Ev.bO1 v21 ?_
          simp only [if_pos c, if_true]
          exact Ev.bO1 ev22 Ev.ret
        · simp only [if_neg c, if_true, if_pos (show z < 0 by omega)]
          exact Ev.bO1 ev22 Ev.ret
      · simp only [if_true]; exact Ev.ret
    obtain ⟨n, hn⟩ := law.run
    exact T3 n hn
end Go.Proofs.YtjobleemmjjocaaDoor
end

/- Printed by lift.py: functional texts of functions, and their contracts. No condition. -/
set_option linter.unusedVariables false
noncomputable section
namespace Go.Proofs.YtjobleemmjjocaaDoor
open Go Go.AM
def L6_1 : Nat → (List D) → Int → Int → Bool → Option (Bool)
  | 0, _, _, _, _ => none
  | n + 1, l1, z10, z11, b23 =>
    (if b23 = true then some false else (if (0 : Int) ≤ z11 then bO1 (F22 n) fun b24 => some b24 else sliceF l1 (0 : Int) z10 fun l25 => bO1 (F20 n l25) fun z26 => bO1 (F20 n l1) fun z27 => (if z26 ≤ z27 then bO1 (F22 n) fun b28 => some b28 else some false)))
def F6 (n : Nat) (l1 : List D) (z2 : Int) : Option (Bool) :=
  bO1 (F17 n l1) fun b3 => (if b3 = true then bO1 (F22 n) fun b4 => some b4 else letF (IntKind.wrap .u64 z2) fun z5 => lenF l1 fun z6 => letF (IntKind.wrap .i64 (z6 + 1)) fun z7 => letF (IntKind.wrap .u64 z7) fun z8 => needF ((z8 : Int) ≠ 0) (letF (Int.tmod z5 z8) fun z9 => letF (IntKind.wrap .i64 z9) fun z10 => bO1 (F19 n l1) fun z11 => sliceF l1 (0 : Int) z10 fun l12 => bO1 (F19 n l12) fun z13 => (if (0 : Int) ≤ z11 then (if z11 < z10 then (if z13 = z11 then (if z11 < (0 : Int) then (if z13 = (-1 : Int) then lenF l1 fun z14 => (if z14 ≤ z11 then L6_1 n l1 z10 z11 true else L6_1 n l1 z10 z11 false) else L6_1 n l1 z10 z11 true) else (if z10 ≤ z11 then (if z13 = (-1 : Int) then lenF l1 fun z15 => (if z15 ≤ z11 then L6_1 n l1 z10 z11 true else L6_1 n l1 z10 z11 false) else L6_1 n l1 z10 z11 true) else lenF l1 fun z16 => (if z16 ≤ z11 then L6_1 n l1 z10 z11 true else L6_1 n l1 z10 z11 false))) else L6_1 n l1 z10 z11 true) else (if z11 < (0 : Int) then (if z13 = (-1 : Int) then lenF l1 fun z17 => (if z17 ≤ z11 then L6_1 n l1 z10 z11 true else L6_1 n l1 z10 z11 false) else L6_1 n l1 z10 z11 true) else (if z10 ≤ z11 then (if z13 = (-1 : Int) then lenF l1 fun z18 => (if z18 ≤ z11 then L6_1 n l1 z10 z11 true else L6_1 n l1 z10 z11 false) else L6_1 n l1 z10 z11 true) else lenF l1 fun z19 => (if z19 ≤ z11 then L6_1 n l1 z10 z11 true else L6_1 n l1 z10 z11 false)))) else (if z11 < (0 : Int) then (if z13 = (-1 : Int) then lenF l1 fun z20 => (if z20 ≤ z11 then L6_1 n l1 z10 z11 true else L6_1 n l1 z10 z11 false) else L6_1 n l1 z10 z11 true) else (if z10 ≤ z11 then (if z13 = (-1 : Int) then lenF l1 fun z21 => (if z21 ≤ z11 then L6_1 n l1 z10 z11 true else L6_1 n l1 z10 z11 false) else L6_1 n l1 z10 z11 true) else lenF l1 fun z22 => (if z22 ≤ z11 then L6_1 n l1 z10 z11 true else L6_1 n l1 z10 z11 false))))))
set_option maxRecDepth 100000 in
set_option maxHeartbeats 40000000 in
theorem T6 (n : Nat) : ∀ ⦃l1 : List D⦄ ⦃z2 : Int⦄ ⦃r1 : Bool⦄, F6 n l1 z2 = some r1 →
    Trip Tryd.prog inv 6 [.d (.list true 4 l1), .d (.int .i64 z2)] [] (.v (.d (.bool r1))) [] [] := by
  intro l1 z2 r1 h
  unfold F6 at h
  refine Trip.of tab_ok tab_one fol Tryd.func6 rfl (by kernel_rfl) rfl rfl rfl (fun M hM hI => ?_)
  try cbv
  refine seq_go ?_
  try cbv
  refine seq_go ?_
  try cbv
  refine seq_go ?_
  try cbv
  replace h := bO1_inv h
  obtain ⟨b3, hr, h⟩ := h
  refine call_go rfl rfl ?_
  try cbv
  refine call_pure hM hI (T17 _ hr) rfl ?_
  clear hr
  try cbv
  cases b3
  · replace h := ite_f Bool.false_ne_true h
    try cbv
    refine seq_go ?_
    try cbv
    replace h := letF_inv h
    obtain ⟨z5, hz, h⟩ := h
    refine ⟨z5, hz, ?_⟩
    clear hz
    try cbv
    replace h := lenF_inv M h
    obtain ⟨z6, hz, h⟩ := h
    refine ⟨z6, hz, ?_⟩
    clear hz
    try cbv
    replace h := letF_inv h
    obtain ⟨z7, hz, h⟩ := h
    refine ⟨z7, hz, ?_⟩
    clear hz
    try cbv
    replace h := letF_inv h
    obtain ⟨z8, hz, h⟩ := h
    refine ⟨z8, hz, ?_⟩
    clear hz
    try cbv
    replace h := needF_inv h
    obtain ⟨hn, h⟩ := h
    replace h := letF_inv h
    obtain ⟨z9, hz, h⟩ := h
    refine ⟨z9, hn, hz, ?_⟩
    clear hn hz
    try cbv
    replace h := letF_inv h
    obtain ⟨z10, hz, h⟩ := h
    refine ⟨z10, hz, ?_⟩
    clear hz
    try cbv
    refine seq_go ?_
    try cbv
    replace h := bO1_inv h
    obtain ⟨z11, hr, h⟩ := h
    first | refine .inr ⟨[], ?_⟩ | refine ⟨[], ?_⟩
    try cbv
    refine call_pure hM hI (T19 _ hr) rfl ?_
    clear hr
    try cbv
    replace h := sliceF_inv M h
    obtain ⟨l12, hb, hz, h⟩ := h
    refine ⟨l12, hb, hz, ?_⟩
    clear hb hz
    try cbv
    replace h := bO1_inv h
    obtain ⟨z13, hr, h⟩ := h
    first | refine .inr ⟨[], ?_⟩ | refine ⟨[], ?_⟩
    try cbv
    refine call_pure hM hI (T19 _ hr) rfl ?_
    clear hr
    try cbv
    refine drawn ?_ ?_
    · show _ = true
      kernel_rfl
    try cbv
    refine seq_go ?_
    try cbv
    refine seq_join (T := Nat × Bool) (fun t => ⟨[(0, .v (.d (.list true 4 l1))), (1, .v (.d (.int .i64 z10))), (4, .v (.d (.bool false))), (5, .v (.d (.int .i64 z11))), (54, .v (.d (.bool t.2)))], [], 1632⟩) (fun t => t.1 ≤ n ∧ L6_1 t.1 l1 z10 z11 t.2 = some r1) ?_ ?_
    · try cbv
      refine splitLe (fun e => ?_) (fun e => ?_)
      · replace h := ite_t e h
        clear e
        try cbv
        refine splitL (fun e => ?_) (fun e => ?_)
        · replace h := ite_t e h
          clear e
          try cbv
          refine splitI (fun e => ?_) (fun e => ?_)
          · replace h := ite_t e h
            clear e
            try cbv
            refine splitL (fun e => ?_) (fun e => ?_)
            · replace h := ite_t e h
              clear e
              try cbv
              refine splitI (fun e => ?_) (fun e => ?_)
              · replace h := ite_t e h
                clear e
                try cbv
                replace h := lenF_inv M h
                obtain ⟨z14, hz, h⟩ := h
                refine ⟨z14, hz, ?_⟩
                clear hz
                try cbv
                refine splitLe (fun e => ?_) (fun e => ?_)
                · replace h := ite_t e h
                  clear e
                  try cbv
                  exact join_next (n, true) [0, 1, 4, 5, 54] [] 1632 ⟨by omega, h⟩ (by cbv)
                · replace h := ite_f (Int.not_le.2 e) h
                  clear e
                  try cbv
                  exact join_next (n, false) [0, 1, 4, 5, 54] [] 1632 ⟨by omega, h⟩ (by cbv)
              · replace h := ite_f e h
                clear e
                try cbv
                exact join_next (n, true) [0, 1, 4, 5, 54] [] 1632 ⟨by omega, h⟩ (by cbv)
            · replace h := ite_f (Int.not_lt.2 e) h
              clear e
              try cbv
              refine splitLe (fun e => ?_) (fun e => ?_)
              · replace h := ite_t e h
                clear e
                try cbv
                refine splitI (fun e => ?_) (fun e => ?_)
                · replace h := ite_t e h
                  clear e
                  try cbv
                  replace h := lenF_inv M h
                  obtain ⟨z15, hz, h⟩ := h
                  refine ⟨z15, hz, ?_⟩
                  clear hz
                  try cbv
                  refine splitLe (fun e => ?_) (fun e => ?_)
                  · replace h := ite_t e h
                    clear e
                    try cbv
                    exact join_next (n, true) [0, 1, 4, 5, 54] [] 1632 ⟨by omega, h⟩ (by cbv)
                  · replace h := ite_f (Int.not_le.2 e) h
                    clear e
                    try cbv
                    exact join_next (n, false) [0, 1, 4, 5, 54] [] 1632 ⟨by omega, h⟩ (by cbv)
                · replace h := ite_f e h
                  clear e
                  try cbv
                  exact join_next (n, true) [0, 1, 4, 5, 54] [] 1632 ⟨by omega, h⟩ (by cbv)
              · replace h := ite_f (Int.not_le.2 e) h
                clear e
                try cbv
                replace h := lenF_inv M h
                obtain ⟨z16, hz, h⟩ := h
                refine ⟨z16, hz, ?_⟩
                clear hz
                try cbv
                refine splitLe (fun e => ?_) (fun e => ?_)
                · replace h := ite_t e h
                  clear e
                  try cbv
                  exact join_next (n, true) [0, 1, 4, 5, 54] [] 1632 ⟨by omega, h⟩ (by cbv)
                · replace h := ite_f (Int.not_le.2 e) h
                  clear e
                  try cbv
                  exact join_next (n, false) [0, 1, 4, 5, 54] [] 1632 ⟨by omega, h⟩ (by cbv)
          · replace h := ite_f e h
            clear e
            try cbv
            exact join_next (n, true) [0, 1, 4, 5, 54] [] 1632 ⟨by omega, h⟩ (by cbv)
        · replace h := ite_f (Int.not_lt.2 e) h
          clear e
          try cbv
          refine splitL (fun e => ?_) (fun e => ?_)
          · replace h := ite_t e h
            clear e
            try cbv
            refine splitI (fun e => ?_) (fun e => ?_)
            · replace h := ite_t e h
              clear e
              try cbv
              replace h := lenF_inv M h
              obtain ⟨z17, hz, h⟩ := h
              refine ⟨z17, hz, ?_⟩
              clear hz
              try cbv
              refine splitLe (fun e => ?_) (fun e => ?_)
              · replace h := ite_t e h
                clear e
                try cbv
                exact join_next (n, true) [0, 1, 4, 5, 54] [] 1632 ⟨by omega, h⟩ (by cbv)
              · replace h := ite_f (Int.not_le.2 e) h
                clear e
                try cbv
                exact join_next (n, false) [0, 1, 4, 5, 54] [] 1632 ⟨by omega, h⟩ (by cbv)
            · replace h := ite_f e h
              clear e
              try cbv
              exact join_next (n, true) [0, 1, 4, 5, 54] [] 1632 ⟨by omega, h⟩ (by cbv)
          · replace h := ite_f (Int.not_lt.2 e) h
            clear e
            try cbv
            refine splitLe (fun e => ?_) (fun e => ?_)
            · replace h := ite_t e h
              clear e
              try cbv
              refine splitI (fun e => ?_) (fun e => ?_)
              · replace h := ite_t e h
                clear e
                try cbv
                replace h := lenF_inv M h
                obtain ⟨z18, hz, h⟩ := h
                refine ⟨z18, hz, ?_⟩
                clear hz
                try cbv
                refine splitLe (fun e => ?_) (fun e => ?_)
                · replace h := ite_t e h
                  clear e
                  try cbv
                  exact join_next (n, true) [0, 1, 4, 5, 54] [] 1632 ⟨by omega, h⟩ (by cbv)
                · replace h := ite_f (Int.not_le.2 e) h
                  clear e
                  try cbv
                  exact join_next (n, false) [0, 1, 4, 5, 54] [] 1632 ⟨by omega, h⟩ (by cbv)
              · replace h := ite_f e h
                clear e
                try cbv
                exact join_next (n, true) [0, 1, 4, 5, 54] [] 1632 ⟨by omega, h⟩ (by cbv)
            · replace h := ite_f (Int.not_le.2 e) h
              clear e
              try cbv
              replace h := lenF_inv M h
              obtain ⟨z19, hz, h⟩ := h
              refine ⟨z19, hz, ?_⟩
              clear hz
              try cbv
              refine splitLe (fun e => ?_) (fun e => ?_)
              · replace h := ite_t e h
                clear e
                try cbv
                exact join_next (n, true) [0, 1, 4, 5, 54] [] 1632 ⟨by omega, h⟩ (by cbv)
              · replace h := ite_f (Int.not_le.2 e) h
                clear e
                try cbv
                exact join_next (n, false) [0, 1, 4, 5, 54] [] 1632 ⟨by omega, h⟩ (by cbv)
      · replace h := ite_f (Int.not_le.2 e) h
        clear e
        try cbv
        refine splitL (fun e => ?_) (fun e => ?_)
        · replace h := ite_t e h
          clear e
          try cbv
          refine splitI (fun e => ?_) (fun e => ?_)
          · replace h := ite_t e h
            clear e
            try cbv
            replace h := lenF_inv M h
            obtain ⟨z20, hz, h⟩ := h
            refine ⟨z20, hz, ?_⟩
            clear hz
            try cbv
            refine splitLe (fun e => ?_) (fun e => ?_)
            · replace h := ite_t e h
              clear e
              try cbv
              exact join_next (n, true) [0, 1, 4, 5, 54] [] 1632 ⟨by omega, h⟩ (by cbv)
            · replace h := ite_f (Int.not_le.2 e) h
              clear e
              try cbv
              exact join_next (n, false) [0, 1, 4, 5, 54] [] 1632 ⟨by omega, h⟩ (by cbv)
          · replace h := ite_f e h
            clear e
            try cbv
            exact join_next (n, true) [0, 1, 4, 5, 54] [] 1632 ⟨by omega, h⟩ (by cbv)
        · replace h := ite_f (Int.not_lt.2 e) h
          clear e
          try cbv
          refine splitLe (fun e => ?_) (fun e => ?_)
          · replace h := ite_t e h
            clear e
            try cbv
            refine splitI (fun e => ?_) (fun e => ?_)
            · replace h := ite_t e h
              clear e
              try cbv
              replace h := lenF_inv M h
              obtain ⟨z21, hz, h⟩ := h
              refine ⟨z21, hz, ?_⟩
              clear hz
              try cbv
              refine splitLe (fun e => ?_) (fun e => ?_)
              · replace h := ite_t e h
                clear e
                try cbv
                exact join_next (n, true) [0, 1, 4, 5, 54] [] 1632 ⟨by omega, h⟩ (by cbv)
              · replace h := ite_f (Int.not_le.2 e) h
                clear e
                try cbv
                exact join_next (n, false) [0, 1, 4, 5, 54] [] 1632 ⟨by omega, h⟩ (by cbv)
            · replace h := ite_f e h
              clear e
              try cbv
              exact join_next (n, true) [0, 1, 4, 5, 54] [] 1632 ⟨by omega, h⟩ (by cbv)
          · replace h := ite_f (Int.not_le.2 e) h
            clear e
            try cbv
            replace h := lenF_inv M h
            obtain ⟨z22, hz, h⟩ := h
            refine ⟨z22, hz, ?_⟩
            clear hz
            try cbv
            refine splitLe (fun e => ?_) (fun e => ?_)
            · replace h := ite_t e h
              clear e
              try cbv
              exact join_next (n, true) [0, 1, 4, 5, 54] [] 1632 ⟨by omega, h⟩ (by cbv)
            · replace h := ite_f (Int.not_le.2 e) h
              clear e
              try cbv
              exact join_next (n, false) [0, 1, 4, 5, 54] [] 1632 ⟨by omega, h⟩ (by cbv)
    · clear h
      rintro ⟨m1, b23⟩ ⟨hm1, h⟩
      replace hm1 : m1 ≤ n := hm1
      cases m1 with
      | zero =>
        replace h : L6_1 0 l1 z10 z11 b23 = some r1 := h
        rw [L6_1] at h
        cases h
      | succ m1 =>
        replace h : L6_1 (m1 + 1) l1 z10 z11 b23 = some r1 := h
        rw [L6_1] at h
        try cbv
        cases b23
        · replace h := ite_f Bool.false_ne_true h
          try cbv
          refine seq_go ?_
          try cbv
          refine splitLe (fun e => ?_) (fun e => ?_)
          · replace h := ite_t e h
            clear e
            try cbv
            replace h := bO1_inv h
            obtain ⟨b24, hr, h⟩ := h
            refine call_go rfl rfl ?_
            try cbv
            refine call_pure hM hI (T22 _ hr) rfl ?_
            clear hr
            try cbv
            obtain rfl := Option.some.inj h
            refine fin_go ?_
            try cbv
            exact ⟨[], rfl, rfl, trivial, trivial, trivial⟩
          · replace h := ite_f (Int.not_le.2 e) h
            clear e
            try cbv
            replace h := sliceF_inv M h
            obtain ⟨l25, hb, hz, h⟩ := h
            refine ⟨l25, hb, hz, ?_⟩
            clear hb hz
            try cbv
            replace h := bO1_inv h
            obtain ⟨z26, hr, h⟩ := h
            refine call_go rfl rfl ?_
            try cbv
            refine call_pure hM hI (T20 _ hr) rfl ?_
            clear hr
            try cbv
            replace h := bO1_inv h
            obtain ⟨z27, hr, h⟩ := h
            refine call_go rfl rfl ?_
            try cbv
            refine call_pure hM hI (T20 _ hr) rfl ?_
            clear hr
            try cbv
            refine splitLe (fun e => ?_) (fun e => ?_)
            · replace h := ite_t e h
              clear e
              try cbv
              replace h := bO1_inv h
              obtain ⟨b28, hr, h⟩ := h
              refine call_go rfl rfl ?_
              try cbv
              refine call_pure hM hI (T22 _ hr) rfl ?_
              clear hr
              try cbv
              obtain rfl := Option.some.inj h
              refine fin_go ?_
              try cbv
              exact ⟨[], rfl, rfl, trivial, trivial, trivial⟩
            · replace h := ite_f (Int.not_le.2 e) h
              clear e
              try cbv
              obtain rfl := Option.some.inj h
              refine fin_go ?_
              try cbv
              exact ⟨[], rfl, rfl, trivial, trivial, trivial⟩
        · replace h := ite_t rfl h
          try cbv
          refine seq_go ?_
          try cbv
          obtain rfl := Option.some.inj h
          refine fin_go ?_
          try cbv
          exact ⟨[], rfl, rfl, trivial, trivial, trivial⟩
  · replace h := ite_t rfl h
    try cbv
    refine seq_go ?_
    try cbv
    replace h := bO1_inv h
    obtain ⟨b4, hr, h⟩ := h
    refine call_go rfl rfl ?_
    try cbv
    refine call_pure hM hI (T22 _ hr) rfl ?_
    clear hr
    try cbv
    obtain rfl := Option.some.inj h
    refine fin_go ?_
    try cbv
    exact ⟨[], rfl, rfl, trivial, trivial, trivial⟩
end Go.Proofs.YtjobleemmjjocaaDoor
end

/- Chapter 25, the plain law, part D: the beginnings of a trace. No condition. -/
set_option linter.unusedVariables false
noncomputable section
namespace Go.Proofs.YtjobleemmjjocaaDoor
open Go Go.AM
open Classical

def stepX (x : D) (E : List D) : Option (List D) :=
  match x with
  | .agg [.int .u8 k, .int .i64 t, .int .i64 d, .list false 1 p] => stepS k t d p E
  | _ => none
/-- What a trace, read on from place i, comes to. -/
def rd : List D → Nat → List D → Int × Int
  | [], _, E => (-1, (E.length : Int))
  | x :: xs, i, E =>
    if 65536 ≤ (i : Int) then ((i : Int), 0) else
    match stepX x E with
    | none => ((i : Int), 0)
    | some E' => rd xs (i + 1) E'

theorem stepS_ok {k t d : Int} {p E E' : List D} (h : stepS k t d p E = some E') (hE : AllB E) (hl : (E.length : Int) ≤ 65536) : AllB E' ∧ (E'.length : Int) ≤ 65536 := by
  unfold stepS at h
  split at h
  · exact stepK_ok h hE hl
  · cases h
theorem stepK_mono {k t d : Int} {p E E' : List D} (h : stepK k t d p E = some E') : E.length ≤ E'.length := by
  unfold stepK at h
  split at h
  · split at h
    · cases h; exact Nat.le_refl _
    · cases h
  · split at h
    · split at h
      · cases h; exact Nat.le_refl _
      · cases h
    · split at h
      · split at h
        · cases h; simp
        · cases h
      · split at h
        · split at h
          · cases h; exact Nat.le_refl _
          · cases h
        · split at h
          · split at h
            · cases h; simp
            · cases h
          · cases h
theorem stepX_mono {x : D} {E E' : List D} (h : stepX x E = some E') : E.length ≤ E'.length := by
  unfold stepX at h
  split at h
  · unfold stepS at h
    split at h
    · exact stepK_mono h
    · cases h
  · cases h

theorem evRd {L : List D} (hL : EvL L) : ∀ i, i ≤ L.length → ∀ E, AllB E → (E.length : Int) ≤ 65536 → Ev (fun n => L18_1 n L (i : Int) E) (rd (L.drop i) i E) := by
  refine down L.length (fun E hE hl => ?_) (fun i hi ih E hE hl => ?_)
  · refine Ev.succ ?_
    simp only [L18_1, lenF, Int.lt_irrefl, if_false, List.drop_length, rd]
    exact Ev.succ (by simp only [L18_2, Bool.false_eq_true, if_false, lenF]; exact Ev.ret)
  · obtain ⟨k, t, d, p, hx, hp⟩ := hL.get hi
    rw [drop_cons hx]
    refine refS hL.1 hi hx hp hE hl (fun h => ?_) (fun c E' h => ?_)
    · simp only [rd, stepX]
      rcases h with h | h
      · rw [if_pos h]
      · rw [h]; simp only [ite_self]
    · simp only [rd, stepX, h, if_neg (show ¬ 65536 ≤ (i : Int) by omega)]
      exact ih E' (stepS_ok h hE hl).1 (stepS_ok h hE hl).2
def rd0 (L : List D) : Int × Int := rd L 0 [.bool false]
theorem ev42' {L : List D} (hL : EvL L) : Ev (fun n => F42 n L) ((rd0 L).1, (rd0 L).2) := by
  obtain ⟨z, m, h1, h2, _⟩ := ev42 hL
  have h := evRd hL 0 (Nat.zero_le _) [.bool false] (fun x hx => ⟨false, by simpa using hx⟩) (by simp)
  have h' : Ev (fun n => F18 n L) (rd0 L) := by simp only [F18, letL]; exact h
  have e := h1.uniq h'
  rw [← e]
  exact h2
theorem ev19 {L : List D} (hL : EvL L) : Ev (fun n => F19 n L) (rd0 L).1 := by unfold F19; exact Ev.bO2 (ev42' hL) Ev.ret
theorem ev20 {L : List D} (hL : EvL L) : Ev (fun n => F20 n L) (rd0 L).2 := by unfold F20; exact Ev.bO2 (ev42' hL) Ev.ret

theorem rd_take : ∀ (xs : List D) (i : Nat) (E : List D) (m : Nat),
    ((rd xs i E).1 = -1 ∧ (E.length : Int) ≤ (rd xs i E).2 ∧ (rd (xs.take m) i E).1 = -1 ∧ (rd (xs.take m) i E).2 ≤ (rd xs i E).2) ∨
    ((i : Int) ≤ (rd xs i E).1 ∧ (rd xs i E).1 < (i : Int) + xs.length ∧ ((rd xs i E).1 < (i : Int) + m → (rd (xs.take m) i E).1 = (rd xs i E).1) ∧ ((i : Int) + m ≤ (rd xs i E).1 → (rd (xs.take m) i E).1 = -1))
  | [], i, E, m => by left; simp [rd]
  | x :: xs, i, E, 0 => by
    simp only [List.take_zero, rd]
    by_cases c : 65536 ≤ (i : Int)
    · right; simp only [if_pos c, List.length_cons]; refine ⟨by omega, by omega, fun h => by omega, fun _ => by trivial⟩
    · simp only [if_neg c]
      cases hs : stepX x E with
      | none => right; simp only [List.length_cons]; refine ⟨by omega, by omega, fun h => by omega, fun _ => by trivial⟩
      | some E' =>
        have hm := stepX_mono hs
        try dsimp only
        rcases rd_take xs (i + 1) E' 0 with ⟨a, b, c, d⟩ | ⟨a, b, c, d⟩
        · left; exact ⟨a, by omega, by trivial, by omega⟩
        · right; simp only [List.length_cons]; refine ⟨by omega, by omega, fun h => by omega, fun _ => by trivial⟩
  | x :: xs, i, E, m + 1 => by
    simp only [List.take_succ_cons, rd]
    by_cases c : 65536 ≤ (i : Int)
    · right; simp only [if_pos c, List.length_cons]; refine ⟨by omega, by omega, fun _ => trivial, fun h => by omega⟩
    · simp only [if_neg c]
      cases hs : stepX x E with
      | none => right; simp only [List.length_cons]; refine ⟨by omega, by omega, fun _ => trivial, fun h => by omega⟩
      | some E' =>
        have hm := stepX_mono hs
        try dsimp only
        rcases rd_take xs (i + 1) E' m with ⟨a, b, c, d⟩ | ⟨a, b, c, d⟩
        · left; exact ⟨a, by omega, c, d⟩
        · right; simp only [List.length_cons]; exact ⟨by omega, by omega, fun h => c (by omega), fun h => d (by omega)⟩

theorem wrapU {N : Nat} (h : N ≤ maxLen) : IntKind.u64.wrap (IntKind.i64.wrap ((N : Int) + 1)) = (N : Int) + 1 := by
  have hm : N ≤ 9223372036854775807 := h
  by_cases c : N = 9223372036854775807
  · subst c; decide
  · rw [IntWalk.i64_in _ (by omega), IntWalk.u64_in _ (by omega)]
theorem wrapR (z : Int) : 0 ≤ IntKind.u64.wrap z := by rw [IntKind.wrap_u64]; omega
theorem cutN {N : Nat} (h : N ≤ maxLen) (z : Int) : ∃ j : Nat, j ≤ N ∧ IntKind.i64.wrap (Int.tmod (IntKind.u64.wrap z) ((N : Int) + 1)) = (j : Int) := by
  have h0 := wrapR z
  have hm : N ≤ 9223372036854775807 := h
  have h1 : 0 ≤ Int.tmod (IntKind.u64.wrap z) ((N : Int) + 1) := Int.tmod_nonneg _ h0
  have h2 : Int.tmod (IntKind.u64.wrap z) ((N : Int) + 1) < (N : Int) + 1 := Int.tmod_lt_of_pos _ (by omega)
  refine ⟨(Int.tmod (IntKind.u64.wrap z) ((N : Int) + 1)).toNat, by omega, ?_⟩
  rw [IntWalk.i64_in _ (by omega)]
  omega

theorem trace_begins_trip : ∀ xs : List D, Shapes tab [22, 3] xs → Trip Tryd.prog inv 6 (xs.map V1.d) [] (.v (.d (.bool true))) [] [] := by
  intro xs h
  match xs, h with
  | [u, v], ⟨u1, u2, v1, v2, _⟩ =>
    have hu : RowS tab 22 u := ⟨u1, u2⟩
    obtain ⟨l, e0, hl⟩ := (hu.flat1 (y := tyD tab 22) (by kernel_rfl) rfl).listS (x := tyD tab 22) (y := tyD tab 32) (by kernel_rfl) rfl (by kernel_rfl)
    obtain rfl : u = .list true 4 l := e0
    obtain ⟨z, rfl, _⟩ := rs3 (x := v) ⟨v1, v2⟩
    have law : Ev (fun n => F6 n l z) true := by
      obtain ⟨r, hr, _⟩ := ev17 hl
      unfold F6
      refine Ev.bO1 hr ?_
      cases r
      · obtain ⟨j, hj, hw⟩ := cutN hl.1 z
        have hlt : ListS tab 32 (l.take j) := ⟨by have := hl.1; simp; omega, fun x hx => hl.2 x (List.mem_of_mem_take hx)⟩
        simp only [Bool.false_eq_true, if_false, letF, lenF, wrapU hl.1, needF, if_pos (show ((l.length : Int) + 1) ≠ 0 by omega), hw]
        refine Ev.bO1 (ev19 (EvL.of hl)) ?_
        simp only [sliceF, if_pos (show (0 : Int) ≤ 0 ∧ (0 : Int) ≤ (j : Int) ∧ (j : Int) ≤ (l.length : Int) by omega), Int.toNat_natCast, Int.toNat_zero, List.drop_zero]
        refine Ev.bO1 (ev19 (EvL.of hlt)) ?_
        have fin : (rd0 l).1 < 0 → (rd0 (l.take j)).2 ≤ (rd0 l).2 → Ev (fun n => L6_1 n l (j : Int) (rd0 l).1 false) true := by
          intro c1 c2
          refine Ev.succ ?_
          simp only [L6_1, Bool.false_eq_true, if_false, if_neg (show ¬ 0 ≤ (rd0 l).1 by omega), sliceF, if_pos (show (0 : Int) ≤ 0 ∧ (0 : Int) ≤ (j : Int) ∧ (j : Int) ≤ (l.length : Int) by omega), Int.toNat_natCast, Int.toNat_zero, List.drop_zero]
          refine Ev.bO1 (ev20 (EvL.of hlt)) (Ev.bO1 (ev20 (EvL.of hl)) ?_)
          simp only [if_pos c2]
          exact Ev.bO1 ev22 Ev.ret
        have fin2 : 0 ≤ (rd0 l).1 → Ev (fun n => L6_1 n l (j : Int) (rd0 l).1 false) true := by
          intro c1
          refine Ev.succ ?_
          simp only [L6_1, Bool.false_eq_true, if_false, if_pos c1]
          exact Ev.bO1 ev22 Ev.ret
        rcases rd_take l 0 [.bool false] j with ⟨a, b, c, d⟩ | ⟨a, b, c, d⟩
        · have a : (rd0 l).1 = -1 := a
          have c : (rd0 (l.take j)).1 = -1 := c
          simp only [if_neg (show ¬ 0 ≤ (rd0 l).1 by omega), if_pos (show (rd0 l).1 < 0 by omega), if_pos c, if_neg (show ¬ (l.length : Int) ≤ (rd0 l).1 by omega)]
          exact fin (by omega) d
        · have a : 0 ≤ (rd0 l).1 := by have : ((0 : Nat) : Int) ≤ (rd0 l).1 := a; omega
          have b : (rd0 l).1 < (l.length : Int) := by have : (rd0 l).1 < ((0 : Nat) : Int) + l.length := b; omega
          by_cases q : (rd0 l).1 < (j : Int)
          · have c : (rd0 (l.take j)).1 = (rd0 l).1 := c (by show (rd0 l).1 < ((0 : Nat) : Int) + j; omega)
            simp only [if_pos a, if_pos q, if_pos c, if_neg (show ¬ (rd0 l).1 < 0 by omega), if_neg (show ¬ (j : Int) ≤ (rd0 l).1 by omega), if_neg (show ¬ (l.length : Int) ≤ (rd0 l).1 by omega)]
            exact fin2 a
          · have d : (rd0 (l.take j)).1 = -1 := d (by show ((0 : Nat) : Int) + j ≤ (rd0 l).1; omega)
            simp only [if_pos a, if_neg q, if_pos d, if_neg (show ¬ (rd0 l).1 < 0 by omega), if_pos (show (j : Int) ≤ (rd0 l).1 by omega), if_neg (show ¬ (l.length : Int) ≤ (rd0 l).1 by omega)]
            exact fin2 a
      · simp only [if_true]; exact Ev.bO1 ev22 Ev.ret
    obtain ⟨n, hn⟩ := law.run
    exact T6 n hn
end Go.Proofs.YtjobleemmjjocaaDoor
end

/- Printed by lift.py: functional texts of functions, and their contracts. No condition. -/
set_option linter.unusedVariables false
noncomputable section
namespace Go.Proofs.YtjobleemmjjocaaDoor
open Go Go.AM
def L5_8 : Nat → (List D) → Int → Bool → Option (Bool)
  | 0, _, _, _ => none
  | n + 1, l10, z34, b38 =>
    (if b38 = true then some false else (if (0 : Int) ≤ z34 then bO1 (F20 n l10) fun z39 => (if z39 = (0 : Int) then bO1 (F22 n) fun b40 => some b40 else some false) else bO1 (F20 n l10) fun z41 => (if z41 = (0 : Int) then some false else bO1 (F22 n) fun b42 => some b42)))
def L5_7 : Nat → (List D) → Bool → Int → Option (Bool)
  | 0, _, _, _ => none
  | n + 1, l10, b33, z34 =>
    bO1 (F19 n l10) fun z35 => (if z35 = z34 then (if z34 < (0 : Int) then bO1 (F21 n l10) fun z36 => (if z36 = (0 : Int) then L5_8 n l10 z34 false else L5_8 n l10 z34 true) else bO1 (F21 n l10) fun z37 => (if z37 = (0 : Int) then L5_8 n l10 z34 true else L5_8 n l10 z34 false)) else L5_8 n l10 z34 true)
def L5_6 : Nat → (List D) → Int → Bool → Bool → Option (Bool)
  | 0, _, _, _, _ => none
  | n + 1, l10, z30, b31, b32 =>
    (if b32 = true then L5_7 n l10 b31 (65535 : Int) else L5_7 n l10 b31 z30)
def L5_5 : Nat → Int → Bool → (List D) → Int → Option (Bool)
  | 0, _, _, _, _ => none
  | n + 1, z6, b8, l10, z30 =>
    (if b8 = true then (if (65535 : Int) < z6 then L5_6 n l10 z30 true true else L5_6 n l10 z30 true false) else L5_6 n l10 z30 false false)
def L5_4 : Nat → Int → Bool → (List D) → Bool → Option (Bool)
  | 0, _, _, _, _ => none
  | n + 1, z6, b8, l10, b29 =>
    (if b29 = true then L5_5 n z6 b8 l10 (65536 : Int) else L5_5 n z6 b8 l10 (-1 : Int))
mutual
def L5_1 : Nat → Int → Bool → Int → (List D) → Option (Bool)
  | 0, _, _, _, _ => none
  | n + 1, z6, b8, z9, l10 =>
    (if z9 < z6 then L5_2 n z6 b8 z9 l10 true else L5_2 n z6 b8 z9 l10 false)
def L5_2 : Nat → Int → Bool → Int → (List D) → Bool → Option (Bool)
  | 0, _, _, _, _, _ => none
  | n + 1, z6, b8, z9, l10, b11 =>
    (if b11 = true then needF (0 ≤ z9 ∧ z9.toNat < l10.length) (getN l10 (z9.toNat) fun x12 => ds_t32 x12 fun z13 z14 z15 l16 => (if b8 = true then letF (IntKind.wrap .i64 (z9 + 1)) fun z17 => needF (0 ≤ z9 ∧ z9.toNat < l10.length) (setF l10 (z9.toNat) (.agg [.int .u8 1, .int .i64 0, .int .i64 0, .list false 1 []]) fun l18 => getN l18 (z9.toNat) fun x19 => ds_t32 x19 fun z20 z21 z22 l23 => setF l18 (z9.toNat) (.agg [.int .u8 7, .int .i64 0, .int .i64 z17, .list false 1 []]) fun l24 => L5_3 n z6 z9 true l24) else setF l10 (z9.toNat) (.agg [.int .u8 1, .int .i64 0, .int .i64 0, .list false 1 []]) fun l25 => L5_3 n z6 z9 false l25)) else (if (65536 : Int) < z6 then L5_4 n z6 b8 l10 true else L5_4 n z6 b8 l10 false))
def L5_3 : Nat → Int → Int → Bool → (List D) → Option (Bool)
  | 0, _, _, _, _ => none
  | n + 1, z6, z9, b26, l27 =>
    letF (IntKind.wrap .i64 (z9 + 1)) fun z28 => L5_1 n z6 b26 z28 l27
end
def F5 (n : Nat) (z1 : Int) (b2 : Bool) : Option (Bool) :=
  letF (IntKind.wrap .u64 z1) fun z3 => needF ((5 : Int) ≠ 0) (letF (Int.tmod z3 5) fun z4 => letF (IntKind.wrap .i64 z4) fun z5 => letF (IntKind.wrap .i64 (65534 + z5)) fun z6 => makeF 48 (.agg [.int .u8 0, .int .i64 0, .int .i64 0, .list false 1 []]) z6 z6 fun l7 => L5_1 n z6 b2 (0 : Int) l7)
set_option maxRecDepth 100000 in
set_option maxHeartbeats 40000000 in
theorem T5 (n : Nat) : ∀ ⦃z1 : Int⦄ ⦃b2 : Bool⦄ ⦃r1 : Bool⦄, F5 n z1 b2 = some r1 →
    Trip Tryd.prog inv 5 [.d (.int .i64 z1), .d (.bool b2)] [] (.v (.d (.bool r1))) [] [] := by
  intro z1 b2 r1 h
  unfold F5 at h
  refine Trip.of tab_ok tab_one fol Tryd.func5 rfl (by kernel_rfl) rfl rfl rfl (fun M hM hI => ?_)
  try cbv
  refine seq_go ?_
  try cbv
  refine seq_go ?_
  try cbv
  replace h := letF_inv h
  obtain ⟨z3, hz, h⟩ := h
  refine ⟨z3, hz, ?_⟩
  clear hz
  try cbv
  replace h := needF_inv h
  obtain ⟨hn, h⟩ := h
  replace h := letF_inv h
  obtain ⟨z4, hz, h⟩ := h
  refine ⟨z4, hn, hz, ?_⟩
  clear hn hz
  try cbv
  replace h := letF_inv h
  obtain ⟨z5, hz, h⟩ := h
  refine ⟨z5, hz, ?_⟩
  clear hz
  try cbv
  replace h := letF_inv h
  obtain ⟨z6, hz, h⟩ := h
  refine ⟨z6, hz, ?_⟩
  clear hz
  try cbv
  refine seq_go ?_
  try cbv
  replace h := makeF_inv h
  obtain ⟨l7, hb, hz, h⟩ := h
  refine ⟨(M.lock_iff _).2 hb, l7, hz, true, ?_⟩
  clear hb hz
  try cbv
  refine seq_go ?_
  try cbv
  refine seq_go ?_
  try cbv
  refine loop_invG (T := Nat × Bool × Int × List D) [] [] [1, 4, 5, 6, 7] [.loc 256] 352 (fun t => ⟨[(1, .v (.d (.bool t.2.1))), (4, .v (.d (.bool false))), (5, .v (.d (.int .i64 z6))), (6, .v (.c (.ow (.loc 256)))), (7, .v (.d (.int .i64 t.2.2.1)))], [(.loc 256, .tree .row true 4 t.2.2.2 none)], 352⟩)
    (fun t => t.1 ≤ n ∧ L5_1 t.1 z6 t.2.1 t.2.2.1 t.2.2.2 = some r1) (fun t => t.1) (n, (b2, (0 : Int), l7)) ⟨Nat.le_refl _, h⟩ (by cbv) ?_
  clear h
  rintro ⟨m1, b8, z9, l10⟩ ⟨hm1, h⟩
  replace hm1 : m1 ≤ n := hm1
  cases m1 with
  | zero =>
    replace h : L5_1 0 z6 b8 z9 l10 = some r1 := h
    rw [L5_1] at h
    cases h
  | succ m1 =>
    replace h : L5_1 (m1 + 1) z6 b8 z9 l10 = some r1 := h
    rw [L5_1] at h
    try cbv
    refine seq_go ?_
    try cbv
    refine seq_join (T := Nat × Bool) (fun t => ⟨[(1, .v (.d (.bool b8))), (4, .v (.d (.bool false))), (5, .v (.d (.int .i64 z6))), (6, .v (.c (.ow (.loc 256)))), (7, .v (.d (.int .i64 z9))), (18, .v (.d (.bool t.2)))], [(.loc 256, .tree .row true 4 l10 none)], 448⟩) (fun t => t.1 ≤ m1 ∧ L5_2 t.1 z6 b8 z9 l10 t.2 = some r1) ?_ ?_
    · try cbv
      refine splitL (fun e => ?_) (fun e => ?_)
      · replace h := ite_t e h
        clear e
        try cbv
        exact join_next (m1, true) [1, 4, 5, 6, 7, 18] [.loc 256] 448 ⟨by omega, h⟩ (by cbv)
      · replace h := ite_f (Int.not_lt.2 e) h
        clear e
        try cbv
        exact join_next (m1, false) [1, 4, 5, 6, 7, 18] [.loc 256] 448 ⟨by omega, h⟩ (by cbv)
    · clear h
      rintro ⟨m2, b11⟩ ⟨hm2, h⟩
      replace hm2 : m2 ≤ m1 := hm2
      cases m2 with
      | zero =>
        replace h : L5_2 0 z6 b8 z9 l10 b11 = some r1 := h
        rw [L5_2] at h
        cases h
      | succ m2 =>
        replace h : L5_2 (m2 + 1) z6 b8 z9 l10 b11 = some r1 := h
        rw [L5_2] at h
        try cbv
        cases b11
        · replace h := ite_f Bool.false_ne_true h
          try cbv
          refine seq_go ?_
          try cbv
          refine seq_join (T := Nat × Int) (fun t => ⟨[(1, .v (.d (.bool b8))), (4, .v (.d (.bool false))), (5, .v (.d (.int .i64 z6))), (6, .v (.c (.ow (.loc 256)))), (7, .v (.d (.int .i64 z9))), (8, .v (.d (.int .i64 t.2)))], [(.loc 256, .tree .row true 4 l10 none)], 576⟩) (fun t => t.1 ≤ m2 ∧ L5_5 t.1 z6 b8 l10 t.2 = some r1) ?_ ?_
          · try cbv
            refine seq_join (T := Nat × Bool) (fun t => ⟨[(1, .v (.d (.bool b8))), (4, .v (.d (.bool false))), (5, .v (.d (.int .i64 z6))), (6, .v (.c (.ow (.loc 256)))), (7, .v (.d (.int .i64 z9))), (8, .v (.d (.int .i64 (-1)))), (33, .v (.d (.bool t.2)))], [(.loc 256, .tree .row true 4 l10 none)], 544⟩) (fun t => t.1 ≤ m2 ∧ L5_4 t.1 z6 b8 l10 t.2 = some r1) ?_ ?_
            · try cbv
              refine splitL (fun e => ?_) (fun e => ?_)
              · replace h := ite_t e h
                clear e
                try cbv
                exact join_next (m2, true) [1, 4, 5, 6, 7, 8, 33] [.loc 256] 544 ⟨by omega, h⟩ (by cbv)
              · replace h := ite_f (Int.not_lt.2 e) h
                clear e
                try cbv
                exact join_next (m2, false) [1, 4, 5, 6, 7, 8, 33] [.loc 256] 544 ⟨by omega, h⟩ (by cbv)
            · clear h
              rintro ⟨m4, b29⟩ ⟨hm4, h⟩
              replace hm4 : m4 ≤ m2 := hm4
              cases m4 with
              | zero =>
                replace h : L5_4 0 z6 b8 l10 b29 = some r1 := h
                rw [L5_4] at h
                cases h
              | succ m4 =>
                replace h : L5_4 (m4 + 1) z6 b8 l10 b29 = some r1 := h
                rw [L5_4] at h
                try cbv
                cases b29
                · replace h := ite_f Bool.false_ne_true h
                  try cbv
                  exact join_next (m4, (-1 : Int)) [1, 4, 5, 6, 7, 8] [.loc 256] 576 ⟨by omega, h⟩ (by cbv)
                · replace h := ite_t rfl h
                  try cbv
                  exact join_next (m4, (65536 : Int)) [1, 4, 5, 6, 7, 8] [.loc 256] 576 ⟨by omega, h⟩ (by cbv)
          · clear h
            rintro ⟨m5, z30⟩ ⟨hm5, h⟩
            replace hm5 : m5 ≤ m2 := hm5
            cases m5 with
            | zero =>
              replace h : L5_5 0 z6 b8 l10 z30 = some r1 := h
              rw [L5_5] at h
              cases h
            | succ m5 =>
              replace h : L5_5 (m5 + 1) z6 b8 l10 z30 = some r1 := h
              rw [L5_5] at h
              try cbv
              refine seq_join (T := Nat × Bool × Int) (fun t => ⟨[(1, .v (.d (.bool t.2.1))), (4, .v (.d (.bool false))), (5, .v (.d (.int .i64 z6))), (6, .v (.c (.ow (.loc 256)))), (7, .v (.d (.int .i64 z9))), (8, .v (.d (.int .i64 t.2.2)))], [(.loc 256, .tree .row true 4 l10 none)], 768⟩) (fun t => t.1 ≤ m5 ∧ L5_7 t.1 l10 t.2.1 t.2.2 = some r1) ?_ ?_
              · try cbv
                refine seq_join (T := Nat × Bool × Bool) (fun t => ⟨[(1, .v (.d (.bool t.2.1))), (4, .v (.d (.bool false))), (5, .v (.d (.int .i64 z6))), (6, .v (.c (.ow (.loc 256)))), (7, .v (.d (.int .i64 z9))), (8, .v (.d (.int .i64 z30))), (38, .v (.d (.bool t.2.2)))], [(.loc 256, .tree .row true 4 l10 none)], 736⟩) (fun t => t.1 ≤ m5 ∧ L5_6 t.1 l10 z30 t.2.1 t.2.2 = some r1) ?_ ?_
                · try cbv
                  cases b8
                  · replace h := ite_f Bool.false_ne_true h
                    try cbv
                    exact join_next (m5, (false, false)) [1, 4, 5, 6, 7, 8, 38] [.loc 256] 736 ⟨by omega, h⟩ (by cbv)
                  · replace h := ite_t rfl h
                    try cbv
                    refine splitL (fun e => ?_) (fun e => ?_)
                    · replace h := ite_t e h
                      clear e
                      try cbv
                      exact join_next (m5, (true, true)) [1, 4, 5, 6, 7, 8, 38] [.loc 256] 736 ⟨by omega, h⟩ (by cbv)
                    · replace h := ite_f (Int.not_lt.2 e) h
                      clear e
                      try cbv
                      exact join_next (m5, (true, false)) [1, 4, 5, 6, 7, 8, 38] [.loc 256] 736 ⟨by omega, h⟩ (by cbv)
                · clear h
                  rintro ⟨m6, b31, b32⟩ ⟨hm6, h⟩
                  replace hm6 : m6 ≤ m5 := hm6
                  cases m6 with
                  | zero =>
                    replace h : L5_6 0 l10 z30 b31 b32 = some r1 := h
                    rw [L5_6] at h
                    cases h
                  | succ m6 =>
                    replace h : L5_6 (m6 + 1) l10 z30 b31 b32 = some r1 := h
                    rw [L5_6] at h
                    try cbv
                    cases b32
                    · replace h := ite_f Bool.false_ne_true h
                      try cbv
                      exact join_next (m6, (b31, z30)) [1, 4, 5, 6, 7, 8] [.loc 256] 768 ⟨by omega, h⟩ (by cbv)
                    · replace h := ite_t rfl h
                      try cbv
                      exact join_next (m6, (b31, (65535 : Int))) [1, 4, 5, 6, 7, 8] [.loc 256] 768 ⟨by omega, h⟩ (by cbv)
              · clear h
                rintro ⟨m7, b33, z34⟩ ⟨hm7, h⟩
                replace hm7 : m7 ≤ m5 := hm7
                cases m7 with
                | zero =>
                  replace h : L5_7 0 l10 b33 z34 = some r1 := h
                  rw [L5_7] at h
                  cases h
                | succ m7 =>
                  replace h : L5_7 (m7 + 1) l10 b33 z34 = some r1 := h
                  rw [L5_7] at h
                  try cbv
                  refine seq_go ?_
                  try cbv
                  refine seq_join (T := Nat × Bool) (fun t => ⟨[(1, .v (.d (.bool b33))), (4, .v (.d (.bool false))), (5, .v (.d (.int .i64 z6))), (6, .v (.d (.list true 4 l10))), (7, .v (.d (.int .i64 z9))), (8, .v (.d (.int .i64 z34))), (50, .v (.d (.bool t.2)))], [], 1152⟩) (fun t => t.1 ≤ m7 ∧ L5_8 t.1 l10 z34 t.2 = some r1) ?_ ?_
                  · try cbv
                    replace h := bO1_inv h
                    obtain ⟨z35, hr, h⟩ := h
                    refine call_gs [.freeze (.loc 256)] rfl rfl ?_
                    try cbv
                    first | refine ⟨by first | rfl | trivial, ?_⟩ | skip
                    refine callfv_with hM hI [] rfl rfl (T19 _ hr) rfl (by simp) trivial trivial (by simp) ?_
                    clear hr
                    try cbv
                    refine splitI (fun e => ?_) (fun e => ?_)
                    · replace h := ite_t e h
                      clear e
                      try cbv
                      refine splitL (fun e => ?_) (fun e => ?_)
                      · replace h := ite_t e h
                        clear e
                        try cbv
                        replace h := bO1_inv h
                        obtain ⟨z36, hr, h⟩ := h
                        refine call_go rfl rfl ?_
                        try cbv
                        refine call_pure hM hI (T21 _ hr) rfl ?_
                        clear hr
                        try cbv
                        refine splitI (fun e => ?_) (fun e => ?_)
                        · replace h := ite_t e h
                          clear e
                          try cbv
                          refine ⟨false, rfl, ?_⟩
                          try cbv
                          exact join_next (m7, false) [1, 4, 5, 6, 7, 8, 50] [] 1152 ⟨by omega, h⟩ (by cbv)
                        · replace h := ite_f e h
                          clear e
                          try cbv
                          refine ⟨true, rfl, ?_⟩
                          try cbv
                          exact join_next (m7, true) [1, 4, 5, 6, 7, 8, 50] [] 1152 ⟨by omega, h⟩ (by cbv)
                      · replace h := ite_f (Int.not_lt.2 e) h
                        clear e
                        try cbv
                        replace h := bO1_inv h
                        obtain ⟨z37, hr, h⟩ := h
                        refine call_go rfl rfl ?_
                        try cbv
                        refine call_pure hM hI (T21 _ hr) rfl ?_
                        clear hr
                        try cbv
                        refine splitI (fun e => ?_) (fun e => ?_)
                        · replace h := ite_t e h
                          clear e
                          try cbv
                          refine ⟨true, rfl, ?_⟩
                          try cbv
                          exact join_next (m7, true) [1, 4, 5, 6, 7, 8, 50] [] 1152 ⟨by omega, h⟩ (by cbv)
                        · replace h := ite_f e h
                          clear e
                          try cbv
                          refine ⟨false, rfl, ?_⟩
                          try cbv
                          exact join_next (m7, false) [1, 4, 5, 6, 7, 8, 50] [] 1152 ⟨by omega, h⟩ (by cbv)
                    · replace h := ite_f e h
                      clear e
                      try cbv
                      exact join_next (m7, true) [1, 4, 5, 6, 7, 8, 50] [] 1152 ⟨by omega, h⟩ (by cbv)
                  · clear h
                    rintro ⟨m8, b38⟩ ⟨hm8, h⟩
                    replace hm8 : m8 ≤ m7 := hm8
                    cases m8 with
                    | zero =>
                      replace h : L5_8 0 l10 z34 b38 = some r1 := h
                      rw [L5_8] at h
                      cases h
                    | succ m8 =>
                      replace h : L5_8 (m8 + 1) l10 z34 b38 = some r1 := h
                      rw [L5_8] at h
                      try cbv
                      cases b38
                      · replace h := ite_f Bool.false_ne_true h
                        try cbv
                        refine seq_go ?_
                        try cbv
                        refine splitLe (fun e => ?_) (fun e => ?_)
                        · replace h := ite_t e h
                          clear e
                          try cbv
                          replace h := bO1_inv h
                          obtain ⟨z39, hr, h⟩ := h
                          refine call_go rfl rfl ?_
                          try cbv
                          refine call_pure hM hI (T20 _ hr) rfl ?_
                          clear hr
                          try cbv
                          refine splitI (fun e => ?_) (fun e => ?_)
                          · replace h := ite_t e h
                            clear e
                            try cbv
                            refine ⟨true, rfl, ?_⟩
                            try cbv
                            replace h := bO1_inv h
                            obtain ⟨b40, hr, h⟩ := h
                            refine call_go rfl rfl ?_
                            try cbv
                            refine call_pure hM hI (T22 _ hr) rfl ?_
                            clear hr
                            try cbv
                            obtain rfl := Option.some.inj h
                            refine fin_go ?_
                            try cbv
                            exact ⟨[], rfl, rfl, trivial, trivial, trivial⟩
                          · replace h := ite_f e h
                            clear e
                            try cbv
                            refine ⟨false, rfl, ?_⟩
                            try cbv
                            obtain rfl := Option.some.inj h
                            refine fin_go ?_
                            try cbv
                            exact ⟨[], rfl, rfl, trivial, trivial, trivial⟩
                        · replace h := ite_f (Int.not_le.2 e) h
                          clear e
                          try cbv
                          replace h := bO1_inv h
                          obtain ⟨z41, hr, h⟩ := h
                          refine call_go rfl rfl ?_
                          try cbv
                          refine call_pure hM hI (T20 _ hr) rfl ?_
                          clear hr
                          try cbv
                          refine splitI (fun e => ?_) (fun e => ?_)
                          · replace h := ite_t e h
                            clear e
                            try cbv
                            refine ⟨false, rfl, ?_⟩
                            try cbv
                            obtain rfl := Option.some.inj h
                            refine fin_go ?_
                            try cbv
                            exact ⟨[], rfl, rfl, trivial, trivial, trivial⟩
                          · replace h := ite_f e h
                            clear e
                            try cbv
                            refine ⟨true, rfl, ?_⟩
                            try cbv
                            replace h := bO1_inv h
                            obtain ⟨b42, hr, h⟩ := h
                            refine call_go rfl rfl ?_
                            try cbv
                            refine call_pure hM hI (T22 _ hr) rfl ?_
                            clear hr
                            try cbv
                            obtain rfl := Option.some.inj h
                            refine fin_go ?_
                            try cbv
                            exact ⟨[], rfl, rfl, trivial, trivial, trivial⟩
                      · replace h := ite_t rfl h
                        try cbv
                        refine seq_go ?_
                        try cbv
                        obtain rfl := Option.some.inj h
                        refine fin_go ?_
                        try cbv
                        exact ⟨[], rfl, rfl, trivial, trivial, trivial⟩
        · replace h := ite_t rfl h
          try cbv
          refine seq_join (T := Nat × Bool × List D) (fun t => ⟨[(1, .v (.d (.bool t.2.1))), (4, .v (.d (.bool false))), (5, .v (.d (.int .i64 z6))), (6, .v (.c (.ow (.loc 256)))), (7, .v (.d (.int .i64 z9)))], [(.loc 256, .tree .row true 4 t.2.2 none)], 864⟩) (fun t => t.1 ≤ m2 ∧ L5_3 t.1 z6 z9 t.2.1 t.2.2 = some r1) ?_ ?_
          · try cbv
            refine seq_go ?_
            try cbv
            replace h := needF_inv h
            obtain ⟨hn, h⟩ := h
            refine ⟨(M.lock_iff _).2 hn, ?_⟩
            clear hn
            try cbv
            refine ⟨[], ?_⟩
            try cbv
            replace h := getN_inv h
            obtain ⟨x12, hx, h⟩ := h
            replace h := ds_t32_inv h
            obtain ⟨z13, z14, z15, l16, rfl, h⟩ := h
            refine ⟨_, hx, ?_⟩
            clear hx
            try cbv
            refine seq_go ?_
            try cbv
            cases b8
            · replace h := ite_f Bool.false_ne_true h
              try cbv
              replace h := setF_inv h
              obtain ⟨l25, hz0, h⟩ := h
              refine join_nextG (m2, (false, l25)) [.close (.loc 256)] [] [1, 4, 5, 6, 7] [.loc 256] 864 ⟨by omega, h⟩ ?_
              try cbv
              first | exact ⟨l25, hz0, rfl⟩ | (refine ⟨l25, hz0, ?_⟩; cbv)
            · replace h := ite_t rfl h
              try cbv
              replace h := letF_inv h
              obtain ⟨z17, hz, h⟩ := h
              refine ⟨z17, hz, ?_⟩
              clear hz
              try cbv
              replace h := needF_inv h
              obtain ⟨hn, h⟩ := h
              refine ⟨(M.lock_iff _).2 hn, ?_⟩
              clear hn
              try cbv
              refine ⟨[.loc 256], ?_⟩
              try cbv
              replace h := setF_inv h
              obtain ⟨l18, hz, h⟩ := h
              refine ⟨l18, hz, ?_⟩
              clear hz
              try cbv
              replace h := getN_inv h
              obtain ⟨x19, hx, h⟩ := h
              replace h := ds_t32_inv h
              obtain ⟨z20, z21, z22, l23, rfl, h⟩ := h
              refine ⟨_, hx, ?_⟩
              clear hx
              try cbv
              replace h := setF_inv h
              obtain ⟨l24, hz0, h⟩ := h
              refine join_nextG (m2, (true, l24)) [.close (.loc 256)] [] [1, 4, 5, 6, 7] [.loc 256] 864 ⟨by omega, h⟩ ?_
              try cbv
              first | exact ⟨l24, hz0, rfl⟩ | (refine ⟨l24, hz0, ?_⟩; cbv)
          · clear h
            rintro ⟨m3, b26, l27⟩ ⟨hm3, h⟩
            replace hm3 : m3 ≤ m2 := hm3
            cases m3 with
            | zero =>
              replace h : L5_3 0 z6 z9 b26 l27 = some r1 := h
              rw [L5_3] at h
              cases h
            | succ m3 =>
              replace h : L5_3 (m3 + 1) z6 z9 b26 l27 = some r1 := h
              rw [L5_3] at h
              try cbv
              replace h := letF_inv h
              obtain ⟨z28, hz, h⟩ := h
              refine ⟨z28, hz, ?_⟩
              clear hz
              try cbv
              refine loop_nextG (m3, (b26, z28, l27)) [] [] [1, 4, 5, 6, 7] [.loc 256] 352 ⟨by omega, h⟩ (Nat.lt_succ_of_le (by omega)) ?_
              try cbv
end Go.Proofs.YtjobleemmjjocaaDoor
end

/- Chapter 25, the plain law, part G: the greatest traces. No condition. -/
set_option linter.unusedVariables false
noncomputable section
namespace Go.Proofs.YtjobleemmjjocaaDoor
open Go Go.AM
open Classical

/-- The event at place i. -/
def evr (b : Bool) (i : Nat) : D := if b = true then .agg [.int .u8 7, .int .i64 0, .int .i64 ((i + 1 : Nat) : Int), .list false 1 []] else .agg [.int .u8 1, .int .i64 0, .int .i64 0, .list false 1 []]
theorem evr_get (b : Bool) (i : Nat) : ∃ k d, evr b i = D.agg [.int .u8 k, .int .i64 0, .int .i64 d, .list false 1 []] := by
  cases b
  · exact ⟨1, 0, rfl⟩
  · exact ⟨7, _, rfl⟩

theorem rdF {l : List D} {N : Nat} (hN : l.length = N) (hl : ∀ j, j < N → l[j]? = some (evr false j)) : ∀ i, i ≤ N → i ≤ 65536 → rd (l.drop i) i [.bool false] = if N ≤ 65536 then (-1, 1) else (65536, 0) := by
  refine down N (fun h => ?_) (fun i hi ih h => ?_)
  · rw [← hN, List.drop_length, hN, if_pos h]; rfl
  · rw [drop_cons (hl i hi)]
    by_cases c : i = 65536
    · subst c
      simp only [rd, if_neg (show ¬ N ≤ 65536 by omega)]
      rw [if_pos (by omega)]; rfl
    · have e : stepX (evr false i) [.bool false] = some [.bool false] := by
        show stepS 1 0 0 [] [.bool false] = _
        unfold stepS
        rw [if_pos ⟨by omega, by decide, rfl⟩]
        unfold stepK
        rw [if_pos (.inl rfl), if_pos ⟨by omega, rfl⟩]
      simp only [rd, e, if_neg (show ¬ 65536 ≤ (i : Int) by omega)]
      exact ih (by omega)
theorem rdT {l : List D} {N : Nat} (hN : l.length = N) (hl : ∀ j, j < N → l[j]? = some (evr true j)) : ∀ i, i ≤ N → i ≤ 65535 → ∀ E : List D, E.length = i + 1 → E[0]? = some (.bool false) →
    rd (l.drop i) i E = if N ≤ 65535 then (-1, ((N + 1 : Nat) : Int)) else (65535, 0) := by
  refine down N (fun h E h1 h2 => ?_) (fun i hi ih h E h1 h2 => ?_)
  · rw [← hN, List.drop_length, hN, if_pos h, rd, h1]
  · rw [drop_cons (hl i hi)]
    have e : stepX (evr true i) E = if ((i + 1 : Nat) : Int) < 65536 then some (E ++ [.bool false]) else none := by
      show stepS 7 0 ((i + 1 : Nat) : Int) [] E = _
      unfold stepS
      rw [if_pos ⟨by omega, by show 0 < E.length; omega, h2⟩]
      unfold stepK
      rw [if_neg (by omega), if_neg (by omega), if_pos rfl, h1]
      by_cases c : ((i + 1 : Nat) : Int) < 65536
      · rw [if_pos ⟨rfl, c, rfl⟩, if_pos c]
      · rw [if_neg (fun h => c h.2.1), if_neg c]
    by_cases c : i = 65535
    · subst c
      rw [if_neg (by omega)] at e
      simp only [rd, e, if_neg (show ¬ N ≤ 65535 by omega)]
      rw [if_neg (by omega)]; rfl
    · rw [if_pos (by omega)] at e
      simp only [rd, e, if_neg (show ¬ 65536 ≤ (i : Int) by omega)]
      exact ih (by omega) _ (by simp [h1]) (by rw [List.getElem?_append_left (by omega)]; exact h2)

theorem ev21 {L : List D} (hL : EvL L) : Ev (fun n => F21 n L) (if 0 ≤ (rd0 L).1 then 250 else 0) := by
  unfold F21
  refine Ev.bO1 (ev19 hL) ?_
  by_cases c : 0 ≤ (rd0 L).1
  · simp only [if_pos c]; exact Ev.succ (by simp only [L21_1, if_true]; exact Ev.ret)
  · simp only [if_neg c]; exact Ev.succ (by simp only [L21_1, Bool.false_eq_true, if_false]; exact Ev.ret)

theorem lim7 {l : List D} (hl : EvL l) (b : Bool) {z : Int} (h1 : (rd0 l).1 = z) (h2 : z = -1 ∧ (rd0 l).2 ≠ 0 ∨ 0 ≤ z ∧ (rd0 l).2 = 0) : Ev (fun n => L5_7 n l b z) true := by
  have stop : Ev (fun n => L5_8 n l z false) true := by
    refine Ev.succ ?_
    rcases h2 with ⟨h2, h3⟩ | ⟨h2, h3⟩
    · simp only [L5_8, Bool.false_eq_true, if_false, if_neg (show ¬ 0 ≤ z by omega)]
      refine Ev.bO1 (ev20 hl) ?_
      simp only [if_neg h3]
      exact Ev.bO1 ev22 Ev.ret
    · simp only [L5_8, Bool.false_eq_true, if_false, if_pos h2]
      refine Ev.bO1 (ev20 hl) ?_
      simp only [if_pos h3]
      exact Ev.bO1 ev22 Ev.ret
  refine Ev.succ ?_
  simp only [L5_7]
  refine Ev.bO1 (ev19 hl) ?_
  simp only [if_pos h1]
  rcases h2 with ⟨h2, h3⟩ | ⟨h2, h3⟩
  · simp only [if_pos (show z < 0 by omega)]
    refine Ev.bO1 (ev21 hl) ?_
    simp only [h1, if_neg (show ¬ 0 ≤ z by omega), if_true]
    exact stop
  · simp only [if_neg (show ¬ z < 0 by omega)]
    refine Ev.bO1 (ev21 hl) ?_
    simp only [h1, if_pos h2, if_neg (show ¬ (250 : Int) = 0 by decide)]
    exact stop

theorem lim1 {N : Nat} (h0 : 65534 ≤ N) (h8 : N ≤ 65538) (b : Bool) : ∀ i, i ≤ N → ∀ l : List D, l.length = N → (∀ j, j < i → l[j]? = some (evr b j)) → (∀ j, i ≤ j → j < N → l[j]? = some (.agg [.int .u8 0, .int .i64 0, .int .i64 0, .list false 1 []])) →
    Ev (fun n => L5_1 n (N : Int) b (i : Int) l) true := by
  have hmax : N ≤ maxLen := by
    have : (70000 : Nat) ≤ maxLen := by decide
    omega
  refine down N (fun l hN hl _ => ?_) (fun i hi ih l hN h1 h2 => ?_)
  · have he : EvL l := ⟨by omega, fun x hx => by
      obtain ⟨j, hj, rfl⟩ := List.mem_iff_getElem.1 hx
      have := hl j (by omega)
      rw [List.getElem?_eq_getElem hj] at this
      obtain ⟨k, d, e⟩ := evr_get b j
      exact ⟨k, 0, d, [], by rw [Option.some.inj this, e], nil_listS⟩⟩
    refine Ev.succ ?_
    simp only [L5_1, Int.lt_irrefl, if_false]
    refine Ev.succ ?_
    simp only [L5_2, Bool.false_eq_true, if_false]
    cases b
    · have e : rd0 l = if N ≤ 65536 then (-1, 1) else (65536, 0) := rdF hN hl 0 (Nat.zero_le _) (by omega)
      have go : ∀ z, (rd0 l).1 = z → (z = -1 ∧ (rd0 l).2 ≠ 0 ∨ 0 ≤ z ∧ (rd0 l).2 = 0) → Ev (fun n => L5_5 n (N : Int) false l z) true := by
        intro z q1 q2
        refine Ev.succ ?_
        simp only [L5_5, Bool.false_eq_true, if_false]
        refine Ev.succ ?_
        simp only [L5_6, Bool.false_eq_true, if_false]
        exact lim7 he false q1 q2
      by_cases c : N ≤ 65536
      · rw [if_pos c] at e
        simp only [if_neg (show ¬ (65536 : Int) < (N : Int) by omega)]
        refine Ev.succ ?_
        simp only [L5_4, Bool.false_eq_true, if_false]
        exact go (-1) (by rw [e]) (.inl ⟨rfl, by rw [e]; simp⟩)
      · rw [if_neg c] at e
        simp only [if_pos (show (65536 : Int) < (N : Int) by omega)]
        refine Ev.succ ?_
        simp only [L5_4, if_true]
        exact go 65536 (by rw [e]) (.inr ⟨by omega, by rw [e]⟩)
    · have e : rd0 l = if N ≤ 65535 then (-1, ((N + 1 : Nat) : Int)) else (65535, 0) := rdT hN hl 0 (Nat.zero_le _) (by omega) [.bool false] rfl rfl
      have go : ∀ z, (65535 < N ∨ z = -1) → Ev (fun n => L5_5 n (N : Int) true l z) true := by
        intro z q
        refine Ev.succ ?_
        simp only [L5_5, if_true]
        by_cases c : N ≤ 65535
        · rw [if_pos c] at e
          simp only [if_neg (show ¬ (65535 : Int) < (N : Int) by omega)]
          refine Ev.succ ?_
          simp only [L5_6, Bool.false_eq_true, if_false]
          exact lim7 he true (by rw [e]; show -1 = z; omega) (.inl ⟨by omega, by rw [e]; show ((N + 1 : Nat) : Int) ≠ 0; omega⟩)
        · rw [if_neg c] at e
          simp only [if_pos (show (65535 : Int) < (N : Int) by omega)]
          refine Ev.succ ?_
          simp only [L5_6, if_true]
          exact lim7 he true (by rw [e]) (.inr ⟨by omega, by rw [e]⟩)
      by_cases c : (65536 : Int) < (N : Int)
      · simp only [if_pos c]
        refine Ev.succ ?_
        simp only [L5_4, if_true]
        exact go _ (.inl (by omega))
      · simp only [if_neg c]
        refine Ev.succ ?_
        simp only [L5_4, Bool.false_eq_true, if_false]
        exact go _ (.inr rfl)
  · have hx := h2 i (Nat.le_refl _) hi
    have hw := wrap_succ hi hmax
    refine Ev.succ ?_
    simp only [L5_1, if_pos (ilt hi)]
    have need : 0 ≤ (i : Int) ∧ i < l.length := by omega
    have step : ∀ l' : List D, l' = l.set i (evr b i) → Ev (fun n => L5_3 n (N : Int) (i : Int) b l') true := by
      rintro l' rfl
      refine Ev.succ ?_
      simp only [L5_3, letF, hw]
      refine ih _ (by simpa using hN) (fun j hj => ?_) (fun j hj1 hj2 => ?_)
      · by_cases c : i = j
        · subst c; rw [List.getElem?_set_self (by omega)]
        · rw [List.getElem?_set_ne c]; exact h1 j (by omega)
      · rw [List.getElem?_set_ne (by omega)]; exact h2 j (by omega) hj2
    refine Ev.succ ?_
    have ti : (i : Int).toNat = i := by omega
    cases b
    · simp only [L5_2, if_true, needF, ti, if_pos need, getN_eq hx, ds_t32, Bool.false_eq_true, if_false, setF]
      exact step _ rfl
    · have hy : (l.set i (.agg [.int .u8 1, .int .i64 0, .int .i64 0, .list false 1 []]))[i]? = some (.agg [.int .u8 1, .int .i64 0, .int .i64 0, .list false 1 []]) := List.getElem?_set_self (by omega)
      simp only [L5_2, if_true, needF, ti, if_pos need, getN_eq hx, ds_t32, letF, hw, setF, getN_eq hy, List.set_set]
      exact step _ rfl

theorem trace_limits_trip : ∀ xs : List D, Shapes tab [3, 4] xs → Trip Tryd.prog inv 5 (xs.map V1.d) [] (.v (.d (.bool true))) [] [] := by
  intro xs h
  match xs, h with
  | [u, v], ⟨u1, u2, v1, v2, _⟩ =>
    obtain ⟨z, rfl, _⟩ := rs3 (x := u) ⟨u1, u2⟩
    have hv : RowS tab 4 v := ⟨v1, v2⟩
    obtain ⟨b, rfl⟩ := (hv.flat1 (y := tyD tab 4) (by kernel_rfl) rfl).boolS (x := tyD tab 4) (by kernel_rfl) rfl
    have law : Ev (fun n => F5 n z b) true := by
      have g0 := wrapR z
      have g1 : 0 ≤ Int.tmod (IntKind.u64.wrap z) 5 := Int.tmod_nonneg _ g0
      have g2 : Int.tmod (IntKind.u64.wrap z) 5 < 5 := Int.tmod_lt_of_pos _ (by omega)
      obtain ⟨m, hm⟩ : ∃ m : Nat, Int.tmod (IntKind.u64.wrap z) 5 = (m : Int) := ⟨(Int.tmod (IntKind.u64.wrap z) 5).toNat, by omega⟩
      have w1 : IntKind.i64.wrap (m : Int) = (m : Int) := IntWalk.i64_in _ (by omega)
      have w2 : IntKind.i64.wrap (65534 + (m : Int)) = ((65534 + m : Nat) : Int) := by rw [IntWalk.i64_in _ (by omega)]; omega
      simp only [F5, letF, needF, if_pos (show (5 : Int) ≠ 0 by decide), hm, w1, w2, makeF]
      have ht : (((65534 + m : Nat) : Int)).toNat = 65534 + m := by omega
      have hb : 0 ≤ ((65534 + m : Nat) : Int) ∧ ((65534 + m : Nat) : Int) ≤ 9223372036854775807 ∧ ((48 : Nat) : Int) * ((65534 + m : Nat) : Int) ≤ 281474976710656 := by omega
      simp only [true_and, if_pos hb, ht]
      refine lim1 (by omega) (by omega) b 0 (Nat.zero_le _) _ (by simp) (fun j hj => by omega) (fun j _ hj => ?_)
      rw [List.getElem?_replicate, if_pos hj]
    obtain ⟨n, hn⟩ := law.run
    exact T5 n hn
end Go.Proofs.YtjobleemmjjocaaDoor
end

/- TraceLimits holds: a trace has at most MaxEvents events, and at most 65536 threads. No condition. -/
namespace Go.Proofs.YtjobleemmjjocaaDoor
open Go Go.ChangeShapes Go.WideShapes Go.ChangeAt Go.RowKit Go.AM

theorem trace_limits_reads : ∀ t ∈ [3, 4], Tryd.prog.readableRec t = true ∧ t < Tryd.prog.types.size := by
  have h : ([3, 4].all fun t => Tryd.prog.readableRec t && decide (t < Tryd.prog.types.size)) = true := by kernel_rfl
  intro t ht
  have := List.all_eq_true.1 h t ht
  simpa using this

/-- What the row knows of the library's table. -/
theorem trace_limits_inv {W : World} (h : laidMet Tryd.prog Rows.traceLimitsRow.laid W) : inv.at W fun _ _ => False := by
  have e : (Rows.traceLimitsRow.laid.filter fun x => x.1 == "internal/strconv.uint64pow10") = [("internal/strconv.uint64pow10", Lib.tabData .u64 Lib.pow10Tab)] := by kernel_rfl
  have h2 := laidMet.filter (fun x => x.1 == "internal/strconv.uint64pow10") h
  rw [e] at h2
  have ht : Lib.TabIs Tryd.prog W "internal/strconv.uint64pow10" .u64 Lib.pow10Tab := by
    exact Lib.tabIs_of_head (g := 0) (t := 138) (e := 35) (n := 20) (by kernel_rfl) (by kernel_rfl) (by kernel_rfl) (by kernel_rfl) (by kernel_rfl) (by kernel_rfl) h2
  refine ⟨ht, fun b hb => ⟨?_, fun _ h => h⟩⟩
  have hb : Tryd.prog.globalNamed "internal/strconv.uint64pow10" = some b := hb
  unfold Lib.TabIs World.var? at ht
  rw [hb] at ht
  simp only [Option.bind_some] at ht
  cases hx : W.heap[b]? with
  | none => rw [hx] at ht; simp at ht
  | some o => exact (Array.getElem?_eq_some_iff.1 hx).1

set_option maxRecDepth 100000 in
theorem trace_limits_lifted (os : Os) (started : os.Started) (H : Type) (enc : TypeId × Value → H) :
    ReturnsInHanded {} Tryd.checked os 5 .any (fun w args => (Rows.traceLimitsSpec.pre enc Tryd.prog Tryd.f5 Rows.traceLimitsRow.domain false w args ∧ laidMetH Tryd.prog Rows.traceLimitsRow.laid w) ∧ sizedMet enc Tryd.prog Tryd.f5 (OpenSpec.ofChange Rows.traceLimitsSpec) false w args)
      (Rows.traceLimitsSpec.post enc Tryd.prog Tryd.f5 false true false false) := by
  refine returnsInHanded_of_change_and (C := Tryd.checked) (X := fun w _ => laidMetH Tryd.prog Rows.traceLimitsRow.laid w) (fun _ _ _ hh h => h.of_heap hh) (by kernel_rfl) started (by kernel_rfl) Tryd.func5
    (ChangeSpec.witness_shaped (enc := enc) (C := Tryd.checked) (os := os) (X := fun w _ => laidMetH Tryd.prog Rows.traceLimitsRow.laid w) false (World.laidAll Tryd.prog os Rows.traceLimitsRow.laid) #[.int .i64 0, .bool false] 8 (World.laidAll_os _ _ _)
      (World.shaped_of_ZipB (by kernel_rfl) (by kernel_rfl)) (by kernel_rfl) (by kernel_rfl) (by kernel_rfl)
      (by rw [MakeChecks.laidMetH_plain _ _ _ (by kernel_rfl)]; exact laidMet_laidAll _ (by kernel_rfl) (by kernel_rfl))) ?_
  intro W base args ds gs before hval0 hW _ _ hL _
  rw [MakeChecks.laidMetH_plain _ _ _ (by kernel_rfl)] at hL
  refine law_calls (ti := tab) (T := [3, 4]) tab_ok (by kernel_rfl) (ts := [3, 4]) (bt := 4) rfl rfl rfl (by kernel_rfl) (by decide) ?_ (by kernel_rfl) trace_limits_reads trace_limits_trip (trace_limits_inv hL) hval0 hW
  intro ds h
  match ds, h with
  | [_, _], _ => exact ⟨rfl, rfl, rfl⟩
theorem trace_limits_row : Rows.TraceLimitsSaid :=
  OpenClaim.holds_of_wide 5 Tryd.f5 rfl rfl rfl rfl rfl rfl rfl ⟨rfl, rfl, rfl, rfl, rfl⟩ rfl rfl rfl rfl rfl (by kernel_rfl) Tryd.func5 (by kernel_rfl)
    (of_decide_eq_true (by kernel_rfl)) (by unfold Func.isWrapper; first | (rw [if_pos (by decide +kernel)]; kernel_rfl) | (rw [if_neg (by decide +kernel)]; exact ⟨rfl, rfl⟩))
    (fun os started H enc _ => trace_limits_lifted os started H enc)
theorem trace_limits : Rows.TraceLimitsCardSaid :=
  Claim7.holds_tied_plain_at .later [] [.data, .data, .data] true Rows.traceLimitsCard.stood.harness false trace_limits_row (fun _ h => by cases h) (by kernel_rfl) (fun _ h => by cases h) traceLimits_row_tie rfl ⟨rfl, rfl⟩ (by kernel_rfl) rfl
    (fun f fn hf hfn => by
      obtain rfl : f = 5 := Option.some.inj ((show Tryd.prog.funcNamed "weftway/weftwaylaw25.TraceLimits" = some 5 by kernel_rfl).symm.trans hf) |>.symm
      obtain rfl : fn = Tryd.f5 := (Option.some.inj (Tryd.func5.symm.trans hfn)).symm
      exact ⟨by kernel_rfl, fun j t ht => by
        have hm : t ∈ [3, 4] := by
          have hp : Tryd.f5.params.toList = [3, 4] := rfl
          rw [← hp]; simpa using Array.mem_of_getElem? ht
        have hall : ([3, 4].all fun u => !Tryd.prog.wantsStandIn u) = true := by kernel_rfl
        exact (show Tryd.prog.wantsStandIn t = false by simpa using List.all_eq_true.1 hall t hm)⟩)
    (by kernel_rfl)
end Go.Proofs.YtjobleemmjjocaaDoor
