/- TraceConflict holds: whether events are accesses, conflict, and are the same is what the document says, of any two events. No condition. (Part 5: YtjobleemmjjocaaDoorX48, YtjobleemmjjocaaDoorX25, YtjobleemmjjocaaDoorX22, YtjobleemmjjocaaDoorX27, YtjobleemmjjocaaDoorX49, YtjobleemmjjocaaDoorX28, YtjobleemmjjocaaDoorX29, YtjobleemmjjocaaDoorX30, YtjobleemmjjocaaDoorX9, AmR, TrA, TrAh.) -/
import Derived.Carry
import Derived.ChangeSame
import Derived.ChangeOld
import Derived.ChangeCalls
import Derived.WideShapes
import Derived.Test.YtjobleemmjjocaaDoorRows
import Derived.Test.YtjobleemmjjocaaDoorTie
import Derived.Test.YtjobleemmjjocaaDoorCards
import Derived.JoinedOf
import Derived.JoinedAt
import Derived.RowKit
import Derived.RowKit2
import Derived.ReadAgain
import Derived.ChangeAlike
import Derived.Lay
import Derived.Handed
import Derived.LaidSub
import Derived.LaidLaws
import Derived.LaidHandle
import Derived.MakeChecks
import Derived.SevenTiedAt
import Derived.Lib.LaidTab
import Derived.Lib.LaidU8
import Derived.Test.YtjobleemmjjocaaDoorTcfD
set_option linter.unusedVariables false
set_option linter.unusedSimpArgs false
/- Printed by lift.py: functional texts of functions, and their contracts. No condition. -/
set_option linter.unusedVariables false
noncomputable section
namespace Go.Proofs.YtjobleemmjjocaaDoor
open Go Go.AM
def F48 (n : Nat) (l1 : List D) (l2 : List D) : Option (Bool) :=
  lenF l1 fun z3 => lenF l2 fun z4 => (if z3 ≤ z4 then lenF l1 fun z5 => sliceF l2 (0 : Int) z5 fun l6 => bO1 (F50 n l1 l6) fun b7 => some b7 else some false)
set_option maxRecDepth 100000 in
set_option maxHeartbeats 40000000 in
theorem T48 (n : Nat) : ∀ ⦃l1 : List D⦄ ⦃l2 : List D⦄ ⦃r1 : Bool⦄, F48 n l1 l2 = some r1 →
    Trip Tryd.prog inv 48 [.d (.list false 1 l1), .d (.list false 1 l2)] [] (.v (.d (.bool r1))) [] [] := by
  intro l1 l2 r1 h
  unfold F48 at h
  refine Trip.of tab_ok tab_one fol Tryd.func48 rfl (by kernel_rfl) rfl rfl rfl (fun M hM hI => ?_)
  try cbv
  refine seq_go ?_
  try cbv
  refine seq_go ?_
  try cbv
  replace h := lenF_inv M h
  obtain ⟨z3, hz, h⟩ := h
  refine ⟨z3, hz, ?_⟩
  clear hz
  try cbv
  replace h := lenF_inv M h
  obtain ⟨z4, hz, h⟩ := h
  refine ⟨z4, hz, ?_⟩
  clear hz
  try cbv
  refine splitLe (fun e => ?_) (fun e => ?_)
  · replace h := ite_t e h
    clear e
    try cbv
    replace h := lenF_inv M h
    obtain ⟨z5, hz, h⟩ := h
    refine ⟨z5, hz, ?_⟩
    clear hz
    try cbv
    replace h := sliceF_inv M h
    obtain ⟨l6, hb, hz, h⟩ := h
    refine ⟨l6, hb, hz, ?_⟩
    clear hb hz
    try cbv
    replace h := bO1_inv h
    obtain ⟨b7, hr, h⟩ := h
    refine call_go rfl rfl ?_
    try cbv
    refine call_pure hM hI (T50 _ hr) rfl ?_
    clear hr
    try cbv
    obtain rfl := Option.some.inj h
    refine fin_go ?_
    try cbv
    exact ⟨[], rfl, rfl, trivial, trivial, trivial⟩
  · replace h := ite_f (Int.not_le.2 e) h
    clear e
    try cbv
    obtain rfl := Option.some.inj h
    refine fin_go ?_
    try cbv
    exact ⟨[], rfl, rfl, trivial, trivial, trivial⟩
end Go.Proofs.YtjobleemmjjocaaDoor
end

/- Printed by lift.py: functional texts of functions, and their contracts. No condition. -/
set_option linter.unusedVariables false
noncomputable section
namespace Go.Proofs.YtjobleemmjjocaaDoor
open Go Go.AM
def L25_1 : Nat → Int → Int → Int → (List D) → Int → Int → Int → (List D) → Bool → Option (Bool)
  | 0, _, _, _, _, _, _, _, _, _ => none
  | n + 1, z1, z2, z3, l4, z5, z6, z7, l8, b13 =>
    (if b13 = true then some false else bO1 (F46 n z1 z2 z3 l4) fun l14 => bO1 (F46 n z5 z6 z7 l8) fun l15 => bO1 (F48 n l14 l15) fun b16 => (if b16 = true then bO1 (F47 n z1 z2 z3 l4) fun b17 => (if b17 = true then (if z1 = (4 : Int) then (if z5 = (4 : Int) then some false else some true) else some true) else bO1 (F47 n z5 z6 z7 l8) fun b18 => (if b18 = true then (if z1 = (4 : Int) then (if z5 = (4 : Int) then some false else some true) else some true) else some false)) else bO1 (F48 n l15 l14) fun b19 => (if b19 = true then bO1 (F47 n z1 z2 z3 l4) fun b20 => (if b20 = true then (if z1 = (4 : Int) then (if z5 = (4 : Int) then some false else some true) else some true) else bO1 (F47 n z5 z6 z7 l8) fun b21 => (if b21 = true then (if z1 = (4 : Int) then (if z5 = (4 : Int) then some false else some true) else some true) else some false)) else some false)))
def F25 (n : Nat) (z1 : Int) (z2 : Int) (z3 : Int) (l4 : List D) (z5 : Int) (z6 : Int) (z7 : Int) (l8 : List D) : Option (Bool) :=
  bO1 (F26 n z1 z2 z3 l4) fun b9 => letB (!b9) fun b10 => (if b10 = true then L25_1 n z1 z2 z3 l4 z5 z6 z7 l8 true else bO1 (F26 n z5 z6 z7 l8) fun b11 => letB (!b11) fun b12 => (if b12 = true then L25_1 n z1 z2 z3 l4 z5 z6 z7 l8 true else (if z2 = z6 then L25_1 n z1 z2 z3 l4 z5 z6 z7 l8 true else (if z3 = z7 then L25_1 n z1 z2 z3 l4 z5 z6 z7 l8 false else L25_1 n z1 z2 z3 l4 z5 z6 z7 l8 true))))
set_option maxRecDepth 100000 in
set_option maxHeartbeats 40000000 in
theorem T25 (n : Nat) : ∀ ⦃z1 : Int⦄ ⦃z2 : Int⦄ ⦃z3 : Int⦄ ⦃l4 : List D⦄ ⦃z5 : Int⦄ ⦃z6 : Int⦄ ⦃z7 : Int⦄ ⦃l8 : List D⦄ ⦃r1 : Bool⦄, F25 n z1 z2 z3 l4 z5 z6 z7 l8 = some r1 →
    Trip Tryd.prog inv 25 [.d (.agg [.int .u8 z1, .int .i64 z2, .int .i64 z3, .list false 1 l4]), .d (.agg [.int .u8 z5, .int .i64 z6, .int .i64 z7, .list false 1 l8])] [] (.v (.d (.bool r1))) [] [] := by
  intro z1 z2 z3 l4 z5 z6 z7 l8 r1 h
  unfold F25 at h
  refine Trip.of tab_ok tab_one fol Tryd.func25 rfl (by kernel_rfl) rfl rfl rfl (fun M hM hI => ?_)
  try cbv
  refine seq_go ?_
  try cbv
  refine seq_go ?_
  try cbv
  refine seq_join (T := Nat × Bool) (fun t => ⟨[(2, .v (.c (.ptr (.loc 0) 0))), (3, .v (.c (.ptr (.loc 32) 0))), (4, .v (.d (.bool false))), (29, .v (.d (.bool t.2)))], [(.loc 0, .cells [.d (.int .u8 z1), .d (.int .i64 z2), .d (.int .i64 z3), .d (.list false 1 l4)]), (.loc 32, .cells [.d (.int .u8 z5), .d (.int .i64 z6), .d (.int .i64 z7), .d (.list false 1 l8)])], 800⟩) (fun t => t.1 ≤ n ∧ L25_1 t.1 z1 z2 z3 l4 z5 z6 z7 l8 t.2 = some r1) ?_ ?_
  · try cbv
    replace h := bO1_inv h
    obtain ⟨b9, hr, h⟩ := h
    refine call_go rfl rfl ?_
    try cbv
    refine call_pure hM hI (T26 _ hr) rfl ?_
    clear hr
    try cbv
    replace h := letB_inv h
    obtain ⟨b10, hz, h⟩ := h
    refine ⟨b10, not_eq' hz, ?_⟩
    clear hz
    try cbv
    cases b10
    · replace h := ite_f Bool.false_ne_true h
      try cbv
      replace h := bO1_inv h
      obtain ⟨b11, hr, h⟩ := h
      refine call_go rfl rfl ?_
      try cbv
      refine call_pure hM hI (T26 _ hr) rfl ?_
      clear hr
      try cbv
      replace h := letB_inv h
      obtain ⟨b12, hz, h⟩ := h
      refine ⟨b12, not_eq' hz, ?_⟩
      clear hz
      try cbv
      cases b12
      · replace h := ite_f Bool.false_ne_true h
        try cbv
        refine splitI (fun e => ?_) (fun e => ?_)
        · replace h := ite_t e h
          clear e
          try cbv
          exact join_next (n, true) [2, 3, 4, 29] [.loc 0, .loc 32] 800 ⟨by omega, h⟩ (by cbv)
        · replace h := ite_f e h
          clear e
          try cbv
          refine splitI (fun e => ?_) (fun e => ?_)
          · replace h := ite_t e h
            clear e
            try cbv
            exact join_next (n, false) [2, 3, 4, 29] [.loc 0, .loc 32] 800 ⟨by omega, h⟩ (by cbv)
          · replace h := ite_f e h
            clear e
            try cbv
            exact join_next (n, true) [2, 3, 4, 29] [.loc 0, .loc 32] 800 ⟨by omega, h⟩ (by cbv)
      · replace h := ite_t rfl h
        try cbv
        exact join_next (n, true) [2, 3, 4, 29] [.loc 0, .loc 32] 800 ⟨by omega, h⟩ (by cbv)
    · replace h := ite_t rfl h
      try cbv
      exact join_next (n, true) [2, 3, 4, 29] [.loc 0, .loc 32] 800 ⟨by omega, h⟩ (by cbv)
  · clear h
    rintro ⟨m1, b13⟩ ⟨hm1, h⟩
    replace hm1 : m1 ≤ n := hm1
    cases m1 with
    | zero =>
      replace h : L25_1 0 z1 z2 z3 l4 z5 z6 z7 l8 b13 = some r1 := h
      rw [L25_1] at h
      cases h
    | succ m1 =>
      replace h : L25_1 (m1 + 1) z1 z2 z3 l4 z5 z6 z7 l8 b13 = some r1 := h
      rw [L25_1] at h
      try cbv
      cases b13
      · replace h := ite_f Bool.false_ne_true h
        try cbv
        refine seq_go ?_
        try cbv
        replace h := bO1_inv h
        obtain ⟨l14, hr, h⟩ := h
        first | refine .inr ⟨[], ?_⟩ | refine ⟨[], ?_⟩
        try cbv
        refine call_pure hM hI (T46 _ hr) rfl ?_
        clear hr
        try cbv
        replace h := bO1_inv h
        obtain ⟨l15, hr, h⟩ := h
        first | refine .inr ⟨[], ?_⟩ | refine ⟨[], ?_⟩
        try cbv
        refine call_pure hM hI (T46 _ hr) rfl ?_
        clear hr
        try cbv
        refine drawn ?_ ?_
        · show _ = true
          kernel_rfl
        try cbv
        refine seq_go ?_
        try cbv
        refine seq_go ?_
        try cbv
        replace h := bO1_inv h
        obtain ⟨b16, hr, h⟩ := h
        refine call_go rfl rfl ?_
        try cbv
        refine call_pure hM hI (T48 _ hr) rfl ?_
        clear hr
        try cbv
        cases b16
        · replace h := ite_f Bool.false_ne_true h
          try cbv
          replace h := bO1_inv h
          obtain ⟨b19, hr, h⟩ := h
          refine call_go rfl rfl ?_
          try cbv
          refine call_pure hM hI (T48 _ hr) rfl ?_
          clear hr
          try cbv
          cases b19
          · replace h := ite_f Bool.false_ne_true h
            try cbv
            obtain rfl := Option.some.inj h
            refine fin_go ?_
            try cbv
            exact ⟨[], rfl, rfl, trivial, trivial, trivial⟩
          · replace h := ite_t rfl h
            try cbv
            replace h := bO1_inv h
            obtain ⟨b20, hr, h⟩ := h
            refine call_go rfl rfl ?_
            try cbv
            refine call_pure hM hI (T47 _ hr) rfl ?_
            clear hr
            try cbv
            cases b20
            · replace h := ite_f Bool.false_ne_true h
              try cbv
              replace h := bO1_inv h
              obtain ⟨b21, hr, h⟩ := h
              refine call_go rfl rfl ?_
              try cbv
              refine call_pure hM hI (T47 _ hr) rfl ?_
              clear hr
              try cbv
              cases b21
              · replace h := ite_f Bool.false_ne_true h
                try cbv
                obtain rfl := Option.some.inj h
                refine fin_go ?_
                try cbv
                exact ⟨[], rfl, rfl, trivial, trivial, trivial⟩
              · replace h := ite_t rfl h
                try cbv
                refine splitI (fun e => ?_) (fun e => ?_)
                · replace h := ite_t e h
                  clear e
                  try cbv
                  refine splitI (fun e => ?_) (fun e => ?_)
                  · replace h := ite_t e h
                    clear e
                    try cbv
                    obtain rfl := Option.some.inj h
                    refine fin_go ?_
                    try cbv
                    exact ⟨[], rfl, rfl, trivial, trivial, trivial⟩
                  · replace h := ite_f e h
                    clear e
                    try cbv
                    obtain rfl := Option.some.inj h
                    refine fin_go ?_
                    try cbv
                    exact ⟨[], rfl, rfl, trivial, trivial, trivial⟩
                · replace h := ite_f e h
                  clear e
                  try cbv
                  obtain rfl := Option.some.inj h
                  refine fin_go ?_
                  try cbv
                  exact ⟨[], rfl, rfl, trivial, trivial, trivial⟩
            · replace h := ite_t rfl h
              try cbv
              refine splitI (fun e => ?_) (fun e => ?_)
              · replace h := ite_t e h
                clear e
                try cbv
                refine splitI (fun e => ?_) (fun e => ?_)
                · replace h := ite_t e h
                  clear e
                  try cbv
                  obtain rfl := Option.some.inj h
                  refine fin_go ?_
                  try cbv
                  exact ⟨[], rfl, rfl, trivial, trivial, trivial⟩
                · replace h := ite_f e h
                  clear e
                  try cbv
                  obtain rfl := Option.some.inj h
                  refine fin_go ?_
                  try cbv
                  exact ⟨[], rfl, rfl, trivial, trivial, trivial⟩
              · replace h := ite_f e h
                clear e
                try cbv
                obtain rfl := Option.some.inj h
                refine fin_go ?_
                try cbv
                exact ⟨[], rfl, rfl, trivial, trivial, trivial⟩
        · replace h := ite_t rfl h
          try cbv
          replace h := bO1_inv h
          obtain ⟨b17, hr, h⟩ := h
          refine call_go rfl rfl ?_
          try cbv
          refine call_pure hM hI (T47 _ hr) rfl ?_
          clear hr
          try cbv
          cases b17
          · replace h := ite_f Bool.false_ne_true h
            try cbv
            replace h := bO1_inv h
            obtain ⟨b18, hr, h⟩ := h
            refine call_go rfl rfl ?_
            try cbv
            refine call_pure hM hI (T47 _ hr) rfl ?_
            clear hr
            try cbv
            cases b18
            · replace h := ite_f Bool.false_ne_true h
              try cbv
              obtain rfl := Option.some.inj h
              refine fin_go ?_
              try cbv
              exact ⟨[], rfl, rfl, trivial, trivial, trivial⟩
            · replace h := ite_t rfl h
              try cbv
              refine splitI (fun e => ?_) (fun e => ?_)
              · replace h := ite_t e h
                clear e
                try cbv
                refine splitI (fun e => ?_) (fun e => ?_)
                · replace h := ite_t e h
                  clear e
                  try cbv
                  obtain rfl := Option.some.inj h
                  refine fin_go ?_
                  try cbv
                  exact ⟨[], rfl, rfl, trivial, trivial, trivial⟩
                · replace h := ite_f e h
                  clear e
                  try cbv
                  obtain rfl := Option.some.inj h
                  refine fin_go ?_
                  try cbv
                  exact ⟨[], rfl, rfl, trivial, trivial, trivial⟩
              · replace h := ite_f e h
                clear e
                try cbv
                obtain rfl := Option.some.inj h
                refine fin_go ?_
                try cbv
                exact ⟨[], rfl, rfl, trivial, trivial, trivial⟩
          · replace h := ite_t rfl h
            try cbv
            refine splitI (fun e => ?_) (fun e => ?_)
            · replace h := ite_t e h
              clear e
              try cbv
              refine splitI (fun e => ?_) (fun e => ?_)
              · replace h := ite_t e h
                clear e
                try cbv
                obtain rfl := Option.some.inj h
                refine fin_go ?_
                try cbv
                exact ⟨[], rfl, rfl, trivial, trivial, trivial⟩
              · replace h := ite_f e h
                clear e
                try cbv
                obtain rfl := Option.some.inj h
                refine fin_go ?_
                try cbv
                exact ⟨[], rfl, rfl, trivial, trivial, trivial⟩
            · replace h := ite_f e h
              clear e
              try cbv
              obtain rfl := Option.some.inj h
              refine fin_go ?_
              try cbv
              exact ⟨[], rfl, rfl, trivial, trivial, trivial⟩
      · replace h := ite_t rfl h
        try cbv
        refine seq_go ?_
        try cbv
        obtain rfl := Option.some.inj h
        refine fin_go ?_
        try cbv
        exact ⟨[], rfl, rfl, trivial, trivial, trivial⟩
end Go.Proofs.YtjobleemmjjocaaDoor
end

/- Printed by lift.py: functional texts of functions, and their contracts. No condition. -/
set_option linter.unusedVariables false
noncomputable section
namespace Go.Proofs.YtjobleemmjjocaaDoor
open Go Go.AM
def F22 (n : Nat) : Option (Bool) :=
  bO1 (F19 n ([.agg [.int .u8 7, .int .i64 0, .int .i64 2, .list false 1 []]])) fun z1 => bO1 (F19 n ([.agg [.int .u8 9, .int .i64 0, .int .i64 0, .list false 1 []], .agg [.int .u8 1, .int .i64 0, .int .i64 1, .list false 1 []]])) fun z2 => bO1 (F19 n ([.agg [.int .u8 8, .int .i64 0, .int .i64 0, .list false 1 []]])) fun z3 => bO1 (F25 n (2 : Int) (0 : Int) (5 : Int) ([.int .i64 0]) (1 : Int) (1 : Int) (5 : Int) ([] : List D)) fun b4 => bO1 (F25 n (4 : Int) (0 : Int) (5 : Int) ([] : List D) (4 : Int) (1 : Int) (5 : Int) ([] : List D)) fun b5 => bO1 (F25 n (3 : Int) (0 : Int) (5 : Int) ([] : List D) (4 : Int) (1 : Int) (5 : Int) ([.int .i64 3])) fun b6 => bO1 (F21 n ([.agg [.int .u8 7, .int .i64 0, .int .i64 1, .list false 1 []], .agg [.int .u8 2, .int .i64 1, .int .i64 5, .list false 1 ([.int .i64 0])], .agg [.int .u8 9, .int .i64 1, .int .i64 0, .list false 1 []], .agg [.int .u8 8, .int .i64 0, .int .i64 1, .list false 1 []], .agg [.int .u8 1, .int .i64 0, .int .i64 5, .list false 1 []]])) fun z7 => (if z7 = (0 : Int) then bO1 (F20 n ([.agg [.int .u8 7, .int .i64 0, .int .i64 1, .list false 1 []], .agg [.int .u8 2, .int .i64 1, .int .i64 5, .list false 1 ([.int .i64 0])], .agg [.int .u8 9, .int .i64 1, .int .i64 0, .list false 1 []], .agg [.int .u8 8, .int .i64 0, .int .i64 1, .list false 1 []], .agg [.int .u8 1, .int .i64 0, .int .i64 5, .list false 1 []]])) fun z8 => (if z8 = (2 : Int) then (if z1 = (0 : Int) then (if z2 = (1 : Int) then (if z3 = (0 : Int) then (if b4 = true then letB (!b5) fun b9 => (if b9 = true then (if b6 = true then getF ([.agg [.int .u8 7, .int .i64 0, .int .i64 1, .list false 1 []], .agg [.int .u8 2, .int .i64 1, .int .i64 5, .list false 1 ([.int .i64 0])], .agg [.int .u8 9, .int .i64 1, .int .i64 0, .list false 1 []], .agg [.int .u8 8, .int .i64 0, .int .i64 1, .list false 1 []], .agg [.int .u8 1, .int .i64 0, .int .i64 5, .list false 1 []]]) 1 fun x10 => ds_t32 x10 fun z11 z12 z13 l14 => bO1 (F23 n z11 z12 z13 l14) fun s15 => (if s15 = k_1_write_5_0 then some true else some false) else some false) else some false) else some false) else some false) else some false) else some false) else some false) else some false)
set_option maxRecDepth 100000 in
set_option maxHeartbeats 40000000 in
theorem T22 (n : Nat) : ∀ ⦃r1 : Bool⦄, F22 n = some r1 →
    Trip Tryd.prog inv 22 [] [] (.v (.d (.bool r1))) [] [] := by
  intro r1 h
  unfold F22 at h
  refine Trip.of tab_ok tab_one fol Tryd.func22 rfl (by kernel_rfl) rfl rfl rfl (fun M hM hI => ?_)
  try cbv
  refine seq_go ?_
  try cbv
  refine seq_go ?_
  try cbv
  refine ⟨false, ?_⟩
  try cbv
  refine ⟨true, ?_⟩
  try cbv
  refine ⟨false, ?_⟩
  try cbv
  refine ⟨true, ?_⟩
  try cbv
  refine seq_go ?_
  try cbv
  refine ⟨false, ?_⟩
  try cbv
  refine ⟨true, ?_⟩
  try cbv
  replace h := bO1_inv h
  obtain ⟨z1, hr, h⟩ := h
  refine call_go rfl rfl ?_
  try cbv
  refine call_pure hM hI (T19 _ hr) rfl ?_
  clear hr
  try cbv
  refine ⟨false, ?_⟩
  try cbv
  refine ⟨true, ?_⟩
  try cbv
  replace h := bO1_inv h
  obtain ⟨z2, hr, h⟩ := h
  refine call_go rfl rfl ?_
  try cbv
  refine call_pure hM hI (T19 _ hr) rfl ?_
  clear hr
  try cbv
  refine ⟨false, ?_⟩
  try cbv
  refine ⟨true, ?_⟩
  try cbv
  replace h := bO1_inv h
  obtain ⟨z3, hr, h⟩ := h
  refine call_go rfl rfl ?_
  try cbv
  refine call_pure hM hI (T19 _ hr) rfl ?_
  clear hr
  try cbv
  refine seq_go ?_
  try cbv
  refine ⟨false, ?_⟩
  try cbv
  refine ⟨true, ?_⟩
  try cbv
  replace h := bO1_inv h
  obtain ⟨b4, hr, h⟩ := h
  refine call_go rfl rfl ?_
  try cbv
  refine call_pure hM hI (T25 _ hr) rfl ?_
  clear hr
  try cbv
  refine seq_go ?_
  try cbv
  replace h := bO1_inv h
  obtain ⟨b5, hr, h⟩ := h
  refine call_go rfl rfl ?_
  try cbv
  refine call_pure hM hI (T25 _ hr) rfl ?_
  clear hr
  try cbv
  refine seq_go ?_
  try cbv
  refine ⟨false, ?_⟩
  try cbv
  refine ⟨true, ?_⟩
  try cbv
  replace h := bO1_inv h
  obtain ⟨b6, hr, h⟩ := h
  refine call_go rfl rfl ?_
  try cbv
  refine call_pure hM hI (T25 _ hr) rfl ?_
  clear hr
  try cbv
  refine seq_go ?_
  try cbv
  replace h := bO1_inv h
  obtain ⟨z7, hr, h⟩ := h
  refine call_go rfl rfl ?_
  try cbv
  refine call_pure hM hI (T21 _ hr) rfl ?_
  clear hr
  try cbv
  refine splitI (fun e => ?_) (fun e => ?_)
  · replace h := ite_t e h
    clear e
    try cbv
    replace h := bO1_inv h
    obtain ⟨z8, hr, h⟩ := h
    refine call_go rfl rfl ?_
    try cbv
    refine call_pure hM hI (T20 _ hr) rfl ?_
    clear hr
    try cbv
    refine splitI (fun e => ?_) (fun e => ?_)
    · replace h := ite_t e h
      clear e
      try cbv
      refine splitI (fun e => ?_) (fun e => ?_)
      · replace h := ite_t e h
        clear e
        try cbv
        refine splitI (fun e => ?_) (fun e => ?_)
        · replace h := ite_t e h
          clear e
          try cbv
          refine splitI (fun e => ?_) (fun e => ?_)
          · replace h := ite_t e h
            clear e
            try cbv
            cases b4
            · replace h := ite_f Bool.false_ne_true h
              try cbv
              obtain rfl := Option.some.inj h
              refine fin_go ?_
              try cbv
              exact ⟨[], rfl, rfl, trivial, trivial, trivial⟩
            · replace h := ite_t rfl h
              try cbv
              replace h := letB_inv h
              obtain ⟨b9, hz, h⟩ := h
              refine ⟨b9, not_eq' hz, ?_⟩
              clear hz
              try cbv
              cases b9
              · replace h := ite_f Bool.false_ne_true h
                try cbv
                obtain rfl := Option.some.inj h
                refine fin_go ?_
                try cbv
                exact ⟨[], rfl, rfl, trivial, trivial, trivial⟩
              · replace h := ite_t rfl h
                try cbv
                cases b6
                · replace h := ite_f Bool.false_ne_true h
                  try cbv
                  obtain rfl := Option.some.inj h
                  refine fin_go ?_
                  try cbv
                  exact ⟨[], rfl, rfl, trivial, trivial, trivial⟩
                · replace h := ite_t rfl h
                  try cbv
                  replace h := getF_inv h
                  obtain ⟨x10, ⟨hx0, hx⟩, h⟩ := h
                  refine ⟨x10, hx0, hx, ?_⟩
                  clear hx0 hx
                  replace h := ds_t32_inv h
                  obtain ⟨z11, z12, z13, l14, rfl, h⟩ := h
                  try cbv
                  replace h := bO1_inv h
                  obtain ⟨s15, hr, h⟩ := h
                  refine call_go rfl rfl ?_
                  try cbv
                  refine call_pure hM hI (T23 _ hr) rfl ?_
                  clear hr
                  try cbv
                  refine splitS (fun e => ?_) (fun e => ?_)
                  · replace h := ite_t (bytes_eq.1 e) h
                    clear e
                    try cbv
                    obtain rfl := Option.some.inj h
                    refine fin_go ?_
                    try cbv
                    exact ⟨[], rfl, rfl, trivial, trivial, trivial⟩
                  · replace h := ite_f (bytes_ne.1 e) h
                    clear e
                    try cbv
                    obtain rfl := Option.some.inj h
                    refine fin_go ?_
                    try cbv
                    exact ⟨[], rfl, rfl, trivial, trivial, trivial⟩
          · replace h := ite_f e h
            clear e
            try cbv
            obtain rfl := Option.some.inj h
            refine fin_go ?_
            try cbv
            exact ⟨[], rfl, rfl, trivial, trivial, trivial⟩
        · replace h := ite_f e h
          clear e
          try cbv
          obtain rfl := Option.some.inj h
          refine fin_go ?_
          try cbv
          exact ⟨[], rfl, rfl, trivial, trivial, trivial⟩
      · replace h := ite_f e h
        clear e
        try cbv
        obtain rfl := Option.some.inj h
        refine fin_go ?_
        try cbv
        exact ⟨[], rfl, rfl, trivial, trivial, trivial⟩
    · replace h := ite_f e h
      clear e
      try cbv
      obtain rfl := Option.some.inj h
      refine fin_go ?_
      try cbv
      exact ⟨[], rfl, rfl, trivial, trivial, trivial⟩
  · replace h := ite_f e h
    clear e
    try cbv
    obtain rfl := Option.some.inj h
    refine fin_go ?_
    try cbv
    exact ⟨[], rfl, rfl, trivial, trivial, trivial⟩
end Go.Proofs.YtjobleemmjjocaaDoor
end

/- Printed by lift.py: functional texts of functions, and their contracts. No condition. -/
set_option linter.unusedVariables false
noncomputable section
namespace Go.Proofs.YtjobleemmjjocaaDoor
open Go Go.AM
def F27 (n : Nat) (z1 : Int) (z2 : Int) (z3 : Int) (l4 : List D) : Option (Bool) :=
  (if z1 = (1 : Int) then some true else (if z1 = (2 : Int) then some true else (if z1 = (4 : Int) then some true else (if z1 = (3 : Int) then some true else some false))))
set_option maxRecDepth 100000 in
set_option maxHeartbeats 40000000 in
theorem T27 (n : Nat) : ∀ ⦃z1 : Int⦄ ⦃z2 : Int⦄ ⦃z3 : Int⦄ ⦃l4 : List D⦄ ⦃r1 : Bool⦄, F27 n z1 z2 z3 l4 = some r1 →
    Trip Tryd.prog inv 27 [.d (.agg [.int .u8 z1, .int .i64 z2, .int .i64 z3, .list false 1 l4])] [] (.v (.d (.bool r1))) [] [] := by
  intro z1 z2 z3 l4 r1 h
  unfold F27 at h
  refine Trip.of tab_ok tab_one fol Tryd.func27 rfl (by kernel_rfl) rfl rfl rfl (fun M hM hI => ?_)
  try cbv
  refine seq_go ?_
  try cbv
  refine seq_go ?_
  try cbv
  refine splitI (fun e => ?_) (fun e => ?_)
  · replace h := ite_t e h
    clear e
    try cbv
    obtain rfl := Option.some.inj h
    refine fin_go ?_
    try cbv
    exact ⟨[], rfl, rfl, trivial, trivial, trivial⟩
  · replace h := ite_f e h
    clear e
    try cbv
    refine splitI (fun e => ?_) (fun e => ?_)
    · replace h := ite_t e h
      clear e
      try cbv
      obtain rfl := Option.some.inj h
      refine fin_go ?_
      try cbv
      exact ⟨[], rfl, rfl, trivial, trivial, trivial⟩
    · replace h := ite_f e h
      clear e
      try cbv
      refine splitI (fun e => ?_) (fun e => ?_)
      · replace h := ite_t e h
        clear e
        try cbv
        obtain rfl := Option.some.inj h
        refine fin_go ?_
        try cbv
        exact ⟨[], rfl, rfl, trivial, trivial, trivial⟩
      · replace h := ite_f e h
        clear e
        try cbv
        refine splitI (fun e => ?_) (fun e => ?_)
        · replace h := ite_t e h
          clear e
          try cbv
          obtain rfl := Option.some.inj h
          refine fin_go ?_
          try cbv
          exact ⟨[], rfl, rfl, trivial, trivial, trivial⟩
        · replace h := ite_f e h
          clear e
          try cbv
          obtain rfl := Option.some.inj h
          refine fin_go ?_
          try cbv
          exact ⟨[], rfl, rfl, trivial, trivial, trivial⟩
end Go.Proofs.YtjobleemmjjocaaDoor
end

/- Printed by lift.py: functional texts of functions, and their contracts. No condition. -/
set_option linter.unusedVariables false
noncomputable section
namespace Go.Proofs.YtjobleemmjjocaaDoor
open Go Go.AM
mutual
def L49_2 : Nat → (List D) → (List D) → Int → Option (Bool)
  | 0, _, _, _ => none
  | n + 1, l4, l8, z10 =>
    lenF l4 fun z11 => (if z10 < z11 then lenF l8 fun z12 => (if z10 < z12 then L49_3 n l4 l8 z10 true else L49_3 n l4 l8 z10 false) else L49_3 n l4 l8 z10 false)
def L49_3 : Nat → (List D) → (List D) → Int → Bool → Option (Bool)
  | 0, _, _, _, _ => none
  | n + 1, l4, l8, z10, b13 =>
    (if b13 = true then getF l4 z10 fun x14 => ds_i64 x14 fun z15 => getF l8 z10 fun x16 => ds_i64 x16 fun z17 => (if z15 = z17 then L49_4 n l4 l8 z10 false else L49_4 n l4 l8 z10 true) else some true)
def L49_4 : Nat → (List D) → (List D) → Int → Bool → Option (Bool)
  | 0, _, _, _, _ => none
  | n + 1, l4, l8, z10, b18 =>
    (if b18 = true then some false else letF (IntKind.wrap .i64 (z10 + 1)) fun z19 => L49_2 n l4 l8 z19)
end
def L49_1 : Nat → (List D) → (List D) → Bool → Option (Bool)
  | 0, _, _, _ => none
  | n + 1, l4, l8, b9 =>
    (if b9 = true then some true else L49_2 n l4 l8 (0 : Int))
def F49 (n : Nat) (z1 : Int) (z2 : Int) (z3 : Int) (l4 : List D) (z5 : Int) (z6 : Int) (z7 : Int) (l8 : List D) : Option (Bool) :=
  (if z1 = (3 : Int) then L49_1 n l4 l8 true else (if z5 = (3 : Int) then L49_1 n l4 l8 true else L49_1 n l4 l8 false))
set_option maxRecDepth 100000 in
set_option maxHeartbeats 40000000 in
theorem T49 (n : Nat) : ∀ ⦃z1 : Int⦄ ⦃z2 : Int⦄ ⦃z3 : Int⦄ ⦃l4 : List D⦄ ⦃z5 : Int⦄ ⦃z6 : Int⦄ ⦃z7 : Int⦄ ⦃l8 : List D⦄ ⦃r1 : Bool⦄, F49 n z1 z2 z3 l4 z5 z6 z7 l8 = some r1 →
    Trip Tryd.prog inv 49 [.d (.agg [.int .u8 z1, .int .i64 z2, .int .i64 z3, .list false 1 l4]), .d (.agg [.int .u8 z5, .int .i64 z6, .int .i64 z7, .list false 1 l8])] [] (.v (.d (.bool r1))) [] [] := by
  intro z1 z2 z3 l4 z5 z6 z7 l8 r1 h
  unfold F49 at h
  refine Trip.of tab_ok tab_one fol Tryd.func49 rfl (by kernel_rfl) rfl rfl rfl (fun M hM hI => ?_)
  try cbv
  refine seq_go ?_
  try cbv
  refine seq_go ?_
  try cbv
  refine seq_join (T := Nat × Bool) (fun t => ⟨[(2, .v (.c (.ptr (.loc 0) 0))), (3, .v (.c (.ptr (.loc 32) 0))), (4, .v (.d (.bool false))), (13, .v (.d (.bool t.2)))], [(.loc 0, .cells [.d (.int .u8 z1), .d (.int .i64 z2), .d (.int .i64 z3), .d (.list false 1 l4)]), (.loc 32, .cells [.d (.int .u8 z5), .d (.int .i64 z6), .d (.int .i64 z7), .d (.list false 1 l8)])], 352⟩) (fun t => t.1 ≤ n ∧ L49_1 t.1 l4 l8 t.2 = some r1) ?_ ?_
  · try cbv
    refine splitI (fun e => ?_) (fun e => ?_)
    · replace h := ite_t e h
      clear e
      try cbv
      exact join_next (n, true) [2, 3, 4, 13] [.loc 0, .loc 32] 352 ⟨by omega, h⟩ (by cbv)
    · replace h := ite_f e h
      clear e
      try cbv
      refine splitI (fun e => ?_) (fun e => ?_)
      · replace h := ite_t e h
        clear e
        try cbv
        exact join_next (n, true) [2, 3, 4, 13] [.loc 0, .loc 32] 352 ⟨by omega, h⟩ (by cbv)
      · replace h := ite_f e h
        clear e
        try cbv
        exact join_next (n, false) [2, 3, 4, 13] [.loc 0, .loc 32] 352 ⟨by omega, h⟩ (by cbv)
  · clear h
    rintro ⟨m1, b9⟩ ⟨hm1, h⟩
    replace hm1 : m1 ≤ n := hm1
    cases m1 with
    | zero =>
      replace h : L49_1 0 l4 l8 b9 = some r1 := h
      rw [L49_1] at h
      cases h
    | succ m1 =>
      replace h : L49_1 (m1 + 1) l4 l8 b9 = some r1 := h
      rw [L49_1] at h
      try cbv
      cases b9
      · replace h := ite_f Bool.false_ne_true h
        try cbv
        refine seq_go ?_
        try cbv
        refine seq_go ?_
        try cbv
        refine loop_inv (T := Nat × Int) [2, 3, 4, 5] [.loc 0, .loc 32] 384 (fun t => ⟨[(2, .v (.c (.ptr (.loc 0) 0))), (3, .v (.c (.ptr (.loc 32) 0))), (4, .v (.d (.bool false))), (5, .v (.d (.int .i64 t.2)))], [(.loc 0, .cells [.d (.int .u8 z1), .d (.int .i64 z2), .d (.int .i64 z3), .d (.list false 1 l4)]), (.loc 32, .cells [.d (.int .u8 z5), .d (.int .i64 z6), .d (.int .i64 z7), .d (.list false 1 l8)])], 384⟩)
          (fun t => t.1 ≤ m1 ∧ L49_2 t.1 l4 l8 t.2 = some r1) (fun t => t.1) (m1, (0 : Int)) ⟨Nat.le_refl _, h⟩ (by cbv) ?_
        clear h
        rintro ⟨m2, z10⟩ ⟨hm2, h⟩
        replace hm2 : m2 ≤ m1 := hm2
        cases m2 with
        | zero =>
          replace h : L49_2 0 l4 l8 z10 = some r1 := h
          rw [L49_2] at h
          cases h
        | succ m2 =>
          replace h : L49_2 (m2 + 1) l4 l8 z10 = some r1 := h
          rw [L49_2] at h
          try cbv
          refine seq_go ?_
          try cbv
          refine seq_join (T := Nat × Bool) (fun t => ⟨[(2, .v (.c (.ptr (.loc 0) 0))), (3, .v (.c (.ptr (.loc 32) 0))), (4, .v (.d (.bool false))), (5, .v (.d (.int .i64 z10))), (25, .v (.d (.bool t.2)))], [(.loc 0, .cells [.d (.int .u8 z1), .d (.int .i64 z2), .d (.int .i64 z3), .d (.list false 1 l4)]), (.loc 32, .cells [.d (.int .u8 z5), .d (.int .i64 z6), .d (.int .i64 z7), .d (.list false 1 l8)])], 768⟩) (fun t => t.1 ≤ m2 ∧ L49_3 t.1 l4 l8 z10 t.2 = some r1) ?_ ?_
          · try cbv
            replace h := lenF_inv M h
            obtain ⟨z11, hz, h⟩ := h
            refine ⟨z11, hz, ?_⟩
            clear hz
            try cbv
            refine splitL (fun e => ?_) (fun e => ?_)
            · replace h := ite_t e h
              clear e
              try cbv
              replace h := lenF_inv M h
              obtain ⟨z12, hz, h⟩ := h
              refine ⟨z12, hz, ?_⟩
              clear hz
              try cbv
              refine splitL (fun e => ?_) (fun e => ?_)
              · replace h := ite_t e h
                clear e
                try cbv
                exact join_next (m2, true) [2, 3, 4, 5, 25] [.loc 0, .loc 32] 768 ⟨by omega, h⟩ (by cbv)
              · replace h := ite_f (Int.not_lt.2 e) h
                clear e
                try cbv
                exact join_next (m2, false) [2, 3, 4, 5, 25] [.loc 0, .loc 32] 768 ⟨by omega, h⟩ (by cbv)
            · replace h := ite_f (Int.not_lt.2 e) h
              clear e
              try cbv
              exact join_next (m2, false) [2, 3, 4, 5, 25] [.loc 0, .loc 32] 768 ⟨by omega, h⟩ (by cbv)
          · clear h
            rintro ⟨m3, b13⟩ ⟨hm3, h⟩
            replace hm3 : m3 ≤ m2 := hm3
            cases m3 with
            | zero =>
              replace h : L49_3 0 l4 l8 z10 b13 = some r1 := h
              rw [L49_3] at h
              cases h
            | succ m3 =>
              replace h : L49_3 (m3 + 1) l4 l8 z10 b13 = some r1 := h
              rw [L49_3] at h
              try cbv
              cases b13
              · replace h := ite_f Bool.false_ne_true h
                try cbv
                refine seq_go ?_
                try cbv
                obtain rfl := Option.some.inj h
                refine fin_go ?_
                try cbv
                exact ⟨[], rfl, rfl, trivial, trivial, trivial⟩
              · replace h := ite_t rfl h
                try cbv
                refine seq_go ?_
                try cbv
                refine seq_join (T := Nat × Bool) (fun t => ⟨[(2, .v (.c (.ptr (.loc 0) 0))), (3, .v (.c (.ptr (.loc 32) 0))), (4, .v (.d (.bool false))), (5, .v (.d (.int .i64 z10))), (38, .v (.d (.bool t.2)))], [(.loc 0, .cells [.d (.int .u8 z1), .d (.int .i64 z2), .d (.int .i64 z3), .d (.list false 1 l4)]), (.loc 32, .cells [.d (.int .u8 z5), .d (.int .i64 z6), .d (.int .i64 z7), .d (.list false 1 l8)])], 1120⟩) (fun t => t.1 ≤ m3 ∧ L49_4 t.1 l4 l8 z10 t.2 = some r1) ?_ ?_
                · try cbv
                  replace h := getF_inv h
                  obtain ⟨x14, ⟨hx0, hx⟩, h⟩ := h
                  refine ⟨x14, hx0, hx, ?_⟩
                  clear hx0 hx
                  replace h := ds_i64_inv h
                  obtain ⟨z15, rfl, h⟩ := h
                  try cbv
                  replace h := getF_inv h
                  obtain ⟨x16, ⟨hx0, hx⟩, h⟩ := h
                  refine ⟨x16, hx0, hx, ?_⟩
                  clear hx0 hx
                  replace h := ds_i64_inv h
                  obtain ⟨z17, rfl, h⟩ := h
                  try cbv
                  refine splitI (fun e => ?_) (fun e => ?_)
                  · replace h := ite_t e h
                    clear e
                    try cbv
                    refine drawn ?_ ?_
                    · show _ = true
                      kernel_rfl
                    try cbv
                    exact join_next (m3, false) [2, 3, 4, 5, 38] [.loc 0, .loc 32] 1120 ⟨by omega, h⟩ (by cbv)
                  · replace h := ite_f e h
                    clear e
                    try cbv
                    refine drawn ?_ ?_
                    · show _ = true
                      kernel_rfl
                    try cbv
                    exact join_next (m3, true) [2, 3, 4, 5, 38] [.loc 0, .loc 32] 1120 ⟨by omega, h⟩ (by cbv)
                · clear h
                  rintro ⟨m4, b18⟩ ⟨hm4, h⟩
                  replace hm4 : m4 ≤ m3 := hm4
                  cases m4 with
                  | zero =>
                    replace h : L49_4 0 l4 l8 z10 b18 = some r1 := h
                    rw [L49_4] at h
                    cases h
                  | succ m4 =>
                    replace h : L49_4 (m4 + 1) l4 l8 z10 b18 = some r1 := h
                    rw [L49_4] at h
                    try cbv
                    cases b18
                    · replace h := ite_f Bool.false_ne_true h
                      try cbv
                      replace h := letF_inv h
                      obtain ⟨z19, hz, h⟩ := h
                      refine ⟨z19, hz, ?_⟩
                      clear hz
                      try cbv
                      exact loop_next (m4, z19) [2, 3, 4, 5] [.loc 0, .loc 32] 384 ⟨by omega, h⟩ (Nat.lt_succ_of_le (by omega)) (by cbv)
                    · replace h := ite_t rfl h
                      try cbv
                      refine seq_go ?_
                      try cbv
                      obtain rfl := Option.some.inj h
                      refine fin_go ?_
                      try cbv
                      exact ⟨[], rfl, rfl, trivial, trivial, trivial⟩
      · replace h := ite_t rfl h
        try cbv
        refine seq_go ?_
        try cbv
        obtain rfl := Option.some.inj h
        refine fin_go ?_
        try cbv
        exact ⟨[], rfl, rfl, trivial, trivial, trivial⟩
end Go.Proofs.YtjobleemmjjocaaDoor
end

/- Printed by lift.py: functional texts of functions, and their contracts. No condition. -/
set_option linter.unusedVariables false
noncomputable section
namespace Go.Proofs.YtjobleemmjjocaaDoor
open Go Go.AM
def L28_2 : Nat → Int → Int → Bool → Option (Bool)
  | 0, _, _, _ => none
  | n + 1, z1, z5, b16 =>
    (if b16 = true then some false else (if z1 = (2 : Int) then some true else (if z1 = (3 : Int) then some true else (if z5 = (2 : Int) then some true else (if z5 = (3 : Int) then some true else some false)))))
def L28_1 : Nat → Int → Int → Bool → Option (Bool)
  | 0, _, _, _ => none
  | n + 1, z1, z5, b15 =>
    (if b15 = true then some false else (if z1 = (4 : Int) then (if z5 = (4 : Int) then L28_2 n z1 z5 true else L28_2 n z1 z5 false) else L28_2 n z1 z5 false))
def F28 (n : Nat) (z1 : Int) (z2 : Int) (z3 : Int) (l4 : List D) (z5 : Int) (z6 : Int) (z7 : Int) (l8 : List D) : Option (Bool) :=
  bO1 (F27 n z1 z2 z3 l4) fun b9 => letB (!b9) fun b10 => (if b10 = true then L28_1 n z1 z5 true else bO1 (F27 n z5 z6 z7 l8) fun b11 => letB (!b11) fun b12 => (if b12 = true then L28_1 n z1 z5 true else (if z2 = z6 then L28_1 n z1 z5 true else (if z3 = z7 then bO1 (F49 n z1 z2 z3 l4 z5 z6 z7 l8) fun b13 => letB (!b13) fun b14 => L28_1 n z1 z5 b14 else L28_1 n z1 z5 true))))
set_option maxRecDepth 100000 in
set_option maxHeartbeats 40000000 in
theorem T28 (n : Nat) : ∀ ⦃z1 : Int⦄ ⦃z2 : Int⦄ ⦃z3 : Int⦄ ⦃l4 : List D⦄ ⦃z5 : Int⦄ ⦃z6 : Int⦄ ⦃z7 : Int⦄ ⦃l8 : List D⦄ ⦃r1 : Bool⦄, F28 n z1 z2 z3 l4 z5 z6 z7 l8 = some r1 →
    Trip Tryd.prog inv 28 [.d (.agg [.int .u8 z1, .int .i64 z2, .int .i64 z3, .list false 1 l4]), .d (.agg [.int .u8 z5, .int .i64 z6, .int .i64 z7, .list false 1 l8])] [] (.v (.d (.bool r1))) [] [] := by
  intro z1 z2 z3 l4 z5 z6 z7 l8 r1 h
  unfold F28 at h
  refine Trip.of tab_ok tab_one fol Tryd.func28 rfl (by kernel_rfl) rfl rfl rfl (fun M hM hI => ?_)
  try cbv
  refine seq_go ?_
  try cbv
  refine seq_go ?_
  try cbv
  refine seq_join (T := Nat × Bool) (fun t => ⟨[(2, .v (.c (.ptr (.loc 0) 0))), (3, .v (.c (.ptr (.loc 32) 0))), (4, .v (.d (.bool false))), (32, .v (.d (.bool t.2)))], [(.loc 0, .cells [.d (.int .u8 z1), .d (.int .i64 z2), .d (.int .i64 z3), .d (.list false 1 l4)]), (.loc 32, .cells [.d (.int .u8 z5), .d (.int .i64 z6), .d (.int .i64 z7), .d (.list false 1 l8)])], 992⟩) (fun t => t.1 ≤ n ∧ L28_1 t.1 z1 z5 t.2 = some r1) ?_ ?_
  · try cbv
    replace h := bO1_inv h
    obtain ⟨b9, hr, h⟩ := h
    refine call_go rfl rfl ?_
    try cbv
    refine call_pure hM hI (T27 _ hr) rfl ?_
    clear hr
    try cbv
    replace h := letB_inv h
    obtain ⟨b10, hz, h⟩ := h
    refine ⟨b10, not_eq' hz, ?_⟩
    clear hz
    try cbv
    cases b10
    · replace h := ite_f Bool.false_ne_true h
      try cbv
      replace h := bO1_inv h
      obtain ⟨b11, hr, h⟩ := h
      refine call_go rfl rfl ?_
      try cbv
      refine call_pure hM hI (T27 _ hr) rfl ?_
      clear hr
      try cbv
      replace h := letB_inv h
      obtain ⟨b12, hz, h⟩ := h
      refine ⟨b12, not_eq' hz, ?_⟩
      clear hz
      try cbv
      cases b12
      · replace h := ite_f Bool.false_ne_true h
        try cbv
        refine splitI (fun e => ?_) (fun e => ?_)
        · replace h := ite_t e h
          clear e
          try cbv
          exact join_next (n, true) [2, 3, 4, 32] [.loc 0, .loc 32] 992 ⟨by omega, h⟩ (by cbv)
        · replace h := ite_f e h
          clear e
          try cbv
          refine splitI (fun e => ?_) (fun e => ?_)
          · replace h := ite_t e h
            clear e
            try cbv
            replace h := bO1_inv h
            obtain ⟨b13, hr, h⟩ := h
            refine call_go rfl rfl ?_
            try cbv
            refine call_pure hM hI (T49 _ hr) rfl ?_
            clear hr
            try cbv
            replace h := letB_inv h
            obtain ⟨b14, hz, h⟩ := h
            refine ⟨b14, not_eq' hz, ?_⟩
            clear hz
            try cbv
            exact join_next (n, b14) [2, 3, 4, 32] [.loc 0, .loc 32] 992 ⟨by omega, h⟩ (by cbv)
          · replace h := ite_f e h
            clear e
            try cbv
            exact join_next (n, true) [2, 3, 4, 32] [.loc 0, .loc 32] 992 ⟨by omega, h⟩ (by cbv)
      · replace h := ite_t rfl h
        try cbv
        exact join_next (n, true) [2, 3, 4, 32] [.loc 0, .loc 32] 992 ⟨by omega, h⟩ (by cbv)
    · replace h := ite_t rfl h
      try cbv
      exact join_next (n, true) [2, 3, 4, 32] [.loc 0, .loc 32] 992 ⟨by omega, h⟩ (by cbv)
  · clear h
    rintro ⟨m1, b15⟩ ⟨hm1, h⟩
    replace hm1 : m1 ≤ n := hm1
    cases m1 with
    | zero =>
      replace h : L28_1 0 z1 z5 b15 = some r1 := h
      rw [L28_1] at h
      cases h
    | succ m1 =>
      replace h : L28_1 (m1 + 1) z1 z5 b15 = some r1 := h
      rw [L28_1] at h
      try cbv
      cases b15
      · replace h := ite_f Bool.false_ne_true h
        try cbv
        refine seq_go ?_
        try cbv
        refine seq_join (T := Nat × Bool) (fun t => ⟨[(2, .v (.c (.ptr (.loc 0) 0))), (3, .v (.c (.ptr (.loc 32) 0))), (4, .v (.d (.bool false))), (40, .v (.d (.bool t.2)))], [(.loc 0, .cells [.d (.int .u8 z1), .d (.int .i64 z2), .d (.int .i64 z3), .d (.list false 1 l4)]), (.loc 32, .cells [.d (.int .u8 z5), .d (.int .i64 z6), .d (.int .i64 z7), .d (.list false 1 l8)])], 1248⟩) (fun t => t.1 ≤ m1 ∧ L28_2 t.1 z1 z5 t.2 = some r1) ?_ ?_
        · try cbv
          refine splitI (fun e => ?_) (fun e => ?_)
          · replace h := ite_t e h
            clear e
            try cbv
            refine splitI (fun e => ?_) (fun e => ?_)
            · replace h := ite_t e h
              clear e
              try cbv
              exact join_next (m1, true) [2, 3, 4, 40] [.loc 0, .loc 32] 1248 ⟨by omega, h⟩ (by cbv)
            · replace h := ite_f e h
              clear e
              try cbv
              exact join_next (m1, false) [2, 3, 4, 40] [.loc 0, .loc 32] 1248 ⟨by omega, h⟩ (by cbv)
          · replace h := ite_f e h
            clear e
            try cbv
            exact join_next (m1, false) [2, 3, 4, 40] [.loc 0, .loc 32] 1248 ⟨by omega, h⟩ (by cbv)
        · clear h
          rintro ⟨m2, b16⟩ ⟨hm2, h⟩
          replace hm2 : m2 ≤ m1 := hm2
          cases m2 with
          | zero =>
            replace h : L28_2 0 z1 z5 b16 = some r1 := h
            rw [L28_2] at h
            cases h
          | succ m2 =>
            replace h : L28_2 (m2 + 1) z1 z5 b16 = some r1 := h
            rw [L28_2] at h
            try cbv
            cases b16
            · replace h := ite_f Bool.false_ne_true h
              try cbv
              refine seq_go ?_
              try cbv
              refine splitI (fun e => ?_) (fun e => ?_)
              · replace h := ite_t e h
                clear e
                try cbv
                obtain rfl := Option.some.inj h
                refine fin_go ?_
                try cbv
                exact ⟨[], rfl, rfl, trivial, trivial, trivial⟩
              · replace h := ite_f e h
                clear e
                try cbv
                refine splitI (fun e => ?_) (fun e => ?_)
                · replace h := ite_t e h
                  clear e
                  try cbv
                  obtain rfl := Option.some.inj h
                  refine fin_go ?_
                  try cbv
                  exact ⟨[], rfl, rfl, trivial, trivial, trivial⟩
                · replace h := ite_f e h
                  clear e
                  try cbv
                  refine splitI (fun e => ?_) (fun e => ?_)
                  · replace h := ite_t e h
                    clear e
                    try cbv
                    obtain rfl := Option.some.inj h
                    refine fin_go ?_
                    try cbv
                    exact ⟨[], rfl, rfl, trivial, trivial, trivial⟩
                  · replace h := ite_f e h
                    clear e
                    try cbv
                    refine splitI (fun e => ?_) (fun e => ?_)
                    · replace h := ite_t e h
                      clear e
                      try cbv
                      obtain rfl := Option.some.inj h
                      refine fin_go ?_
                      try cbv
                      exact ⟨[], rfl, rfl, trivial, trivial, trivial⟩
                    · replace h := ite_f e h
                      clear e
                      try cbv
                      obtain rfl := Option.some.inj h
                      refine fin_go ?_
                      try cbv
                      exact ⟨[], rfl, rfl, trivial, trivial, trivial⟩
            · replace h := ite_t rfl h
              try cbv
              refine seq_go ?_
              try cbv
              obtain rfl := Option.some.inj h
              refine fin_go ?_
              try cbv
              exact ⟨[], rfl, rfl, trivial, trivial, trivial⟩
      · replace h := ite_t rfl h
        try cbv
        refine seq_go ?_
        try cbv
        obtain rfl := Option.some.inj h
        refine fin_go ?_
        try cbv
        exact ⟨[], rfl, rfl, trivial, trivial, trivial⟩
end Go.Proofs.YtjobleemmjjocaaDoor
end

/- Printed by lift.py: functional texts of functions, and their contracts. No condition. -/
set_option linter.unusedVariables false
noncomputable section
namespace Go.Proofs.YtjobleemmjjocaaDoor
open Go Go.AM
def F29 (n : Nat) (z1 : Int) (z2 : Int) (z3 : Int) (l4 : List D) (z5 : Int) (z6 : Int) (z7 : Int) (l8 : List D) : Option (Bool) :=
  (if z1 = z5 then (if z2 = z6 then (if z3 = z7 then bO1 (F50 n l4 l8) fun b9 => some b9 else some false) else some false) else some false)
set_option maxRecDepth 100000 in
set_option maxHeartbeats 40000000 in
theorem T29 (n : Nat) : ∀ ⦃z1 : Int⦄ ⦃z2 : Int⦄ ⦃z3 : Int⦄ ⦃l4 : List D⦄ ⦃z5 : Int⦄ ⦃z6 : Int⦄ ⦃z7 : Int⦄ ⦃l8 : List D⦄ ⦃r1 : Bool⦄, F29 n z1 z2 z3 l4 z5 z6 z7 l8 = some r1 →
    Trip Tryd.prog inv 29 [.d (.agg [.int .u8 z1, .int .i64 z2, .int .i64 z3, .list false 1 l4]), .d (.agg [.int .u8 z5, .int .i64 z6, .int .i64 z7, .list false 1 l8])] [] (.v (.d (.bool r1))) [] [] := by
  intro z1 z2 z3 l4 z5 z6 z7 l8 r1 h
  unfold F29 at h
  refine Trip.of tab_ok tab_one fol Tryd.func29 rfl (by kernel_rfl) rfl rfl rfl (fun M hM hI => ?_)
  try cbv
  refine seq_go ?_
  try cbv
  refine seq_go ?_
  try cbv
  refine splitI (fun e => ?_) (fun e => ?_)
  · replace h := ite_t e h
    clear e
    try cbv
    refine splitI (fun e => ?_) (fun e => ?_)
    · replace h := ite_t e h
      clear e
      try cbv
      refine splitI (fun e => ?_) (fun e => ?_)
      · replace h := ite_t e h
        clear e
        try cbv
        replace h := bO1_inv h
        obtain ⟨b9, hr, h⟩ := h
        refine call_go rfl rfl ?_
        try cbv
        refine call_pure hM hI (T50 _ hr) rfl ?_
        clear hr
        try cbv
        obtain rfl := Option.some.inj h
        refine fin_go ?_
        try cbv
        exact ⟨[], rfl, rfl, trivial, trivial, trivial⟩
      · replace h := ite_f e h
        clear e
        try cbv
        obtain rfl := Option.some.inj h
        refine fin_go ?_
        try cbv
        exact ⟨[], rfl, rfl, trivial, trivial, trivial⟩
    · replace h := ite_f e h
      clear e
      try cbv
      obtain rfl := Option.some.inj h
      refine fin_go ?_
      try cbv
      exact ⟨[], rfl, rfl, trivial, trivial, trivial⟩
  · replace h := ite_f e h
    clear e
    try cbv
    obtain rfl := Option.some.inj h
    refine fin_go ?_
    try cbv
    exact ⟨[], rfl, rfl, trivial, trivial, trivial⟩
end Go.Proofs.YtjobleemmjjocaaDoor
end

/- Printed by lift.py: functional texts of functions, and their contracts. No condition. -/
set_option linter.unusedVariables false
noncomputable section
namespace Go.Proofs.YtjobleemmjjocaaDoor
open Go Go.AM
mutual
def L30_2 : Nat → (List D) → (List D) → Int → Option (Bool)
  | 0, _, _, _ => none
  | n + 1, l4, l8, z12 =>
    lenF l4 fun z13 => (if z12 < z13 then L30_3 n l4 l8 z12 true else L30_3 n l4 l8 z12 false)
def L30_3 : Nat → (List D) → (List D) → Int → Bool → Option (Bool)
  | 0, _, _, _, _ => none
  | n + 1, l4, l8, z12, b14 =>
    (if b14 = true then getF l4 z12 fun x15 => ds_i64 x15 fun z16 => getF l8 z12 fun x17 => ds_i64 x17 fun z18 => (if z16 = z18 then L30_4 n l4 l8 z12 false else L30_4 n l4 l8 z12 true) else some true)
def L30_4 : Nat → (List D) → (List D) → Int → Bool → Option (Bool)
  | 0, _, _, _, _ => none
  | n + 1, l4, l8, z12, b19 =>
    (if b19 = true then some false else letF (IntKind.wrap .i64 (z12 + 1)) fun z20 => L30_2 n l4 l8 z20)
end
def L30_1 : Nat → (List D) → (List D) → Bool → Option (Bool)
  | 0, _, _, _ => none
  | n + 1, l4, l8, b11 =>
    (if b11 = true then some false else L30_2 n l4 l8 (0 : Int))
def F30 (n : Nat) (z1 : Int) (z2 : Int) (z3 : Int) (l4 : List D) (z5 : Int) (z6 : Int) (z7 : Int) (l8 : List D) : Option (Bool) :=
  (if z1 = z5 then (if z2 = z6 then (if z3 = z7 then lenF l4 fun z9 => lenF l8 fun z10 => (if z9 = z10 then L30_1 n l4 l8 false else L30_1 n l4 l8 true) else L30_1 n l4 l8 true) else L30_1 n l4 l8 true) else L30_1 n l4 l8 true)
set_option maxRecDepth 100000 in
set_option maxHeartbeats 40000000 in
theorem T30 (n : Nat) : ∀ ⦃z1 : Int⦄ ⦃z2 : Int⦄ ⦃z3 : Int⦄ ⦃l4 : List D⦄ ⦃z5 : Int⦄ ⦃z6 : Int⦄ ⦃z7 : Int⦄ ⦃l8 : List D⦄ ⦃r1 : Bool⦄, F30 n z1 z2 z3 l4 z5 z6 z7 l8 = some r1 →
    Trip Tryd.prog inv 30 [.d (.agg [.int .u8 z1, .int .i64 z2, .int .i64 z3, .list false 1 l4]), .d (.agg [.int .u8 z5, .int .i64 z6, .int .i64 z7, .list false 1 l8])] [] (.v (.d (.bool r1))) [] [] := by
  intro z1 z2 z3 l4 z5 z6 z7 l8 r1 h
  unfold F30 at h
  refine Trip.of tab_ok tab_one fol Tryd.func30 rfl (by kernel_rfl) rfl rfl rfl (fun M hM hI => ?_)
  try cbv
  refine seq_go ?_
  try cbv
  refine seq_go ?_
  try cbv
  refine seq_join (T := Nat × Bool) (fun t => ⟨[(2, .v (.c (.ptr (.loc 0) 0))), (3, .v (.c (.ptr (.loc 32) 0))), (4, .v (.d (.bool false))), (33, .v (.d (.bool t.2)))], [(.loc 0, .cells [.d (.int .u8 z1), .d (.int .i64 z2), .d (.int .i64 z3), .d (.list false 1 l4)]), (.loc 32, .cells [.d (.int .u8 z5), .d (.int .i64 z6), .d (.int .i64 z7), .d (.list false 1 l8)])], 992⟩) (fun t => t.1 ≤ n ∧ L30_1 t.1 l4 l8 t.2 = some r1) ?_ ?_
  · try cbv
    refine splitI (fun e => ?_) (fun e => ?_)
    · replace h := ite_t e h
      clear e
      try cbv
      refine splitI (fun e => ?_) (fun e => ?_)
      · replace h := ite_t e h
        clear e
        try cbv
        refine splitI (fun e => ?_) (fun e => ?_)
        · replace h := ite_t e h
          clear e
          try cbv
          replace h := lenF_inv M h
          obtain ⟨z9, hz, h⟩ := h
          refine ⟨z9, hz, ?_⟩
          clear hz
          try cbv
          replace h := lenF_inv M h
          obtain ⟨z10, hz, h⟩ := h
          refine ⟨z10, hz, ?_⟩
          clear hz
          try cbv
          refine splitI (fun e => ?_) (fun e => ?_)
          · replace h := ite_t e h
            clear e
            try cbv
            exact join_next (n, false) [2, 3, 4, 33] [.loc 0, .loc 32] 992 ⟨by omega, h⟩ (by cbv)
          · replace h := ite_f e h
            clear e
            try cbv
            exact join_next (n, true) [2, 3, 4, 33] [.loc 0, .loc 32] 992 ⟨by omega, h⟩ (by cbv)
        · replace h := ite_f e h
          clear e
          try cbv
          exact join_next (n, true) [2, 3, 4, 33] [.loc 0, .loc 32] 992 ⟨by omega, h⟩ (by cbv)
      · replace h := ite_f e h
        clear e
        try cbv
        exact join_next (n, true) [2, 3, 4, 33] [.loc 0, .loc 32] 992 ⟨by omega, h⟩ (by cbv)
    · replace h := ite_f e h
      clear e
      try cbv
      exact join_next (n, true) [2, 3, 4, 33] [.loc 0, .loc 32] 992 ⟨by omega, h⟩ (by cbv)
  · clear h
    rintro ⟨m1, b11⟩ ⟨hm1, h⟩
    replace hm1 : m1 ≤ n := hm1
    cases m1 with
    | zero =>
      replace h : L30_1 0 l4 l8 b11 = some r1 := h
      rw [L30_1] at h
      cases h
    | succ m1 =>
      replace h : L30_1 (m1 + 1) l4 l8 b11 = some r1 := h
      rw [L30_1] at h
      try cbv
      cases b11
      · replace h := ite_f Bool.false_ne_true h
        try cbv
        refine seq_go ?_
        try cbv
        refine seq_go ?_
        try cbv
        refine loop_inv (T := Nat × Int) [2, 3, 4, 5] [.loc 0, .loc 32] 1024 (fun t => ⟨[(2, .v (.c (.ptr (.loc 0) 0))), (3, .v (.c (.ptr (.loc 32) 0))), (4, .v (.d (.bool false))), (5, .v (.d (.int .i64 t.2)))], [(.loc 0, .cells [.d (.int .u8 z1), .d (.int .i64 z2), .d (.int .i64 z3), .d (.list false 1 l4)]), (.loc 32, .cells [.d (.int .u8 z5), .d (.int .i64 z6), .d (.int .i64 z7), .d (.list false 1 l8)])], 1024⟩)
          (fun t => t.1 ≤ m1 ∧ L30_2 t.1 l4 l8 t.2 = some r1) (fun t => t.1) (m1, (0 : Int)) ⟨Nat.le_refl _, h⟩ (by cbv) ?_
        clear h
        rintro ⟨m2, z12⟩ ⟨hm2, h⟩
        replace hm2 : m2 ≤ m1 := hm2
        cases m2 with
        | zero =>
          replace h : L30_2 0 l4 l8 z12 = some r1 := h
          rw [L30_2] at h
          cases h
        | succ m2 =>
          replace h : L30_2 (m2 + 1) l4 l8 z12 = some r1 := h
          rw [L30_2] at h
          try cbv
          refine seq_go ?_
          try cbv
          refine seq_join (T := Nat × Bool) (fun t => ⟨[(2, .v (.c (.ptr (.loc 0) 0))), (3, .v (.c (.ptr (.loc 32) 0))), (4, .v (.d (.bool false))), (5, .v (.d (.int .i64 z12))), (38, .v (.d (.bool t.2)))], [(.loc 0, .cells [.d (.int .u8 z1), .d (.int .i64 z2), .d (.int .i64 z3), .d (.list false 1 l4)]), (.loc 32, .cells [.d (.int .u8 z5), .d (.int .i64 z6), .d (.int .i64 z7), .d (.list false 1 l8)])], 1184⟩) (fun t => t.1 ≤ m2 ∧ L30_3 t.1 l4 l8 z12 t.2 = some r1) ?_ ?_
          · try cbv
            replace h := lenF_inv M h
            obtain ⟨z13, hz, h⟩ := h
            refine ⟨z13, hz, ?_⟩
            clear hz
            try cbv
            refine splitL (fun e => ?_) (fun e => ?_)
            · replace h := ite_t e h
              clear e
              try cbv
              exact join_next (m2, true) [2, 3, 4, 5, 38] [.loc 0, .loc 32] 1184 ⟨by omega, h⟩ (by cbv)
            · replace h := ite_f (Int.not_lt.2 e) h
              clear e
              try cbv
              exact join_next (m2, false) [2, 3, 4, 5, 38] [.loc 0, .loc 32] 1184 ⟨by omega, h⟩ (by cbv)
          · clear h
            rintro ⟨m3, b14⟩ ⟨hm3, h⟩
            replace hm3 : m3 ≤ m2 := hm3
            cases m3 with
            | zero =>
              replace h : L30_3 0 l4 l8 z12 b14 = some r1 := h
              rw [L30_3] at h
              cases h
            | succ m3 =>
              replace h : L30_3 (m3 + 1) l4 l8 z12 b14 = some r1 := h
              rw [L30_3] at h
              try cbv
              cases b14
              · replace h := ite_f Bool.false_ne_true h
                try cbv
                refine seq_go ?_
                try cbv
                obtain rfl := Option.some.inj h
                refine fin_go ?_
                try cbv
                exact ⟨[], rfl, rfl, trivial, trivial, trivial⟩
              · replace h := ite_t rfl h
                try cbv
                refine seq_go ?_
                try cbv
                refine seq_join (T := Nat × Bool) (fun t => ⟨[(2, .v (.c (.ptr (.loc 0) 0))), (3, .v (.c (.ptr (.loc 32) 0))), (4, .v (.d (.bool false))), (5, .v (.d (.int .i64 z12))), (51, .v (.d (.bool t.2)))], [(.loc 0, .cells [.d (.int .u8 z1), .d (.int .i64 z2), .d (.int .i64 z3), .d (.list false 1 l4)]), (.loc 32, .cells [.d (.int .u8 z5), .d (.int .i64 z6), .d (.int .i64 z7), .d (.list false 1 l8)])], 1536⟩) (fun t => t.1 ≤ m3 ∧ L30_4 t.1 l4 l8 z12 t.2 = some r1) ?_ ?_
                · try cbv
                  replace h := getF_inv h
                  obtain ⟨x15, ⟨hx0, hx⟩, h⟩ := h
                  refine ⟨x15, hx0, hx, ?_⟩
                  clear hx0 hx
                  replace h := ds_i64_inv h
                  obtain ⟨z16, rfl, h⟩ := h
                  try cbv
                  replace h := getF_inv h
                  obtain ⟨x17, ⟨hx0, hx⟩, h⟩ := h
                  refine ⟨x17, hx0, hx, ?_⟩
                  clear hx0 hx
                  replace h := ds_i64_inv h
                  obtain ⟨z18, rfl, h⟩ := h
                  try cbv
                  refine splitI (fun e => ?_) (fun e => ?_)
                  · replace h := ite_t e h
                    clear e
                    try cbv
                    refine drawn ?_ ?_
                    · show _ = true
                      kernel_rfl
                    try cbv
                    exact join_next (m3, false) [2, 3, 4, 5, 51] [.loc 0, .loc 32] 1536 ⟨by omega, h⟩ (by cbv)
                  · replace h := ite_f e h
                    clear e
                    try cbv
                    refine drawn ?_ ?_
                    · show _ = true
                      kernel_rfl
                    try cbv
                    exact join_next (m3, true) [2, 3, 4, 5, 51] [.loc 0, .loc 32] 1536 ⟨by omega, h⟩ (by cbv)
                · clear h
                  rintro ⟨m4, b19⟩ ⟨hm4, h⟩
                  replace hm4 : m4 ≤ m3 := hm4
                  cases m4 with
                  | zero =>
                    replace h : L30_4 0 l4 l8 z12 b19 = some r1 := h
                    rw [L30_4] at h
                    cases h
                  | succ m4 =>
                    replace h : L30_4 (m4 + 1) l4 l8 z12 b19 = some r1 := h
                    rw [L30_4] at h
                    try cbv
                    cases b19
                    · replace h := ite_f Bool.false_ne_true h
                      try cbv
                      replace h := letF_inv h
                      obtain ⟨z20, hz, h⟩ := h
                      refine ⟨z20, hz, ?_⟩
                      clear hz
                      try cbv
                      exact loop_next (m4, z20) [2, 3, 4, 5] [.loc 0, .loc 32] 1024 ⟨by omega, h⟩ (Nat.lt_succ_of_le (by omega)) (by cbv)
                    · replace h := ite_t rfl h
                      try cbv
                      refine seq_go ?_
                      try cbv
                      obtain rfl := Option.some.inj h
                      refine fin_go ?_
                      try cbv
                      exact ⟨[], rfl, rfl, trivial, trivial, trivial⟩
      · replace h := ite_t rfl h
        try cbv
        refine seq_go ?_
        try cbv
        obtain rfl := Option.some.inj h
        refine fin_go ?_
        try cbv
        exact ⟨[], rfl, rfl, trivial, trivial, trivial⟩
end Go.Proofs.YtjobleemmjjocaaDoor
end

/- Printed by lift.py: functional texts of functions, and their contracts. No condition. -/
set_option linter.unusedVariables false
noncomputable section
namespace Go.Proofs.YtjobleemmjjocaaDoor
open Go Go.AM
def F9 (n : Nat) (z1 : Int) (z2 : Int) (z3 : Int) (l4 : List D) (z5 : Int) (z6 : Int) (z7 : Int) (l8 : List D) : Option (Bool) :=
  bO1 (F17 n ([.agg [.int .u8 z1, .int .i64 z2, .int .i64 z3, .list false 1 l4], .agg [.int .u8 z5, .int .i64 z6, .int .i64 z7, .list false 1 l8]])) fun b9 => (if b9 = true then some true else bO1 (F26 n z1 z2 z3 l4) fun b10 => bO1 (F27 n z1 z2 z3 l4) fun b11 => letB (b10 == b11) fun b12 => (if b12 = true then bO1 (F25 n z1 z2 z3 l4 z5 z6 z7 l8) fun b13 => bO1 (F28 n z1 z2 z3 l4 z5 z6 z7 l8) fun b14 => letB (b13 == b14) fun b15 => (if b15 = true then bO1 (F29 n z1 z2 z3 l4 z5 z6 z7 l8) fun b16 => bO1 (F30 n z1 z2 z3 l4 z5 z6 z7 l8) fun b17 => letB (b16 == b17) fun b18 => (if b18 = true then bO1 (F29 n z1 z2 z3 l4 z1 z2 z3 l4) fun b19 => (if b19 = true then bO1 (F22 n) fun b20 => some b20 else some false) else some false) else some false) else some false))
set_option maxRecDepth 100000 in
set_option maxHeartbeats 40000000 in
theorem T9 (n : Nat) : ∀ ⦃z1 : Int⦄ ⦃z2 : Int⦄ ⦃z3 : Int⦄ ⦃l4 : List D⦄ ⦃z5 : Int⦄ ⦃z6 : Int⦄ ⦃z7 : Int⦄ ⦃l8 : List D⦄ ⦃r1 : Bool⦄, F9 n z1 z2 z3 l4 z5 z6 z7 l8 = some r1 →
    Trip Tryd.prog inv 9 [.d (.agg [.int .u8 z1, .int .i64 z2, .int .i64 z3, .list false 1 l4]), .d (.agg [.int .u8 z5, .int .i64 z6, .int .i64 z7, .list false 1 l8])] [] (.v (.d (.bool r1))) [] [] := by
  intro z1 z2 z3 l4 z5 z6 z7 l8 r1 h
  unfold F9 at h
  refine Trip.of tab_ok tab_one fol Tryd.func9 rfl (by kernel_rfl) rfl rfl rfl (fun M hM hI => ?_)
  try cbv
  refine seq_go ?_
  try cbv
  refine seq_go ?_
  try cbv
  refine seq_go ?_
  try cbv
  refine ⟨false, ?_⟩
  try cbv
  refine ⟨true, ?_⟩
  try cbv
  replace h := bO1_inv h
  obtain ⟨b9, hr, h⟩ := h
  refine call_go rfl rfl ?_
  try cbv
  refine call_pure hM hI (T17 _ hr) rfl ?_
  clear hr
  try cbv
  cases b9
  · replace h := ite_f Bool.false_ne_true h
    try cbv
    refine seq_go ?_
    try cbv
    replace h := bO1_inv h
    obtain ⟨b10, hr, h⟩ := h
    first | refine .inr ⟨[], ?_⟩ | refine ⟨[], ?_⟩
    try cbv
    refine call_pure hM hI (T26 _ hr) rfl ?_
    clear hr
    try cbv
    replace h := bO1_inv h
    obtain ⟨b11, hr, h⟩ := h
    first | refine .inr ⟨[], ?_⟩ | refine ⟨[], ?_⟩
    try cbv
    refine call_pure hM hI (T27 _ hr) rfl ?_
    clear hr
    try cbv
    replace h := letB_inv h
    obtain ⟨b12, hz, h⟩ := h
    refine ⟨b12, eqv_eq hz, ?_⟩
    clear hz
    try cbv
    cases b12
    · replace h := ite_f Bool.false_ne_true h
      try cbv
      refine drawn ?_ ?_
      · show _ = true
        kernel_rfl
      try cbv
      obtain rfl := Option.some.inj h
      refine fin_go ?_
      try cbv
      exact ⟨[], rfl, rfl, trivial, trivial, trivial⟩
    · replace h := ite_t rfl h
      try cbv
      replace h := bO1_inv h
      obtain ⟨b13, hr, h⟩ := h
      first | refine .inr ⟨[], ?_⟩ | refine ⟨[], ?_⟩
      try cbv
      refine call_pure hM hI (T25 _ hr) rfl ?_
      clear hr
      try cbv
      replace h := bO1_inv h
      obtain ⟨b14, hr, h⟩ := h
      first | refine .inr ⟨[], ?_⟩ | refine ⟨[], ?_⟩
      try cbv
      refine call_pure hM hI (T28 _ hr) rfl ?_
      clear hr
      try cbv
      replace h := letB_inv h
      obtain ⟨b15, hz, h⟩ := h
      refine ⟨b15, eqv_eq hz, ?_⟩
      clear hz
      try cbv
      cases b15
      · replace h := ite_f Bool.false_ne_true h
        try cbv
        refine drawn ?_ ?_
        · show _ = true
          kernel_rfl
        try cbv
        obtain rfl := Option.some.inj h
        refine fin_go ?_
        try cbv
        exact ⟨[], rfl, rfl, trivial, trivial, trivial⟩
      · replace h := ite_t rfl h
        try cbv
        replace h := bO1_inv h
        obtain ⟨b16, hr, h⟩ := h
        first | refine .inr ⟨[], ?_⟩ | refine ⟨[], ?_⟩
        try cbv
        refine call_pure hM hI (T29 _ hr) rfl ?_
        clear hr
        try cbv
        replace h := bO1_inv h
        obtain ⟨b17, hr, h⟩ := h
        first | refine .inr ⟨[], ?_⟩ | refine ⟨[], ?_⟩
        try cbv
        refine call_pure hM hI (T30 _ hr) rfl ?_
        clear hr
        try cbv
        replace h := letB_inv h
        obtain ⟨b18, hz, h⟩ := h
        refine ⟨b18, eqv_eq hz, ?_⟩
        clear hz
        try cbv
        cases b18
        · replace h := ite_f Bool.false_ne_true h
          try cbv
          refine drawn ?_ ?_
          · show _ = true
            kernel_rfl
          try cbv
          obtain rfl := Option.some.inj h
          refine fin_go ?_
          try cbv
          exact ⟨[], rfl, rfl, trivial, trivial, trivial⟩
        · replace h := ite_t rfl h
          try cbv
          replace h := bO1_inv h
          obtain ⟨b19, hr, h⟩ := h
          first | refine .inr ⟨[], ?_⟩ | refine ⟨[], ?_⟩
          try cbv
          refine call_pure hM hI (T29 _ hr) rfl ?_
          clear hr
          try cbv
          cases b19
          · replace h := ite_f Bool.false_ne_true h
            try cbv
            refine drawn ?_ ?_
            · show _ = true
              kernel_rfl
            try cbv
            obtain rfl := Option.some.inj h
            refine fin_go ?_
            try cbv
            exact ⟨[], rfl, rfl, trivial, trivial, trivial⟩
          · replace h := ite_t rfl h
            try cbv
            replace h := bO1_inv h
            obtain ⟨b20, hr, h⟩ := h
            first | refine .inr ⟨[], ?_⟩ | refine ⟨[], ?_⟩
            try cbv
            refine call_pure hM hI (T22 _ hr) rfl ?_
            clear hr
            try cbv
            refine drawn ?_ ?_
            · show _ = true
              kernel_rfl
            try cbv
            obtain rfl := Option.some.inj h
            refine fin_go ?_
            try cbv
            exact ⟨[], rfl, rfl, trivial, trivial, trivial⟩
  · replace h := ite_t rfl h
    try cbv
    refine seq_go ?_
    try cbv
    obtain rfl := Option.some.inj h
    refine fin_go ?_
    try cbv
    exact ⟨[], rfl, rfl, trivial, trivial, trivial⟩
end Go.Proofs.YtjobleemmjjocaaDoor
end

/- The abstract machine, part R: a law that returns true, out of its contract over typed data. No condition. -/
namespace Go.AM
open Go Go.RowKit Go.ChangeShapes Go.WideShapes

/-- Arguments of given types. -/
def Shapes (ti : Types) : List TypeId → List D → Prop
  | [], [] => True
  | t :: ts, x :: xs => Shape ti t x.cells ∧ (∀ y, ti t = some y → x.isAgg = rowD y.desc) ∧ Shapes ti ts xs
  | _, _ => False

theorem Shapes.length {ti : Types} : ∀ {ts : List TypeId} {xs : List D}, Shapes ti ts xs → xs.length = ts.length
  | [], [], _ => rfl
  | _ :: _, _ :: _, h => by simp [Shapes.length h.2.2]
  | [], _ :: _, h => h.elim
  | _ :: _, [], h => h.elim

theorem rowD_cases {d : TypeDesc} : (∃ fs, d = .struct fs) ∨ (∃ n e, d = .array n e) ∨ rowD d = false := by
  cases d <;> simp [rowD]

section
variable {H : Type} {enc : TypeId × Value → H} {P : Program} {ti : Types} {T : List TypeId} {w : World}

/-- One argument. -/
theorem conv_arg (hti : TIok P ti) (hT : plainB ti T = true) {Z : Zone} (hZ : ∀ b o, ¬ Z b o) {base base' : Nat} {spare : Nat → Bool} {held : Bool} {r : Reach} {t : TypeId} {v : Value} {d : DataW H} {ps : List MemPlace} (ht : t ∈ T)
    (hok : Value.okWide P w r base' t v) (h : DataW.Trod enc P w base spare held t v d ps) : ∃ x : D, Shape ti t x.cells ∧ (∀ y, ti t = some y → x.isAgg = rowD y.desc) ∧ RelD w Z x v := by
  obtain ⟨fuel, h⟩ := h
  obtain ⟨ds, hs, h1, h2, h3⟩ := conv hti hT (Z := Z) hZ fuel t _ _ _ ht h
  have hp := List.all_eq_true.1 hT t ht
  split at hp
  · rename_i y hy
    have hu := (hti t y hy).1
    have single : rowD y.desc = false → v.cells.toList = [v] → ∃ x : D, Shape ti t x.cells ∧ (∀ y, ti t = some y → x.isAgg = rowD y.desc) ∧ RelD w Z x v := by
      intro hr hv
      rw [hv] at h1 h3
      obtain ⟨c, rfl⟩ := List.length_eq_one_iff.1 h1
      have hc := h2 c (by simp)
      have e : c.cells = [c] := by cases c <;> first | rfl | simp [D.isAgg] at hc
      refine ⟨c, by rw [e]; exact hs, fun y' hy' => ?_, h3 0 c v rfl rfl⟩
      rw [hy] at hy'
      obtain rfl : y = y' := by simpa using hy'
      rw [hc, hr]
    split at hp
    · rename_i hd
      rw [hd] at hu
      obtain ⟨b, rfl⟩ := okWide_bool hu hok
      exact single (by rw [hd]; rfl) rfl
    · rename_i k hd
      rw [hd] at hu
      obtain ⟨b, rfl⟩ := okWide_int hu hok
      exact single (by rw [hd]; rfl) rfl
    · rename_i hd
      rw [hd] at hu
      obtain ⟨b, rfl⟩ := okWide_string hu hok
      exact single (by rw [hd]; rfl) rfl
    · rename_i e hd
      rw [hd] at hu
      obtain ⟨a, l, c, rfl⟩ := okWide_slice hu hok
      exact single (by rw [hd]; rfl) rfl
    · rename_i fs hd
      rw [hd] at hu
      obtain ⟨cs, rfl, _⟩ := okWide_struct hu hok
      refine ⟨.agg ds, hs, fun y' hy' => ?_, .agg ds cs (by simpa [Value.cells] using h1.symm) h2 (fun j c u hc hu' => h3 j c u hc (by simpa [Value.cells] using hu'))⟩
      rw [hy] at hy'
      obtain rfl : y = y' := by simpa using hy'
      rw [hd]; rfl
    · simp at hp
  · simp at hp

theorem conv_args (hti : TIok P ti) (hT : plainB ti T = true) {Z : Zone} (hZ : ∀ b o, ¬ Z b o) {base base' : Nat} {spare : Nat → Bool} {held : Bool} {r : Reach} :
    ∀ (ts : List TypeId) (vs : List Value) (ds : List (DataW H)) (ps : List MemPlace), (∀ t ∈ ts, t ∈ T) → DataW.TrodAll enc P w base spare held ts vs ds ps →
      (∀ (j : Nat) t v, ts[j]? = some t → vs[j]? = some v → Value.okWide P w r base' t v) →
      ∃ xs, Shapes ti ts xs ∧ ∀ (j : Nat) x v, xs[j]? = some x → vs[j]? = some v → RelD w Z x v
  | [], vs, ds, ps, _, h, _ => ⟨[], trivial, by simp⟩
  | t :: ts, vs, ds, ps, ht, h, hok => by
    obtain ⟨v, vs1, d, ds1, a, b, rfl, rfl, rfl, h1, h2⟩ := trodAll_cons h
    obtain ⟨x, k1, k2, k3⟩ := conv_arg hti hT hZ (ht t (by simp)) (hok 0 t v rfl rfl) h1
    obtain ⟨xs, k4, k5⟩ := conv_args hti hT hZ ts vs1 ds1 b (fun t ht' => ht t (by simp [ht'])) h2 (fun j t v h1 h2 => hok (j + 1) t v (by simpa using h1) (by simpa using h2))
    refine ⟨x :: xs, ⟨k1, k2, k4⟩, fun j x' v' hx hv => ?_⟩
    match j with
    | 0 => simp at hx hv; subst hx; subst hv; exact k3
    | j + 1 => simp at hx hv; exact k5 j x' v' hx hv

theorem again_all (hl : laidOutB P = true) {W W' : World} (hb : Below W.heap.size W W') : ∀ (ts : List TypeId) (vs : List Value) (ds : List (DataW H)) (ps : List MemPlace),
    (∀ t ∈ ts, P.readableRec t = true ∧ t < P.types.size) → DataW.TrodAll enc P W 0 (fun _ => true) true ts vs ds ps → (∀ x ∈ ps, x.block < W.heap.size) →
    DataW.TrodAll enc P W' 0 (fun b => decide (b < W.heap.size)) true ts vs ds ps
  | [], vs, ds, ps, _, h, _ => by
    obtain ⟨rfl, rfl, rfl⟩ := trodAll_nil h
    exact rfl
  | t :: ts, vs, ds, ps, ht, h, hlt => by
    obtain ⟨v, vs1, d, ds1, a, b, rfl, rfl, rfl, h1, h2⟩ := trodAll_cons h
    have ht1 := ht t (by simp)
    exact ⟨a, b, Below.trod hl ht1.1 ht1.2 h1 hb (fun x hx => hlt x (by simp [hx])), again_all hl hb ts vs1 ds1 b (fun t ht' => ht t (by simp [ht'])) h2 (fun x hx => hlt x (by simp [hx])), rfl⟩

/-- A law: its contract over every typed input makes its row. -/
theorem law_calls {I : Inv} (hti : TIok P ti) (hT : plainB ti T = true) {s : ChangeSpec} {fn : Func} {f : FuncId} {ts : List TypeId} {bt : TypeId}
    (hp : fn.params.toList = ts) (hv : s.vars = []) (hr : fn.resultTypes = #[bt]) (hb : P.underlying bt = some .bool) (htT : ∀ t ∈ ts, t ∈ T)
    (hs : ∀ ds : List (DataW H), ds.length = ts.length → (s.fn H ds).results = [.lit (.bool true)] ∧ (s.fn H ds).args = ds ∧ (s.fn H ds).vars = [])
    (hl : laidOutB P = true) (hrec : ∀ t ∈ ts, P.readableRec t = true ∧ t < P.types.size)
    (hc : ∀ xs : List D, Shapes ti ts xs → Trip P I f (xs.map V1.d) [] (.v (.d (.bool true))) [] [])
    {W : World} {base : Nat} {args : Array Value} {ds gs : List (DataW H)} {before : List MemPlace}
    (hI : I.at W fun _ _ => False) (hval : ∀ (j : Nat) t v, fn.params[j]? = some t → args[j]? = some v → Value.okWide P W .any base t v)
    (hW : DataW.Whole enc P fn.params.toList s.vars false W args.toList ds gs before) :
    Calls P f args W fun e W' => ∃ v, e = .returned v ∧ s.post enc P fn false true false false W args v W' := by
  have hW' := hW
  obtain ⟨p, q, hA, hV, rfl, _, _⟩ := hW
  rw [hv] at hV
  obtain ⟨rfl, rfl⟩ : gs = [] ∧ q = [] := by
    cases gs with
    | nil => exact ⟨rfl, hV⟩
    | cons _ _ => exact hV.elim
  rw [hp] at hA
  obtain ⟨hlen, hdl⟩ := trodAll_length hA
  obtain ⟨xs, hsh, hrel⟩ := conv_args hti hT (Z := fun _ _ => False) (fun _ _ h => h) (r := .any) (base' := base) ts args.toList ds p htT hA (fun j t v h1 h2 => hval j t v (by
    rw [← Array.getElem?_toList, hp]; exact h1) (by simpa using h2))
  have hxl := hsh.length
  have hcall := hc xs hsh
  have hheap : ∀ i o, heapOf [] i = some o → False := by
    intro i o h
    cases i <;> simp [heapOf] at h
  have hzone : ∀ (g : Ghost) b o, ¬ zone g (heapOf []) b o := by
    rintro g b o ⟨i, ob, h, _⟩
    exact hheap i ob h
  refine (hcall.calls (w := W) (X := fun _ _ => False) (g := fun _ => undef) (vals := args) (fun _ _ h => h.elim) (hI.mono fun b o hz => hz.elim (hzone _ b o) id) ⟨fun i o h => (hheap i o h).elim, fun i _ _ _ _ h => (hheap i _ h).elim, fun i _ _ _ h => (hheap i _ h).elim⟩ (fun _ => rfl)
    (by simp at hlen; simp; omega) (fun j x v hx hvv => ?_)).mono ?_
  · simp only [List.getElem?_map, Option.map_eq_some_iff] at hx
    obtain ⟨d, hd, rfl⟩ := hx
    exact (hrel j d v hd (by simpa using hvv)).mono (fun b o u hu _ => ⟨hu, fun hz => hz.elim (hzone _ b o) id⟩)
  · rintro e W' ⟨v, g', rfl, hpost⟩
    obtain rfl : v = .bool true := by cases (show RelD _ _ (.bool true) v from hpost.res); rfl
    have hbel : Below W.heap.size W W' := ⟨hpost.frame.os, hpost.frame.tape, hpost.frame.output, hpost.frame.size, fun k hk => hpost.frame.block k hk (fun o => hzone _ k o)⟩
    obtain ⟨s1, s2, s3⟩ := hs (ds ++ []) (by simp [hdl])
    refine ⟨_, rfl, ds, [], p ++ [], [], p, [], hW', ?_, ?_, ?_, hbel.frame _, fun h => by cases h⟩
    · rw [s1, hr]
      exact trodAll_mk1 (shut_bool hb true)
    · rw [s2, hp, List.append_nil]
      exact again_all hl hbel ts args.toList ds p hrec hA (fun x hx => hW'.lt x (by simp [hx]))
    · rw [s3, hv]; rfl
end
end Go.AM

/- Chapter 25, the plain law, part A: paths, accesses, conflicts. No condition. -/
set_option linter.unusedVariables false
noncomputable section
namespace Go.Proofs.YtjobleemmjjocaaDoor
open Go Go.AM

theorem ilt {i N : Nat} (h : i < N) : (i : Int) < (N : Int) := Int.ofNat_lt.2 h
theorem bO1_some {α γ : Type} (a : α) (k : α → Option γ) : bO1 (some a) k = k a := rfl
theorem bO2_some {α β γ : Type} (a : α) (b : β) (k : α → β → Option γ) : bO2 (some (a, b)) k = k a b := rfl
theorem aw (m : Nat) : F22 (m + 60) = some true := by kernel_rfl
theorem ev22 : Ev (fun n => F22 n) true := ⟨60, fun n hn => by obtain ⟨m, rfl⟩ : ∃ m, n = m + 60 := ⟨n - 60, by omega⟩; exact aw m⟩

theorem drop_cons {L : List D} {i : Nat} {x : D} (h : L[i]? = some x) : L.drop i = x :: L.drop (i + 1) := by
  obtain ⟨hi, rfl⟩ := List.getElem?_eq_some_iff.1 h
  exact List.drop_eq_getElem_cons hi

/-- Long: a text that comes to an end. -/
theorem ev17 {L : List D} (hL : ListS tab 32 L) : ∃ r, Ev (fun n => F17 n L) r ∧ (r = false → L.length ≤ 2000) := by
  have loop : ∀ i, i ≤ L.length → ∃ r, Ev (fun n => L17_2 n L (i : Int)) r := by
    refine down L.length ⟨false, Ev.succ ?_⟩ (fun i hi ih => ?_)
    · simp only [L17_2, lenF, Int.lt_irrefl, if_false]
      exact Ev.succ (by simp only [L17_3, Bool.false_eq_true, if_false]; exact Ev.ret)
    · obtain ⟨x, hx, _, hr⟩ := hL.get hi
      obtain ⟨a, b, c, p, rfl, _⟩ := rs32 hr
      obtain ⟨r, ih⟩ := ih
      by_cases h : (100 : Int) < (p.length : Int)
      · refine ⟨true, Ev.succ ?_⟩
        simp only [L17_2, lenF, if_pos (ilt hi)]
        refine Ev.succ ?_
        simp only [L17_3, if_true, getF_nat hx, ds_t32, lenF, if_pos h]
        exact Ev.succ (by simp only [L17_4, if_true]; exact Ev.ret)
      · refine ⟨r, Ev.succ ?_⟩
        simp only [L17_2, lenF, if_pos (ilt hi)]
        refine Ev.succ ?_
        simp only [L17_3, if_true, getF_nat hx, ds_t32, lenF, if_neg h]
        refine Ev.succ ?_
        simp only [L17_4, Bool.false_eq_true, if_false, letF, wrap_succ hi hL.1]
        exact ih
  by_cases h : (2000 : Int) < (L.length : Int)
  · refine ⟨true, ?_, fun e => by cases e⟩
    simp only [F17, lenF, if_pos h]
    exact Ev.succ (by simp only [L17_1, if_true]; exact Ev.ret)
  · obtain ⟨r, hr⟩ := loop 0 (Nat.zero_le _)
    refine ⟨r, ?_, fun _ => by omega⟩
    simp only [F17, lenF, if_neg h]
    exact Ev.succ (by simp only [L17_1, Bool.false_eq_true, if_false]; exact hr)

/-- Paths are the same. -/
theorem ev50 {L M : List D} (hL : ListS tab 3 L) (hM : ListS tab 3 M) : ∃ r, Ev (fun n => F50 n L M) r ∧ (r = true ↔ L = M) := by
  by_cases e : L.length = M.length
  · have loop : ∀ i, i ≤ L.length → ∃ r, Ev (fun n => L50_2 n L M (L.length : Int) (i : Int)) r ∧ (r = true ↔ L.drop i = M.drop i) := by
      refine down L.length ⟨true, Ev.succ ?_, ?_⟩ (fun i hi ih => ?_)
      · simp only [L50_2, Int.lt_irrefl, if_false]
        exact Ev.succ (by simp only [L50_3, Bool.false_eq_true, if_false]; exact Ev.ret)
      · simp [e]
      · obtain ⟨x, hx, _, hr⟩ := hL.get hi
        obtain ⟨y, hy, _, hs⟩ := hM.get (show i < M.length by omega)
        obtain ⟨a, rfl, _⟩ := rs3 hr
        obtain ⟨b, rfl, _⟩ := rs3 hs
        obtain ⟨r, ih, ih2⟩ := ih
        rw [drop_cons hx, drop_cons hy]
        by_cases h : a = b
        · refine ⟨r, Ev.succ ?_, by rw [ih2, h]; simp⟩
          simp only [L50_2, if_pos (ilt hi)]
          refine Ev.succ ?_
          simp only [L50_3, if_true, getF_nat hx, getF_nat hy, ds_i64, if_pos h]
          refine Ev.succ ?_
          simp only [L50_4, Bool.false_eq_true, if_false, letF, wrap_succ hi hL.1]
          exact ih
        · refine ⟨false, Ev.succ ?_, by simp [h]⟩
          simp only [L50_2, if_pos (ilt hi)]
          refine Ev.succ ?_
          simp only [L50_3, if_true, getF_nat hx, getF_nat hy, ds_i64, if_neg h]
          exact Ev.succ (by simp only [L50_4, if_true]; exact Ev.ret)
    obtain ⟨r, h1, h2⟩ := loop 0 (Nat.zero_le _)
    refine ⟨r, ?_, by simpa using h2⟩
    simp only [F50, lenF, if_pos (show (L.length : Int) = (M.length : Int) by omega)]
    exact Ev.succ (by simp only [L50_1, Bool.false_eq_true, if_false, lenF]; exact h1)
  · refine ⟨false, ?_, by constructor <;> intro h; cases h; exact absurd (by rw [h]) e⟩
    simp only [F50, lenF, if_neg (show ¬ (L.length : Int) = (M.length : Int) by omega)]
    exact Ev.succ (by simp only [L50_1, if_true]; exact Ev.ret)
theorem take_listS {L : List D} {t : TypeId} (h : ListS tab t L) (i : Nat) : ListS tab t (L.take i) := ⟨by have := h.1; simp; omega, fun x hx => h.2 x (List.mem_of_mem_take hx)⟩
theorem nil_listS {t : TypeId} : ListS tab t [] := ⟨by simp, fun _ h => by cases h⟩

/-- One path begins the other. -/
theorem ev48 {L M : List D} (hL : ListS tab 3 L) (hM : ListS tab 3 M) : ∃ r, Ev (fun n => F48 n L M) r ∧ (r = true ↔ L <+: M) := by
  by_cases e : (L.length : Int) ≤ (M.length : Int)
  · obtain ⟨r, h1, h2⟩ := ev50 hL (take_listS hM L.length)
    refine ⟨r, ?_, ?_⟩
    · simp only [F48, lenF, if_pos e, sliceF]
      have : (0 : Int) ≤ 0 ∧ (0 : Int) ≤ (L.length : Int) ∧ (L.length : Int) ≤ (M.length : Int) := ⟨by omega, by omega, e⟩
      simp only [if_pos this]
      exact Ev.bO1 (by simpa using h1) Ev.ret
    · rw [h2, List.prefix_iff_eq_take]
  · refine ⟨false, ?_, by constructor <;> intro h; cases h; exact absurd h.length_le (by omega)⟩
    simp only [F48, lenF, if_neg e]; exact Ev.ret

theorem pre_nil {M : List D} : ([] : List D) <+: M := ⟨M, rfl⟩
/-- The document's 'one path begins the other'. -/
theorem ev49 (z1 z2 z3 z5 z6 z7 : Int) {L M : List D} (hL : ListS tab 3 L) (hM : ListS tab 3 M) :
    ∃ r, Ev (fun n => F49 n z1 z2 z3 L z5 z6 z7 M) r ∧ (r = true ↔ (z1 = 3 ∨ z5 = 3 ∨ L <+: M ∨ M <+: L)) := by
  have loop : ∀ i, i ≤ min L.length M.length → ∃ r, Ev (fun n => L49_2 n L M (i : Int)) r ∧ (r = true ↔ (L.drop i <+: M.drop i ∨ M.drop i <+: L.drop i)) := by
    refine down _ ⟨true, Ev.succ ?_, ?_⟩ (fun i hi ih => ?_)
    · simp only [L49_2, lenF]
      by_cases h : ((min L.length M.length : Nat) : Int) < (L.length : Int)
      · simp only [if_pos h, if_neg (show ¬ ((min L.length M.length : Nat) : Int) < (M.length : Int) by omega)]
        exact Ev.succ (by simp only [L49_3, Bool.false_eq_true, if_false]; exact Ev.ret)
      · simp only [if_neg h]
        exact Ev.succ (by simp only [L49_3, Bool.false_eq_true, if_false]; exact Ev.ret)
    · refine ⟨fun _ => ?_, fun _ => rfl⟩
      rcases Nat.le_total L.length M.length with h | h
      · left; rw [Nat.min_eq_left h, List.drop_length]; exact pre_nil
      · right; rw [Nat.min_eq_right h, List.drop_length]; exact pre_nil
    · have i1 : i < L.length := by omega
      have i2 : i < M.length := by omega
      obtain ⟨x, hx, _, hr⟩ := hL.get i1
      obtain ⟨y, hy, _, hs⟩ := hM.get i2
      obtain ⟨a, rfl, _⟩ := rs3 hr
      obtain ⟨b, rfl, _⟩ := rs3 hs
      obtain ⟨r, ih, ih2⟩ := ih
      rw [drop_cons hx, drop_cons hy, List.cons_prefix_cons, List.cons_prefix_cons]
      by_cases h : a = b
      · refine ⟨r, Ev.succ ?_, by rw [ih2, h]; simp⟩
        simp only [L49_2, lenF, if_pos (ilt i1), if_pos (ilt i2)]
        refine Ev.succ ?_
        simp only [L49_3, if_true, getF_nat hx, getF_nat hy, ds_i64, if_pos h]
        refine Ev.succ ?_
        simp only [L49_4, Bool.false_eq_true, if_false, letF, wrap_succ i1 hL.1]
        exact ih
      · refine ⟨false, Ev.succ ?_, by simp [h, Ne.symm h]⟩
        simp only [L49_2, lenF, if_pos (ilt i1), if_pos (ilt i2)]
        refine Ev.succ ?_
        simp only [L49_3, if_true, getF_nat hx, getF_nat hy, ds_i64, if_neg h]
        exact Ev.succ (by simp only [L49_4, if_true]; exact Ev.ret)
  by_cases h : z1 = 3
  · refine ⟨true, ?_, by simp [h]⟩
    simp only [F49, if_pos h]
    exact Ev.succ (by simp only [L49_1, if_true]; exact Ev.ret)
  · by_cases h2 : z5 = 3
    · refine ⟨true, ?_, by simp [h2]⟩
      simp only [F49, if_neg h, if_pos h2]
      exact Ev.succ (by simp only [L49_1, if_true]; exact Ev.ret)
    · obtain ⟨r, h1, h3⟩ := loop 0 (Nat.zero_le _)
      refine ⟨r, ?_, by simpa [h, h2] using h3⟩
      simp only [F49, if_neg h, if_neg h2]
      exact Ev.succ (by simp only [L49_1, Bool.false_eq_true, if_false]; exact h1)

abbrev acc (z : Int) : Prop := z = 1 ∨ z = 2 ∨ z = 4 ∨ z = 3
theorem e26 (n : Nat) (z1 z2 z3 : Int) (l : List D) : F26 n z1 z2 z3 l = some (decide (acc z1)) := by
  unfold F26 acc
  by_cases h1 : z1 = 1 <;> by_cases h2 : z1 = 2 <;> by_cases h3 : z1 = 4 <;> by_cases h4 : z1 = 3 <;> simp [h1, h2, h3, h4]
theorem e27 (n : Nat) (z1 z2 z3 : Int) (l : List D) : F27 n z1 z2 z3 l = some (decide (acc z1)) := e26 n z1 z2 z3 l
theorem e47 (n : Nat) (z1 z2 z3 : Int) (l : List D) : F47 n z1 z2 z3 l = some (decide (z1 = 2 ∨ z1 = 3)) := by
  unfold F47
  by_cases h2 : z1 = 2 <;> by_cases h4 : z1 = 3 <;> simp [h2, h4]
theorem ev46 (z1 z2 z3 : Int) (l : List D) : Ev (fun n => F46 n z1 z2 z3 l) (if z1 = 3 then [] else l) := by
  unfold F46
  by_cases h : z1 = 3
  · simp only [if_pos h]; exact Ev.succ (by simp only [L46_1, if_true]; exact Ev.ret)
  · simp only [if_neg h]; exact Ev.succ (by simp only [L46_1, Bool.false_eq_true, if_false]; exact Ev.ret)
def Conf (z1 z2 z3 : Int) (L : List D) (z5 z6 z7 : Int) (M : List D) : Prop :=
  acc z1 ∧ acc z5 ∧ z2 ≠ z6 ∧ z3 = z7 ∧ (z1 = 3 ∨ z5 = 3 ∨ L <+: M ∨ M <+: L) ∧ (z1 = 2 ∨ z1 = 3 ∨ z5 = 2 ∨ z5 = 3) ∧ ¬ (z1 = 4 ∧ z5 = 4)
theorem bEq {a b : Bool} (h : a = true ↔ b = true) : a = b := by cases a <;> cases b <;> simp_all

theorem ev25 (z1 z2 z3 z5 z6 z7 : Int) {L M : List D} (hL : ListS tab 3 L) (hM : ListS tab 3 M) :
    ∃ r, Ev (fun n => F25 n z1 z2 z3 L z5 z6 z7 M) r ∧ (r = true ↔ Conf z1 z2 z3 L z5 z6 z7 M) := by
  have stop : Ev (fun n => L25_1 n z1 z2 z3 L z5 z6 z7 M true) false := Ev.succ (by simp only [L25_1, if_true]; exact Ev.ret)
  unfold F25
  simp only [e26, bO1_some, letB]
  by_cases a1 : acc z1
  · simp only [decide_eq_true a1, Bool.not_true, Bool.false_eq_true, if_false]
    by_cases a2 : acc z5
    · simp only [decide_eq_true a2, Bool.not_true, Bool.false_eq_true, if_false]
      by_cases h1 : z2 = z6
      · simp only [if_pos h1]
        exact ⟨false, stop, by simp [Conf, h1]⟩
      · by_cases h2 : z3 = z7
        · simp only [if_neg h1, if_pos h2]
          have q1 : ListS tab 3 (if z1 = 3 then [] else L) := by split; exact nil_listS; exact hL
          have q2 : ListS tab 3 (if z5 = 3 then [] else M) := by split; exact nil_listS; exact hM
          obtain ⟨r1, v1, w1⟩ := ev48 q1 q2
          obtain ⟨r2, v2, w2⟩ := ev48 q2 q1
          have key : (r1 = true ∨ r2 = true) ↔ (z1 = 3 ∨ z5 = 3 ∨ L <+: M ∨ M <+: L) := by
            rw [w1, w2]
            by_cases g1 : z1 = 3
            · simp [g1]
            · by_cases g2 : z5 = 3
              · simp [g2]
              · simp [g1, g2]
          have fin : ∃ r, Ev (fun n => bO1 (F47 n z1 z2 z3 L) fun b17 => (if b17 = true then (if z1 = (4 : Int) then (if z5 = (4 : Int) then some false else some true) else some true) else bO1 (F47 n z5 z6 z7 M) fun b18 => (if b18 = true then (if z1 = (4 : Int) then (if z5 = (4 : Int) then some false else some true) else some true) else some false))) r ∧ (r = true ↔ ((z1 = 2 ∨ z1 = 3 ∨ z5 = 2 ∨ z5 = 3) ∧ ¬ (z1 = 4 ∧ z5 = 4))) := by
            simp only [e47, bO1_some]
            by_cases g1 : z1 = 2 ∨ z1 = 3
            · simp only [decide_eq_true g1, if_true]
              have : ¬ z1 = 4 := by omega
              simp only [if_neg this]
              exact ⟨true, Ev.ret, by simp only [true_iff]; omega⟩
            · by_cases g2 : z5 = 2 ∨ z5 = 3
              · simp only [decide_eq_true g2, decide_eq_false g1, Bool.false_eq_true, if_false, if_true]
                have : ¬ z5 = 4 := by omega
                simp only [if_neg this, ite_self]
                exact ⟨true, Ev.ret, by simp only [true_iff]; omega⟩
              · simp only [decide_eq_false g2, decide_eq_false g1, Bool.false_eq_true, if_false]
                exact ⟨false, Ev.ret, by simp only [Bool.false_eq_true, false_iff]; omega⟩
          obtain ⟨rf, vf, wf⟩ := fin
          have conf : Conf z1 z2 z3 L z5 z6 z7 M ↔ ((r1 = true ∨ r2 = true) ∧ rf = true) := by
            unfold Conf
            rw [key, wf]
            exact ⟨fun ⟨_, _, _, _, a, b, c⟩ => ⟨a, b, c⟩, fun ⟨a, b, c⟩ => ⟨a1, a2, h1, h2, a, b, c⟩⟩
          cases hr1 : r1
          · cases hr2 : r2
            · refine ⟨false, Ev.succ ?_, by rw [conf, hr1, hr2]; simp⟩
              simp only [L25_1, Bool.false_eq_true, if_false]
              refine Ev.bO1 (ev46 ..) (Ev.bO1 (ev46 ..) (Ev.bO1 v1 ?_))
              simp only [hr1, Bool.false_eq_true, if_false]
              refine Ev.bO1 v2 ?_
              simp only [hr2, Bool.false_eq_true, if_false]
              exact Ev.ret
            · refine ⟨rf, Ev.succ ?_, by rw [conf, hr1, hr2]; simp⟩
              simp only [L25_1, Bool.false_eq_true, if_false]
              refine Ev.bO1 (ev46 ..) (Ev.bO1 (ev46 ..) (Ev.bO1 v1 ?_))
              simp only [hr1, Bool.false_eq_true, if_false]
              refine Ev.bO1 v2 ?_
              simp only [hr2, if_true]
              exact vf
          · refine ⟨rf, Ev.succ ?_, by rw [conf, hr1]; simp⟩
            simp only [L25_1, Bool.false_eq_true, if_false]
            refine Ev.bO1 (ev46 ..) (Ev.bO1 (ev46 ..) (Ev.bO1 v1 ?_))
            simp only [hr1, if_true]
            exact vf
        · simp only [if_neg h1, if_neg h2]
          exact ⟨false, stop, by simp [Conf, h2]⟩
    · simp only [decide_eq_false a2, Bool.not_false, if_true]
      exact ⟨false, stop, by simp only [Bool.false_eq_true, false_iff]; exact fun h => a2 h.2.1⟩
  · simp only [decide_eq_false a1, Bool.not_false, if_true]
    exact ⟨false, stop, by simp only [Bool.false_eq_true, false_iff]; exact fun h => a1 h.1⟩

theorem ev28 (z1 z2 z3 z5 z6 z7 : Int) {L M : List D} (hL : ListS tab 3 L) (hM : ListS tab 3 M) :
    ∃ r, Ev (fun n => F28 n z1 z2 z3 L z5 z6 z7 M) r ∧ (r = true ↔ Conf z1 z2 z3 L z5 z6 z7 M) := by
  have stop : Ev (fun n => L28_1 n z1 z5 true) false := Ev.succ (by simp only [L28_1, if_true]; exact Ev.ret)
  unfold F28
  simp only [e27, bO1_some, letB]
  by_cases a1 : acc z1
  · simp only [decide_eq_true a1, Bool.not_true, Bool.false_eq_true, if_false]
    by_cases a2 : acc z5
    · simp only [decide_eq_true a2, Bool.not_true, Bool.false_eq_true, if_false]
      by_cases h1 : z2 = z6
      · simp only [if_pos h1]
        exact ⟨false, stop, by simp [Conf, h1]⟩
      · by_cases h2 : z3 = z7
        · simp only [if_neg h1, if_pos h2]
          obtain ⟨r1, v1, w1⟩ := ev49 z1 z2 z3 z5 z6 z7 hL hM
          cases hr1 : r1
          · refine ⟨false, Ev.bO1 v1 ?_, ?_⟩
            · simp only [hr1, Bool.not_false]; exact stop
            · simp only [Bool.false_eq_true, false_iff]
              intro h
              have := w1.2 h.2.2.2.2.1
              rw [hr1] at this; cases this
          · rw [hr1] at w1
            have w1 := w1.1 rfl
            have fin : ∃ r, Ev (fun n => L28_1 n z1 z5 false) r ∧ (r = true ↔ ((z1 = 2 ∨ z1 = 3 ∨ z5 = 2 ∨ z5 = 3) ∧ ¬ (z1 = 4 ∧ z5 = 4))) := by
              by_cases g : z1 = 4 ∧ z5 = 4
              · refine ⟨false, Ev.succ ?_, by simp [g]⟩
                simp only [L28_1, Bool.false_eq_true, if_false, if_pos g.1, if_pos g.2]
                exact Ev.succ (by simp only [L28_2, if_true]; exact Ev.ret)
              · by_cases g1 : z1 = 2 ∨ z1 = 3 ∨ z5 = 2 ∨ z5 = 3
                · refine ⟨true, Ev.succ ?_, by simp only [true_iff]; exact ⟨g1, g⟩⟩
                  have e : ∀ n, L28_1 (n + 1) z1 z5 false = L28_2 n z1 z5 false := by
                    intro n
                    simp only [L28_1, Bool.false_eq_true, if_false]
                    by_cases y : z1 = 4
                    · rw [if_pos y, if_neg (fun h => g ⟨y, h⟩)]
                    · rw [if_neg y]
                  simp only [e]
                  refine Ev.succ ?_
                  simp only [L28_2, Bool.false_eq_true, if_false]
                  by_cases y1 : z1 = 2
                  · simp only [if_pos y1]; exact Ev.ret
                  · by_cases y2 : z1 = 3
                    · simp only [if_neg y1, if_pos y2]; exact Ev.ret
                    · by_cases y3 : z5 = 2
                      · simp only [if_neg y1, if_neg y2, if_pos y3]; exact Ev.ret
                      · simp only [if_neg y1, if_neg y2, if_neg y3, if_pos (show z5 = 3 by omega)]; exact Ev.ret
                · refine ⟨false, Ev.succ ?_, by simp only [Bool.false_eq_true, false_iff]; exact fun h => g1 h.1⟩
                  have e : ∀ n, L28_1 (n + 1) z1 z5 false = L28_2 n z1 z5 false := by
                    intro n
                    simp only [L28_1, Bool.false_eq_true, if_false]
                    by_cases y : z1 = 4
                    · rw [if_pos y, if_neg (fun h => g ⟨y, h⟩)]
                    · rw [if_neg y]
                  simp only [e]
                  refine Ev.succ ?_
                  simp only [L28_2, Bool.false_eq_true, if_false, if_neg (show ¬ z1 = 2 by omega), if_neg (show ¬ z1 = 3 by omega), if_neg (show ¬ z5 = 2 by omega), if_neg (show ¬ z5 = 3 by omega)]
                  exact Ev.ret
            obtain ⟨r, v, w⟩ := fin
            refine ⟨r, Ev.bO1 v1 ?_, ?_⟩
            · simp only [hr1, Bool.not_true]; exact v
            · rw [w]
              exact ⟨fun ⟨b, c⟩ => ⟨a1, a2, h1, h2, w1, b, c⟩, fun ⟨_, _, _, _, _, b, c⟩ => ⟨b, c⟩⟩
        · simp only [if_neg h1, if_neg h2]
          exact ⟨false, stop, by simp [Conf, h2]⟩
    · simp only [decide_eq_false a2, Bool.not_false, if_true]
      exact ⟨false, stop, by simp only [Bool.false_eq_true, false_iff]; exact fun h => a2 h.2.1⟩
  · simp only [decide_eq_false a1, Bool.not_false, if_true]
    exact ⟨false, stop, by simp only [Bool.false_eq_true, false_iff]; exact fun h => a1 h.1⟩

def Same (z1 z2 z3 : Int) (L : List D) (z5 z6 z7 : Int) (M : List D) : Prop := z1 = z5 ∧ z2 = z6 ∧ z3 = z7 ∧ L = M
theorem ev29 (z1 z2 z3 z5 z6 z7 : Int) {L M : List D} (hL : ListS tab 3 L) (hM : ListS tab 3 M) :
    ∃ r, Ev (fun n => F29 n z1 z2 z3 L z5 z6 z7 M) r ∧ (r = true ↔ Same z1 z2 z3 L z5 z6 z7 M) := by
  obtain ⟨r, v, w⟩ := ev50 hL hM
  unfold F29 Same
  by_cases h1 : z1 = z5
  · by_cases h2 : z2 = z6
    · by_cases h3 : z3 = z7
      · simp only [if_pos h1, if_pos h2, if_pos h3]
        exact ⟨r, Ev.bO1 v Ev.ret, by simp [h1, h2, h3, w]⟩
      · simp only [if_pos h1, if_pos h2, if_neg h3]; exact ⟨false, Ev.ret, by simp [h3]⟩
    · simp only [if_pos h1, if_neg h2]; exact ⟨false, Ev.ret, by simp [h2]⟩
  · simp only [if_neg h1]; exact ⟨false, Ev.ret, by simp [h1]⟩
theorem ev30 (z1 z2 z3 z5 z6 z7 : Int) {L M : List D} (hL : ListS tab 3 L) (hM : ListS tab 3 M) :
    ∃ r, Ev (fun n => F30 n z1 z2 z3 L z5 z6 z7 M) r ∧ (r = true ↔ Same z1 z2 z3 L z5 z6 z7 M) := by
  have stop : Ev (fun n => L30_1 n L M true) false := Ev.succ (by simp only [L30_1, if_true]; exact Ev.ret)
  unfold F30 Same
  by_cases h1 : z1 = z5
  · by_cases h2 : z2 = z6
    · by_cases h3 : z3 = z7
      · simp only [if_pos h1, if_pos h2, if_pos h3, lenF]
        by_cases e : L.length = M.length
        · have loop : ∀ i, i ≤ L.length → ∃ r, Ev (fun n => L30_2 n L M (i : Int)) r ∧ (r = true ↔ L.drop i = M.drop i) := by
            refine down L.length ⟨true, Ev.succ ?_, ?_⟩ (fun i hi ih => ?_)
            · simp only [L30_2, lenF, Int.lt_irrefl, if_false]
              exact Ev.succ (by simp only [L30_3, Bool.false_eq_true, if_false]; exact Ev.ret)
            · simp [e]
            · obtain ⟨x, hx, _, hr⟩ := hL.get hi
              obtain ⟨y, hy, _, hs⟩ := hM.get (show i < M.length by omega)
              obtain ⟨a, rfl, _⟩ := rs3 hr
              obtain ⟨b, rfl, _⟩ := rs3 hs
              obtain ⟨r, ih, ih2⟩ := ih
              rw [drop_cons hx, drop_cons hy]
              by_cases h : a = b
              · refine ⟨r, Ev.succ ?_, by rw [ih2, h]; simp⟩
                simp only [L30_2, lenF, if_pos (ilt hi)]
                refine Ev.succ ?_
                simp only [L30_3, if_true, getF_nat hx, getF_nat hy, ds_i64, if_pos h]
                refine Ev.succ ?_
                simp only [L30_4, Bool.false_eq_true, if_false, letF, wrap_succ hi hL.1]
                exact ih
              · refine ⟨false, Ev.succ ?_, by simp [h]⟩
                simp only [L30_2, lenF, if_pos (ilt hi)]
                refine Ev.succ ?_
                simp only [L30_3, if_true, getF_nat hx, getF_nat hy, ds_i64, if_neg h]
                exact Ev.succ (by simp only [L30_4, if_true]; exact Ev.ret)
          obtain ⟨r, v1, v2⟩ := loop 0 (Nat.zero_le _)
          refine ⟨r, ?_, by simpa [h1, h2, h3] using v2⟩
          simp only [if_pos (show (L.length : Int) = (M.length : Int) by omega)]
          exact Ev.succ (by simp only [L30_1, Bool.false_eq_true, if_false]; exact v1)
        · simp only [if_neg (show ¬ (L.length : Int) = (M.length : Int) by omega)]
          exact ⟨false, stop, by simp only [Bool.false_eq_true, false_iff]; exact fun h => e (by rw [h.2.2.2])⟩
      · simp only [if_pos h1, if_pos h2, if_neg h3]; exact ⟨false, stop, by simp [h3]⟩
    · simp only [if_pos h1, if_neg h2]; exact ⟨false, stop, by simp [h2]⟩
  · simp only [if_neg h1]; exact ⟨false, stop, by simp [h1]⟩

theorem trace_conflict_trip : ∀ xs : List D, Shapes tab [32, 32] xs → Trip Tryd.prog inv 9 (xs.map V1.d) [] (.v (.d (.bool true))) [] [] := by
  intro xs h
  match xs, h with
  | [u, v], ⟨u1, u2, v1, v2, _⟩ =>
    have hu : RowS tab 32 u := ⟨u1, u2⟩
    have hv : RowS tab 32 v := ⟨v1, v2⟩
    have hl : ListS tab 32 [u, v] := ⟨by show 2 ≤ maxLen; decide, fun x hx => by
      rcases List.mem_cons.1 hx with rfl | hx
      · exact hu
      · rcases List.mem_cons.1 hx with rfl | hx
        · exact hv
        · cases hx⟩
    obtain ⟨a1, b1, c1, p1, rfl, _, _, _, hp⟩ := rs32 hu
    obtain ⟨a2, b2, c2, p2, rfl, _, _, _, hq⟩ := rs32 hv
    have law : Ev (fun n => F9 n a1 b1 c1 p1 a2 b2 c2 p2) true := by
      obtain ⟨r, hr, _⟩ := ev17 hl
      unfold F9
      refine Ev.bO1 hr ?_
      cases r
      · simp only [Bool.false_eq_true, if_false, e26, e27, bO1_some, letB, beq_self_eq_true, if_true]
        obtain ⟨s, v, w⟩ := ev25 a1 b1 c1 a2 b2 c2 hp hq
        obtain ⟨s', v', w'⟩ := ev28 a1 b1 c1 a2 b2 c2 hp hq
        obtain rfl : s = s' := bEq (w.trans w'.symm)
        refine Ev.bO1 v (Ev.bO1 v' ?_)
        simp only [beq_self_eq_true, if_true]
        obtain ⟨s, v, w⟩ := ev29 a1 b1 c1 a2 b2 c2 hp hq
        obtain ⟨s', v', w'⟩ := ev30 a1 b1 c1 a2 b2 c2 hp hq
        obtain rfl : s = s' := bEq (w.trans w'.symm)
        refine Ev.bO1 v (Ev.bO1 v' ?_)
        simp only [beq_self_eq_true, if_true]
        obtain ⟨s, v, w⟩ := ev29 a1 b1 c1 a1 b1 c1 hp hp
        obtain rfl : s = true := w.2 ⟨rfl, rfl, rfl, rfl⟩
        refine Ev.bO1 v ?_
        simp only [if_true]
        exact Ev.bO1 ev22 Ev.ret
      · simp only [if_true]; exact Ev.ret
    obtain ⟨n, hn⟩ := law.run
    exact T9 n hn
end Go.Proofs.YtjobleemmjjocaaDoor
end

/- TraceConflict holds: whether events are accesses, conflict, and are the same is what the document says, of any two events. No condition. -/
namespace Go.Proofs.YtjobleemmjjocaaDoor
open Go Go.ChangeShapes Go.WideShapes Go.ChangeAt Go.RowKit Go.AM

theorem trace_conflict_reads : ∀ t ∈ [32, 32], Tryd.prog.readableRec t = true ∧ t < Tryd.prog.types.size := by
  have h : ([32, 32].all fun t => Tryd.prog.readableRec t && decide (t < Tryd.prog.types.size)) = true := by kernel_rfl
  intro t ht
  have := List.all_eq_true.1 h t ht
  simpa using this

/-- What the row knows of the library's table. -/
theorem trace_conflict_inv {W : World} (h : laidMet Tryd.prog Rows.traceConflictRow.laid W) : inv.at W fun _ _ => False := by
  have e : (Rows.traceConflictRow.laid.filter fun x => x.1 == "internal/strconv.uint64pow10") = [("internal/strconv.uint64pow10", Lib.tabData .u64 Lib.pow10Tab)] := by kernel_rfl
  have h2 := laidMet.filter (fun x => x.1 == "internal/strconv.uint64pow10") h
  rw [e] at h2
  have ht : Lib.TabIs Tryd.prog W "internal/strconv.uint64pow10" .u64 Lib.pow10Tab := by
    exact Lib.tabIs_of_head (g := 0) (t := 138) (e := 35) (n := 20) (by kernel_rfl) (by kernel_rfl) (by kernel_rfl) (by kernel_rfl) (by kernel_rfl) (by kernel_rfl) h2
  refine ⟨ht, fun b hb => ⟨?_, fun _ h => h⟩⟩
  have hb : Tryd.prog.globalNamed "internal/strconv.uint64pow10" = some b := hb
  unfold Lib.TabIs World.var? at ht
  rw [hb] at ht
  simp only [Option.bind_some] at ht
  cases hx : W.heap[b]? with
  | none => rw [hx] at ht; simp at ht
  | some o => exact (Array.getElem?_eq_some_iff.1 hx).1

set_option maxRecDepth 100000 in
theorem trace_conflict_lifted (os : Os) (started : os.Started) (H : Type) (enc : TypeId × Value → H) :
    ReturnsInHanded {} Tryd.checked os 9 .any (fun w args => (Rows.traceConflictSpec.pre enc Tryd.prog Tryd.f9 Rows.traceConflictRow.domain false w args ∧ laidMetH Tryd.prog Rows.traceConflictRow.laid w) ∧ sizedMet enc Tryd.prog Tryd.f9 (OpenSpec.ofChange Rows.traceConflictSpec) false w args)
      (Rows.traceConflictSpec.post enc Tryd.prog Tryd.f9 false true false false) := by
  refine returnsInHanded_of_change_and (C := Tryd.checked) (X := fun w _ => laidMetH Tryd.prog Rows.traceConflictRow.laid w) (fun _ _ _ hh h => h.of_heap hh) (by kernel_rfl) started (by kernel_rfl) Tryd.func9
    (ChangeSpec.witness_shaped (enc := enc) (C := Tryd.checked) (os := os) (X := fun w _ => laidMetH Tryd.prog Rows.traceConflictRow.laid w) false (World.laidAll Tryd.prog os Rows.traceConflictRow.laid) #[.agg #[.int .u8 0, .int .i64 0, .int .i64 0, .slice none 0 0], .agg #[.int .u8 0, .int .i64 0, .int .i64 0, .slice none 0 0]] 8 (World.laidAll_os _ _ _)
      (World.shaped_of_ZipB (by kernel_rfl) (by kernel_rfl)) (by kernel_rfl) (by kernel_rfl) (by kernel_rfl)
      (by rw [MakeChecks.laidMetH_plain _ _ _ (by kernel_rfl)]; exact laidMet_laidAll _ (by kernel_rfl) (by kernel_rfl))) ?_
  intro W base args ds gs before hval0 hW _ _ hL _
  rw [MakeChecks.laidMetH_plain _ _ _ (by kernel_rfl)] at hL
  refine law_calls (ti := tab) (T := [3, 5, 30, 32]) tab_ok (by kernel_rfl) (ts := [32, 32]) (bt := 4) rfl rfl rfl (by kernel_rfl) (by decide) ?_ (by kernel_rfl) trace_conflict_reads trace_conflict_trip (trace_conflict_inv hL) hval0 hW
  intro ds h
  match ds, h with
  | [_, _], _ => exact ⟨rfl, rfl, rfl⟩
theorem trace_conflict_row : Rows.TraceConflictSaid :=
  OpenClaim.holds_of_wide 9 Tryd.f9 rfl rfl rfl rfl rfl rfl rfl ⟨rfl, rfl, rfl, rfl, rfl⟩ rfl rfl rfl rfl rfl (by kernel_rfl) Tryd.func9 (by kernel_rfl)
    (of_decide_eq_true (by kernel_rfl)) (by unfold Func.isWrapper; first | (rw [if_pos (by decide +kernel)]; kernel_rfl) | (rw [if_neg (by decide +kernel)]; exact ⟨rfl, rfl⟩))
    (fun os started H enc _ => trace_conflict_lifted os started H enc)
theorem trace_conflict : Rows.TraceConflictCardSaid :=
  Claim7.holds_tied_plain_at .later [] [.data, .data, .data] true Rows.traceConflictCard.stood.harness false trace_conflict_row (fun _ h => by cases h) (by kernel_rfl) (fun _ h => by cases h) traceConflict_row_tie rfl ⟨rfl, rfl⟩ (by kernel_rfl) rfl
    (fun f fn hf hfn => by
      obtain rfl : f = 9 := Option.some.inj ((show Tryd.prog.funcNamed "weftway/weftwaylaw25.TraceConflict" = some 9 by kernel_rfl).symm.trans hf) |>.symm
      obtain rfl : fn = Tryd.f9 := (Option.some.inj (Tryd.func9.symm.trans hfn)).symm
      exact ⟨by kernel_rfl, fun j t ht => by
        have hm : t ∈ [32, 32] := by
          have hp : Tryd.f9.params.toList = [32, 32] := rfl
          rw [← hp]; simpa using Array.mem_of_getElem? ht
        have hall : ([32, 32].all fun u => !Tryd.prog.wantsStandIn u) = true := by kernel_rfl
        exact (show Tryd.prog.wantsStandIn t = false by simpa using List.all_eq_true.1 hall t hm)⟩)
    (by kernel_rfl)
end Go.Proofs.YtjobleemmjjocaaDoor
