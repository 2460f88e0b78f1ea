/- Laws of chapter 25: contracts of the functions, the plain laws, the cards. No condition. (Part 6: YtjobleemmjjocaaDoorX45, YtjobleemmjjocaaDoorX24, YtjobleemmjjocaaDoorX4, TrF, TrFh, TrZ.) -/
import Derived.Lib.ItoaLen
import Derived.Test.YtjobleemmjjocaaDoorRows
import Derived.Test.YtjobleemmjjocaaDoorTie
import Derived.Test.YtjobleemmjjocaaDoorCards
import Derived.ChangeSame
import Derived.JoinedOf
import Derived.JoinedAt
import Derived.RowKit
import Derived.RowKit2
import Derived.ReadAgain
import Derived.ChangeAlike
import Derived.Lay
import Derived.Handed
import Derived.LaidSub
import Derived.LaidLaws
import Derived.LaidHandle
import Derived.MakeChecks
import Derived.SevenTiedAt
import Derived.Lib.LaidTab
import Derived.Lib.LaidU8
import Derived.Test.YtjobleemmjjocaaDoorTraE
set_option linter.unusedVariables false
set_option linter.unusedSimpArgs false
/- Printed by lift.py: functional texts of functions, and their contracts. No condition. -/
set_option linter.unusedVariables false
noncomputable section
namespace Go.Proofs.YtjobleemmjjocaaDoor
open Go Go.AM
mutual
def L45_1 : Nat → Int → Bool → Option (ByteArray)
  | 0, _, _ => none
  | n + 1, z1, b2 =>
    (if b2 = true then letF (IntKind.wrap .i64 (48 - z1)) fun z3 => letF (IntKind.wrap .u8 z3) fun z4 => strF ([.int .u8 z4]) fun s5 => catF k___3 s5 fun s6 => some s6 else (if z1 < (0 : Int) then L45_2 n z1 true else L45_2 n z1 false))
def L45_2 : Nat → Int → Bool → Option (ByteArray)
  | 0, _, _ => none
  | n + 1, z1, b7 =>
    (if b7 = true then needF ((10 : Int) ≠ 0) (letF (IntKind.wrap .i64 (Int.tdiv z1 10)) fun z8 => bO1 (F45 n z8) fun s9 => needF ((10 : Int) ≠ 0) (letF (Int.tmod z1 10) fun z10 => letF (IntKind.wrap .i64 (48 - z10)) fun z11 => letF (IntKind.wrap .u8 z11) fun z12 => strF ([.int .u8 z12]) fun s13 => catF s9 s13 fun s14 => some s14)) else (if z1 < (10 : Int) then L45_3 n z1 true else L45_3 n z1 false))
def L45_3 : Nat → Int → Bool → Option (ByteArray)
  | 0, _, _ => none
  | n + 1, z1, b15 =>
    (if b15 = true then letF (IntKind.wrap .i64 (48 + z1)) fun z16 => letF (IntKind.wrap .u8 z16) fun z17 => strF ([.int .u8 z17]) fun s18 => some s18 else needF ((10 : Int) ≠ 0) (letF (IntKind.wrap .i64 (Int.tdiv z1 10)) fun z19 => bO1 (F45 n z19) fun s20 => needF ((10 : Int) ≠ 0) (letF (Int.tmod z1 10) fun z21 => letF (IntKind.wrap .i64 (48 + z21)) fun z22 => letF (IntKind.wrap .u8 z22) fun z23 => strF ([.int .u8 z23]) fun s24 => catF s20 s24 fun s25 => some s25)))
def F45 : Nat → Int → Option (ByteArray)
  | 0, _ => none
  | n + 1, z1 =>
    (if z1 < (0 : Int) then (if (-10 : Int) < z1 then L45_1 n z1 true else L45_1 n z1 false) else L45_1 n z1 false)
end
set_option maxRecDepth 100000 in
set_option maxHeartbeats 40000000 in
theorem T45 (n : Nat) : ∀ ⦃z1 : Int⦄ ⦃r1 : ByteArray⦄, F45 n z1 = some r1 →
    Trip Tryd.prog inv 45 [.d (.int .i64 z1)] [] (.v (.d (.str r1))) [] [] := by
  induction n using Nat.strongRecOn with
  | _ n ih =>
    cases n with
    | zero =>
      intro z1 r1 h
      cases (show (none : Option _) = some _ from h)
    | succ n =>
      intro z1 r1 h
      rw [F45] at h
      refine Trip.of tab_ok tab_one fol Tryd.func45 rfl (by kernel_rfl) rfl rfl rfl (fun M hM hI => ?_)
      try cbv
      refine seq_go ?_
      try cbv
      refine seq_go ?_
      try cbv
      refine seq_join (T := Nat × Bool) (fun t => ⟨[(0, .v (.d (.int .i64 z1))), (2, .v (.d (.str ByteArray.empty))), (8, .v (.d (.bool t.2)))], [], 224⟩) (fun t => t.1 ≤ n ∧ L45_1 t.1 z1 t.2 = some r1) ?_ ?_
      · try cbv
        refine splitL (fun e => ?_) (fun e => ?_)
        · replace h := ite_t e h
          clear e
          try cbv
          refine splitL (fun e => ?_) (fun e => ?_)
          · replace h := ite_t e h
            clear e
            try cbv
            exact join_next (n, true) [0, 2, 8] [] 224 ⟨by omega, h⟩ (by cbv)
          · replace h := ite_f (Int.not_lt.2 e) h
            clear e
            try cbv
            exact join_next (n, false) [0, 2, 8] [] 224 ⟨by omega, h⟩ (by cbv)
        · replace h := ite_f (Int.not_lt.2 e) h
          clear e
          try cbv
          exact join_next (n, false) [0, 2, 8] [] 224 ⟨by omega, h⟩ (by cbv)
      · clear h
        rintro ⟨m1, b2⟩ ⟨hm1, h⟩
        replace hm1 : m1 ≤ n := hm1
        cases m1 with
        | zero =>
          replace h : L45_1 0 z1 b2 = some r1 := h
          rw [L45_1] at h
          cases h
        | succ m1 =>
          replace h : L45_1 (m1 + 1) z1 b2 = some r1 := h
          rw [L45_1] at h
          try cbv
          cases b2
          · replace h := ite_f Bool.false_ne_true h
            try cbv
            refine seq_go ?_
            try cbv
            refine seq_join (T := Nat × Bool) (fun t => ⟨[(0, .v (.d (.int .i64 z1))), (2, .v (.d (.str ByteArray.empty))), (16, .v (.d (.bool t.2)))], [], 288⟩) (fun t => t.1 ≤ m1 ∧ L45_2 t.1 z1 t.2 = some r1) ?_ ?_
            · try cbv
              refine splitL (fun e => ?_) (fun e => ?_)
              · replace h := ite_t e h
                clear e
                try cbv
                exact join_next (m1, true) [0, 2, 16] [] 288 ⟨by omega, h⟩ (by cbv)
              · replace h := ite_f (Int.not_lt.2 e) h
                clear e
                try cbv
                exact join_next (m1, false) [0, 2, 16] [] 288 ⟨by omega, h⟩ (by cbv)
            · clear h
              rintro ⟨m2, b7⟩ ⟨hm2, h⟩
              replace hm2 : m2 ≤ m1 := hm2
              cases m2 with
              | zero =>
                replace h : L45_2 0 z1 b7 = some r1 := h
                rw [L45_2] at h
                cases h
              | succ m2 =>
                replace h : L45_2 (m2 + 1) z1 b7 = some r1 := h
                rw [L45_2] at h
                try cbv
                cases b7
                · replace h := ite_f Bool.false_ne_true h
                  try cbv
                  refine seq_go ?_
                  try cbv
                  refine seq_join (T := Nat × Bool) (fun t => ⟨[(0, .v (.d (.int .i64 z1))), (2, .v (.d (.str ByteArray.empty))), (28, .v (.d (.bool t.2)))], [], 352⟩) (fun t => t.1 ≤ m2 ∧ L45_3 t.1 z1 t.2 = some r1) ?_ ?_
                  · try cbv
                    refine splitL (fun e => ?_) (fun e => ?_)
                    · replace h := ite_t e h
                      clear e
                      try cbv
                      exact join_next (m2, true) [0, 2, 28] [] 352 ⟨by omega, h⟩ (by cbv)
                    · replace h := ite_f (Int.not_lt.2 e) h
                      clear e
                      try cbv
                      exact join_next (m2, false) [0, 2, 28] [] 352 ⟨by omega, h⟩ (by cbv)
                  · clear h
                    rintro ⟨m3, b15⟩ ⟨hm3, h⟩
                    replace hm3 : m3 ≤ m2 := hm3
                    cases m3 with
                    | zero =>
                      replace h : L45_3 0 z1 b15 = some r1 := h
                      rw [L45_3] at h
                      cases h
                    | succ m3 =>
                      replace h : L45_3 (m3 + 1) z1 b15 = some r1 := h
                      rw [L45_3] at h
                      try cbv
                      cases b15
                      · replace h := ite_f Bool.false_ne_true h
                        try cbv
                        refine seq_go ?_
                        try cbv
                        replace h := needF_inv h
                        obtain ⟨hn, h⟩ := h
                        replace h := letF_inv h
                        obtain ⟨z19, hz, h⟩ := h
                        refine ⟨z19, hn, hz, ?_⟩
                        clear hn hz
                        try cbv
                        replace h := bO1_inv h
                        obtain ⟨s20, hr, h⟩ := h
                        first | refine .inr ⟨[], ?_⟩ | refine ⟨[], ?_⟩
                        try cbv
                        refine call_pure hM hI ((ih _ (by omega)) hr) rfl ?_
                        clear hr
                        try cbv
                        replace h := needF_inv h
                        obtain ⟨hn, h⟩ := h
                        replace h := letF_inv h
                        obtain ⟨z21, hz, h⟩ := h
                        refine ⟨z21, hn, hz, ?_⟩
                        clear hn hz
                        try cbv
                        replace h := letF_inv h
                        obtain ⟨z22, hz, h⟩ := h
                        refine ⟨z22, hz, ?_⟩
                        clear hz
                        try cbv
                        replace h := letF_inv h
                        obtain ⟨z23, hz, h⟩ := h
                        refine ⟨z23, hz, ?_⟩
                        clear hz
                        try cbv
                        refine ⟨false, ?_⟩
                        try cbv
                        refine ⟨true, ?_⟩
                        try cbv
                        replace h := strF_inv h
                        obtain ⟨ns, s24, hz, hy, h⟩ := h
                        refine ⟨ns, (M.lock_iff _).2 hz, s24, hy, ?_⟩
                        clear hz hy ns
                        try cbv
                        replace h := catF_inv h
                        obtain ⟨s25, hz, hb, h⟩ := h
                        refine ⟨s25, hz, hb, ?_⟩
                        clear hb hz
                        try cbv
                        refine drawn ?_ ?_
                        · show _ = true
                          kernel_rfl
                        try cbv
                        obtain rfl := Option.some.inj h
                        refine fin_go ?_
                        try cbv
                        exact ⟨[], rfl, rfl, trivial, trivial, trivial⟩
                      · replace h := ite_t rfl h
                        try cbv
                        refine seq_go ?_
                        try cbv
                        replace h := letF_inv h
                        obtain ⟨z16, hz, h⟩ := h
                        refine ⟨z16, hz, ?_⟩
                        clear hz
                        try cbv
                        replace h := letF_inv h
                        obtain ⟨z17, hz, h⟩ := h
                        refine ⟨z17, hz, ?_⟩
                        clear hz
                        try cbv
                        refine ⟨false, ?_⟩
                        try cbv
                        refine ⟨true, ?_⟩
                        try cbv
                        replace h := strF_inv h
                        obtain ⟨ns, s18, hz, hy, h⟩ := h
                        refine ⟨ns, (M.lock_iff _).2 hz, s18, hy, ?_⟩
                        clear hz hy ns
                        try cbv
                        obtain rfl := Option.some.inj h
                        refine fin_go ?_
                        try cbv
                        exact ⟨[], rfl, rfl, trivial, trivial, trivial⟩
                · replace h := ite_t rfl h
                  try cbv
                  refine seq_go ?_
                  try cbv
                  replace h := needF_inv h
                  obtain ⟨hn, h⟩ := h
                  replace h := letF_inv h
                  obtain ⟨z8, hz, h⟩ := h
                  refine ⟨z8, hn, hz, ?_⟩
                  clear hn hz
                  try cbv
                  replace h := bO1_inv h
                  obtain ⟨s9, hr, h⟩ := h
                  first | refine .inr ⟨[], ?_⟩ | refine ⟨[], ?_⟩
                  try cbv
                  refine call_pure hM hI ((ih _ (by omega)) hr) rfl ?_
                  clear hr
                  try cbv
                  replace h := needF_inv h
                  obtain ⟨hn, h⟩ := h
                  replace h := letF_inv h
                  obtain ⟨z10, hz, h⟩ := h
                  refine ⟨z10, hn, hz, ?_⟩
                  clear hn hz
                  try cbv
                  replace h := letF_inv h
                  obtain ⟨z11, hz, h⟩ := h
                  refine ⟨z11, hz, ?_⟩
                  clear hz
                  try cbv
                  replace h := letF_inv h
                  obtain ⟨z12, hz, h⟩ := h
                  refine ⟨z12, hz, ?_⟩
                  clear hz
                  try cbv
                  refine ⟨false, ?_⟩
                  try cbv
                  refine ⟨true, ?_⟩
                  try cbv
                  replace h := strF_inv h
                  obtain ⟨ns, s13, hz, hy, h⟩ := h
                  refine ⟨ns, (M.lock_iff _).2 hz, s13, hy, ?_⟩
                  clear hz hy ns
                  try cbv
                  replace h := catF_inv h
                  obtain ⟨s14, hz, hb, h⟩ := h
                  refine ⟨s14, hz, hb, ?_⟩
                  clear hb hz
                  try cbv
                  refine drawn ?_ ?_
                  · show _ = true
                    kernel_rfl
                  try cbv
                  obtain rfl := Option.some.inj h
                  refine fin_go ?_
                  try cbv
                  exact ⟨[], rfl, rfl, trivial, trivial, trivial⟩
          · replace h := ite_t rfl h
            try cbv
            refine seq_go ?_
            try cbv
            replace h := letF_inv h
            obtain ⟨z3, hz, h⟩ := h
            refine ⟨z3, hz, ?_⟩
            clear hz
            try cbv
            replace h := letF_inv h
            obtain ⟨z4, hz, h⟩ := h
            refine ⟨z4, hz, ?_⟩
            clear hz
            try cbv
            refine ⟨false, ?_⟩
            try cbv
            refine ⟨true, ?_⟩
            try cbv
            replace h := strF_inv h
            obtain ⟨ns, s5, hz, hy, h⟩ := h
            refine ⟨ns, (M.lock_iff _).2 hz, s5, hy, ?_⟩
            clear hz hy ns
            try cbv
            replace h := catF_inv h
            obtain ⟨s6, hz, hb, h⟩ := h
            refine ⟨s6, hz, hb, ?_⟩
            clear hb hz
            try cbv
            obtain rfl := Option.some.inj h
            refine fin_go ?_
            try cbv
            exact ⟨[], rfl, rfl, trivial, trivial, trivial⟩
end Go.Proofs.YtjobleemmjjocaaDoor
end

/- Printed by lift.py: functional texts of functions, and their contracts. No condition. -/
set_option linter.unusedVariables false
noncomputable section
namespace Go.Proofs.YtjobleemmjjocaaDoor
open Go Go.AM
mutual
def L24_3 : Nat → (List D) → ByteArray → Int → Option (ByteArray)
  | 0, _, _, _ => none
  | n + 1, l4, s16, z17 =>
    lenF l4 fun z18 => (if z17 < z18 then L24_4 n l4 s16 z17 true else L24_4 n l4 s16 z17 false)
def L24_4 : Nat → (List D) → ByteArray → Int → Bool → Option (ByteArray)
  | 0, _, _, _, _ => none
  | n + 1, l4, s16, z17, b19 =>
    (if b19 = true then catF s16 k___2 fun s20 => getF l4 z17 fun x21 => ds_i64 x21 fun z22 => bO1 (F45 n z22) fun s23 => catF s20 s23 fun s24 => letF (IntKind.wrap .i64 (z17 + 1)) fun z25 => L24_3 n l4 s24 z25 else some s16)
end
def L24_2 : Nat → Int → Int → (List D) → ByteArray → Option (ByteArray)
  | 0, _, _, _, _ => none
  | n + 1, z2, z3, l4, s9 =>
    bO1 (F45 n z2) fun s10 => catF s10 k___1 fun s11 => catF s11 s9 fun s12 => catF s12 k___1 fun s13 => bO1 (F45 n z3) fun s14 => catF s13 s14 fun s15 => L24_3 n l4 s15 (0 : Int)
def L24_1 : Nat → Int → Int → Int → (List D) → Bool → Option (ByteArray)
  | 0, _, _, _, _, _ => none
  | n + 1, z1, z2, z3, l4, b6 =>
    (if b6 = true then getF ([.str k__, .str k_read, .str k_write, .str k_free, .str k_atomic, .str k_acquire, .str k_release, .str k_spawn, .str k_join, .str k_end]) z1 fun x7 => ds_str x7 fun s8 => L24_2 n z2 z3 l4 s8 else L24_2 n z2 z3 l4 k__)
def F24 (n : Nat) (z1 : Int) (z2 : Int) (z3 : Int) (l4 : List D) : Option (ByteArray) :=
  letF (IntKind.wrap .i64 z1) fun z5 => (if z5 < (10 : Int) then L24_1 n z1 z2 z3 l4 true else L24_1 n z1 z2 z3 l4 false)
set_option maxRecDepth 100000 in
set_option maxHeartbeats 40000000 in
theorem T24 (n : Nat) : ∀ ⦃z1 : Int⦄ ⦃z2 : Int⦄ ⦃z3 : Int⦄ ⦃l4 : List D⦄ ⦃r1 : ByteArray⦄, F24 n z1 z2 z3 l4 = some r1 →
    Trip Tryd.prog inv 24 [.d (.agg [.int .u8 z1, .int .i64 z2, .int .i64 z3, .list false 1 l4])] [] (.v (.d (.str r1))) [] [] := by
  intro z1 z2 z3 l4 r1 h
  unfold F24 at h
  refine Trip.of tab_ok tab_one fol Tryd.func24 rfl (by kernel_rfl) rfl rfl rfl (fun M hM hI => ?_)
  try cbv
  refine seq_go ?_
  try cbv
  refine seq_go ?_
  try cbv
  refine ⟨false, ?_⟩
  try cbv
  refine ⟨true, ?_⟩
  try cbv
  refine seq_go ?_
  try cbv
  refine seq_join (T := Nat × ByteArray) (fun t => ⟨[(1, .v (.c (.ptr (.loc 0) 0))), (2, .v (.d (.str ByteArray.empty))), (4, .v (.d (.str t.2)))], [(.loc 0, .cells [.d (.int .u8 z1), .d (.int .i64 z2), .d (.int .i64 z3), .d (.list false 1 l4)])], 544⟩) (fun t => t.1 ≤ n ∧ L24_2 t.1 z2 z3 l4 t.2 = some r1) ?_ ?_
  · try cbv
    refine seq_join (T := Nat × Bool) (fun t => ⟨[(1, .v (.c (.ptr (.loc 0) 0))), (2, .v (.d (.str ByteArray.empty))), (3, .v (.c (.tl false 1 ([.str k__, .str k_read, .str k_write, .str k_free, .str k_atomic, .str k_acquire, .str k_release, .str k_spawn, .str k_join, .str k_end])))), (4, .v (.d (.str k__))), (12, .v (.d (.bool t.2)))], [(.loc 0, .cells [.d (.int .u8 z1), .d (.int .i64 z2), .d (.int .i64 z3), .d (.list false 1 l4)])], 352⟩) (fun t => t.1 ≤ n ∧ L24_1 t.1 z1 z2 z3 l4 t.2 = some r1) ?_ ?_
    · try cbv
      replace h := letF_inv h
      obtain ⟨z5, hz, h⟩ := h
      refine ⟨z5, hz, ?_⟩
      clear hz
      try cbv
      refine ⟨10, (M.lenI_eq _).trans rfl, ?_⟩
      try cbv
      refine splitL (fun e => ?_) (fun e => ?_)
      · replace h := ite_t e h
        clear e
        try cbv
        exact join_next (n, true) [1, 2, 3, 4, 12] [.loc 0] 352 ⟨by omega, h⟩ (by cbv)
      · replace h := ite_f (Int.not_lt.2 e) h
        clear e
        try cbv
        exact join_next (n, false) [1, 2, 3, 4, 12] [.loc 0] 352 ⟨by omega, h⟩ (by cbv)
    · clear h
      rintro ⟨m1, b6⟩ ⟨hm1, h⟩
      replace hm1 : m1 ≤ n := hm1
      cases m1 with
      | zero =>
        replace h : L24_1 0 z1 z2 z3 l4 b6 = some r1 := h
        rw [L24_1] at h
        cases h
      | succ m1 =>
        replace h : L24_1 (m1 + 1) z1 z2 z3 l4 b6 = some r1 := h
        rw [L24_1] at h
        try cbv
        cases b6
        · replace h := ite_f Bool.false_ne_true h
          try cbv
          exact join_next (m1, k__) [1, 2, 4] [.loc 0] 544 ⟨by omega, h⟩ (by cbv)
        · replace h := ite_t rfl h
          try cbv
          replace h := getF_inv h
          obtain ⟨x7, ⟨hx0, hx⟩, h⟩ := h
          refine ⟨x7, hx0, hx, ?_⟩
          clear hx0 hx
          replace h := ds_str_inv h
          obtain ⟨s8, rfl, h⟩ := h
          try cbv
          exact join_next (m1, s8) [1, 2, 4] [.loc 0] 544 ⟨by omega, h⟩ (by cbv)
  · clear h
    rintro ⟨m2, s9⟩ ⟨hm2, h⟩
    replace hm2 : m2 ≤ n := hm2
    cases m2 with
    | zero =>
      replace h : L24_2 0 z2 z3 l4 s9 = some r1 := h
      rw [L24_2] at h
      cases h
    | succ m2 =>
      replace h : L24_2 (m2 + 1) z2 z3 l4 s9 = some r1 := h
      rw [L24_2] at h
      try cbv
      refine seq_go ?_
      try cbv
      replace h := bO1_inv h
      obtain ⟨s10, hr, h⟩ := h
      first | refine .inr ⟨[], ?_⟩ | refine ⟨[], ?_⟩
      try cbv
      refine call_pure hM hI (T45 _ hr) rfl ?_
      clear hr
      try cbv
      replace h := catF_inv h
      obtain ⟨s11, hz, hb, h⟩ := h
      refine ⟨s11, hz, hb, ?_⟩
      clear hb hz
      try cbv
      replace h := catF_inv h
      obtain ⟨s12, hz, hb, h⟩ := h
      refine ⟨s12, hz, hb, ?_⟩
      clear hb hz
      try cbv
      replace h := catF_inv h
      obtain ⟨s13, hz, hb, h⟩ := h
      refine ⟨s13, hz, hb, ?_⟩
      clear hb hz
      try cbv
      replace h := bO1_inv h
      obtain ⟨s14, hr, h⟩ := h
      first | refine .inr ⟨[], ?_⟩ | refine ⟨[], ?_⟩
      try cbv
      refine call_pure hM hI (T45 _ hr) rfl ?_
      clear hr
      try cbv
      replace h := catF_inv h
      obtain ⟨s15, hz, hb, h⟩ := h
      refine ⟨s15, hz, hb, ?_⟩
      clear hb hz
      try cbv
      refine drawn ?_ ?_
      · show _ = true
        kernel_rfl
      try cbv
      refine seq_go ?_
      try cbv
      refine seq_go ?_
      try cbv
      refine loop_inv (T := Nat × ByteArray × Int) [1, 2, 4, 5] [.loc 0] 960 (fun t => ⟨[(1, .v (.c (.ptr (.loc 0) 0))), (2, .v (.d (.str ByteArray.empty))), (4, .v (.d (.str t.2.1))), (5, .v (.d (.int .i64 t.2.2)))], [(.loc 0, .cells [.d (.int .u8 z1), .d (.int .i64 z2), .d (.int .i64 z3), .d (.list false 1 l4)])], 960⟩)
        (fun t => t.1 ≤ m2 ∧ L24_3 t.1 l4 t.2.1 t.2.2 = some r1) (fun t => t.1) (m2, (s15, (0 : Int))) ⟨Nat.le_refl _, h⟩ (by cbv) ?_
      clear h
      rintro ⟨m3, s16, z17⟩ ⟨hm3, h⟩
      replace hm3 : m3 ≤ m2 := hm3
      cases m3 with
      | zero =>
        replace h : L24_3 0 l4 s16 z17 = some r1 := h
        rw [L24_3] at h
        cases h
      | succ m3 =>
        replace h : L24_3 (m3 + 1) l4 s16 z17 = some r1 := h
        rw [L24_3] at h
        try cbv
        refine seq_go ?_
        try cbv
        refine seq_join (T := Nat × Bool) (fun t => ⟨[(1, .v (.c (.ptr (.loc 0) 0))), (2, .v (.d (.str ByteArray.empty))), (4, .v (.d (.str s16))), (5, .v (.d (.int .i64 z17))), (33, .v (.d (.bool t.2)))], [(.loc 0, .cells [.d (.int .u8 z1), .d (.int .i64 z2), .d (.int .i64 z3), .d (.list false 1 l4)])], 1120⟩) (fun t => t.1 ≤ m3 ∧ L24_4 t.1 l4 s16 z17 t.2 = some r1) ?_ ?_
        · try cbv
          replace h := lenF_inv M h
          obtain ⟨z18, hz, h⟩ := h
          refine ⟨z18, hz, ?_⟩
          clear hz
          try cbv
          refine splitL (fun e => ?_) (fun e => ?_)
          · replace h := ite_t e h
            clear e
            try cbv
            exact join_next (m3, true) [1, 2, 4, 5, 33] [.loc 0] 1120 ⟨by omega, h⟩ (by cbv)
          · replace h := ite_f (Int.not_lt.2 e) h
            clear e
            try cbv
            exact join_next (m3, false) [1, 2, 4, 5, 33] [.loc 0] 1120 ⟨by omega, h⟩ (by cbv)
        · clear h
          rintro ⟨m4, b19⟩ ⟨hm4, h⟩
          replace hm4 : m4 ≤ m3 := hm4
          cases m4 with
          | zero =>
            replace h : L24_4 0 l4 s16 z17 b19 = some r1 := h
            rw [L24_4] at h
            cases h
          | succ m4 =>
            replace h : L24_4 (m4 + 1) l4 s16 z17 b19 = some r1 := h
            rw [L24_4] at h
            try cbv
            cases b19
            · replace h := ite_f Bool.false_ne_true h
              try cbv
              refine seq_go ?_
              try cbv
              obtain rfl := Option.some.inj h
              refine fin_go ?_
              try cbv
              exact ⟨[], rfl, rfl, trivial, trivial, trivial⟩
            · replace h := ite_t rfl h
              try cbv
              refine seq_go ?_
              try cbv
              replace h := catF_inv h
              obtain ⟨s20, hz, hb, h⟩ := h
              refine ⟨s20, hz, hb, ?_⟩
              clear hb hz
              try cbv
              replace h := getF_inv h
              obtain ⟨x21, ⟨hx0, hx⟩, h⟩ := h
              refine ⟨x21, hx0, hx, ?_⟩
              clear hx0 hx
              replace h := ds_i64_inv h
              obtain ⟨z22, rfl, h⟩ := h
              try cbv
              replace h := bO1_inv h
              obtain ⟨s23, hr, h⟩ := h
              refine call_go rfl rfl ?_
              try cbv
              refine call_pure hM hI (T45 _ hr) rfl ?_
              clear hr
              try cbv
              replace h := catF_inv h
              obtain ⟨s24, hz, hb, h⟩ := h
              refine ⟨s24, hz, hb, ?_⟩
              clear hb hz
              try cbv
              replace h := letF_inv h
              obtain ⟨z25, hz, h⟩ := h
              refine ⟨z25, hz, ?_⟩
              clear hz
              try cbv
              exact loop_next (m4, (s24, z25)) [1, 2, 4, 5] [.loc 0] 960 ⟨by omega, h⟩ (Nat.lt_succ_of_le (by omega)) (by cbv)
end Go.Proofs.YtjobleemmjjocaaDoor
end

/- Printed by lift.py: functional texts of functions, and their contracts. No condition. -/
set_option linter.unusedVariables false
noncomputable section
namespace Go.Proofs.YtjobleemmjjocaaDoor
open Go Go.AM
def F4 (n : Nat) (z1 : Int) (z2 : Int) (z3 : Int) (l4 : List D) : Option (Bool) :=
  bO1 (F17 n ([.agg [.int .u8 z1, .int .i64 z2, .int .i64 z3, .list false 1 l4]])) fun b5 => (if b5 = true then some true else bO1 (F23 n z1 z2 z3 l4) fun s6 => bO1 (F24 n z1 z2 z3 l4) fun s7 => (if s6 = s7 then bO1 (F22 n) fun b8 => some b8 else some false))
set_option maxRecDepth 100000 in
set_option maxHeartbeats 40000000 in
theorem T4 (n : Nat) : ∀ ⦃z1 : Int⦄ ⦃z2 : Int⦄ ⦃z3 : Int⦄ ⦃l4 : List D⦄ ⦃r1 : Bool⦄, F4 n z1 z2 z3 l4 = some r1 →
    Trip Tryd.prog inv 4 [.d (.agg [.int .u8 z1, .int .i64 z2, .int .i64 z3, .list false 1 l4])] [] (.v (.d (.bool r1))) [] [] := by
  intro z1 z2 z3 l4 r1 h
  unfold F4 at h
  refine Trip.of tab_ok tab_one fol Tryd.func4 rfl (by kernel_rfl) rfl rfl rfl (fun M hM hI => ?_)
  try cbv
  refine seq_go ?_
  try cbv
  refine seq_go ?_
  try cbv
  refine seq_go ?_
  try cbv
  refine ⟨false, ?_⟩
  try cbv
  refine ⟨true, ?_⟩
  try cbv
  replace h := bO1_inv h
  obtain ⟨b5, hr, h⟩ := h
  refine call_go rfl rfl ?_
  try cbv
  refine call_pure hM hI (T17 _ hr) rfl ?_
  clear hr
  try cbv
  cases b5
  · replace h := ite_f Bool.false_ne_true h
    try cbv
    refine seq_go ?_
    try cbv
    replace h := bO1_inv h
    obtain ⟨s6, hr, h⟩ := h
    first | refine .inr ⟨[], ?_⟩ | refine ⟨[], ?_⟩
    try cbv
    refine call_pure hM hI (T23 _ hr) rfl ?_
    clear hr
    try cbv
    replace h := bO1_inv h
    obtain ⟨s7, hr, h⟩ := h
    first | refine .inr ⟨[], ?_⟩ | refine ⟨[], ?_⟩
    try cbv
    refine call_pure hM hI (T24 _ hr) rfl ?_
    clear hr
    try cbv
    refine splitS (fun e => ?_) (fun e => ?_)
    · replace h := ite_t (bytes_eq.1 e) h
      clear e
      try cbv
      replace h := bO1_inv h
      obtain ⟨b8, hr, h⟩ := h
      first | refine .inr ⟨[], ?_⟩ | refine ⟨[], ?_⟩
      try cbv
      refine call_pure hM hI (T22 _ hr) rfl ?_
      clear hr
      try cbv
      refine drawn ?_ ?_
      · show _ = true
        kernel_rfl
      try cbv
      obtain rfl := Option.some.inj h
      refine fin_go ?_
      try cbv
      exact ⟨[], rfl, rfl, trivial, trivial, trivial⟩
    · replace h := ite_f (bytes_ne.1 e) h
      clear e
      try cbv
      refine drawn ?_ ?_
      · show _ = true
        kernel_rfl
      try cbv
      obtain rfl := Option.some.inj h
      refine fin_go ?_
      try cbv
      exact ⟨[], rfl, rfl, trivial, trivial, trivial⟩
  · replace h := ite_t rfl h
    try cbv
    refine seq_go ?_
    try cbv
    obtain rfl := Option.some.inj h
    refine fin_go ?_
    try cbv
    exact ⟨[], rfl, rfl, trivial, trivial, trivial⟩
end Go.Proofs.YtjobleemmjjocaaDoor
end

/- Chapter 25, the plain law, part F: an event's text. No condition. -/
set_option linter.unusedVariables false
noncomputable section
namespace Go.Proofs.YtjobleemmjjocaaDoor
open Go Go.AM

theorem catF_ok {γ : Type} {s t : ByteArray} {k : ByteArray → Option γ} (h : ((s.size + t.size : Nat) : Int) ≤ 9223372036854775807) : catF s t k = k (s ++ t) := by
  unfold catF
  rw [if_pos]
  exact h
theorem strF1 {γ : Type} (z : Int) (k : ByteArray → Option γ) : strF [.int .u8 z] k = k ⟨#[UInt8.ofNat z.toNat]⟩ := id rfl
theorem bO1s {α γ : Type} (a : α) (k : α → Option γ) : bO1 (some a) k = k a := id rfl
theorem letE {γ : Type} (z : Int) (k : Int → Option γ) : letF z k = k z := id rfl
theorem lenE {γ : Type} (l : List D) (k : Int → Option γ) : lenF l k = k l.length := id rfl
theorem itoaB_size {z : Int} (h : -9223372036854775808 ≤ z ∧ z ≤ 9223372036854775807) : (itoaB z).size ≤ 21 := by
  have := Lib.itoa_length_le z h.1 h.2
  show (Lib.itoa z).toArray.size ≤ 21
  simpa using this
theorem dec_small {u : Nat} (h : u < 10) : Lib.decDigits u = [UInt8.ofNat (48 + u)] := by rw [Lib.decDigits, dif_pos h]
theorem dec_big {u : Nat} (h : ¬ u < 10) : Lib.decDigits u = Lib.decDigits (u / 10) ++ [UInt8.ofNat (48 + u % 10)] := by rw [Lib.decDigits, dif_neg h]
theorem itoaB_nn (u : Nat) : itoaB (u : Int) = ⟨(Lib.decDigits u).toArray⟩ := by unfold itoaB; rw [Lib.itoa_nonneg]
theorem itoaB_ng {u : Nat} (h : 1 ≤ u) : itoaB (-(u : Int)) = ⟨(45 :: Lib.decDigits u).toArray⟩ := by unfold itoaB; rw [Lib.itoa_neg u h]
theorem cat_one (l : List UInt8) (b : UInt8) : (⟨l.toArray⟩ : ByteArray) ++ ⟨#[b]⟩ = ⟨(l ++ [b]).toArray⟩ := by
  apply ByteArray.ext
  rw [ByteArray.data_append]
  simp
theorem wu8 {z : Int} (h : 0 ≤ z ∧ z < 256) : IntKind.u8.wrap z = z := by rw [IntKind.wrap_u8]; omega

theorem ev45n : ∀ (u : Nat), (u : Int) ≤ 9223372036854775807 → Ev (fun n => F45 n (u : Int)) (itoaB u) := by
  intro u
  induction u using Nat.strongRecOn with
  | _ u ih =>
    intro hu
    refine Ev.succ ?_
    simp only [F45, if_neg (show ¬ (u : Int) < 0 by omega)]
    refine Ev.succ ?_
    simp only [L45_1, Bool.false_eq_true, if_false, if_neg (show ¬ (u : Int) < 0 by omega)]
    by_cases c : u < 10
    · refine Ev.succ ?_
      simp only [L45_2, Bool.false_eq_true, if_false, if_pos (show (u : Int) < 10 by omega)]
      refine Ev.succ ?_
      simp only [L45_3, if_true, letE, strF1]
      rw [IntWalk.i64_in _ (by omega), wu8 (by omega), itoaB_nn, dec_small c, show ((48 : Int) + u).toNat = 48 + u by omega]
      exact Ev.ret
    · refine Ev.succ ?_
      simp only [L45_2, Bool.false_eq_true, if_false, if_neg (show ¬ (u : Int) < 10 by omega)]
      refine Ev.succ ?_
      have e1 : Int.tdiv (u : Int) 10 = ((u / 10 : Nat) : Int) := by rw [Int.tdiv_eq_ediv_of_nonneg (by omega)]; omega
      have e2 : Int.tmod (u : Int) 10 = ((u % 10 : Nat) : Int) := by rw [Int.tmod_eq_emod_of_nonneg (by omega)]; omega
      simp only [L45_3, Bool.false_eq_true, if_false, needF, if_pos (show (10 : Int) ≠ 0 by decide), letE, e1, e2, strF1]
      rw [IntWalk.i64_in _ (show -9223372036854775808 ≤ ((u / 10 : Nat) : Int) ∧ ((u / 10 : Nat) : Int) ≤ 9223372036854775807 by omega)]
      refine Ev.bO1 (ih (u / 10) (by omega) (by omega)) ?_
      rw [IntWalk.i64_in _ (show -9223372036854775808 ≤ (48 : Int) + ((u % 10 : Nat) : Int) ∧ (48 : Int) + ((u % 10 : Nat) : Int) ≤ 9223372036854775807 by omega), wu8 (by omega), show ((48 : Int) + ((u % 10 : Nat) : Int)).toNat = 48 + u % 10 by omega]
      have hs := itoaB_size (z := ((u / 10 : Nat) : Int)) (by omega)
      have e : itoaB ((u / 10 : Nat) : Int) ++ ⟨#[UInt8.ofNat (48 + u % 10)]⟩ = itoaB (u : Int) := by
        rw [itoaB_nn, itoaB_nn, cat_one, ← dec_big c]
      have q : ∀ k : ByteArray → Option ByteArray, catF (itoaB ((u / 10 : Nat) : Int)) ⟨#[UInt8.ofNat (48 + u % 10)]⟩ k = k (itoaB ((u / 10 : Nat) : Int) ++ ⟨#[UInt8.ofNat (48 + u % 10)]⟩) := fun k => catF_ok (by
        have : (⟨#[UInt8.ofNat (48 + u % 10)]⟩ : ByteArray).size = 1 := rfl
        omega)
      simp only [q, e]
      exact Ev.ret

theorem ev45g : ∀ (u : Nat), 1 ≤ u → (u : Int) ≤ 9223372036854775808 → Ev (fun n => F45 n (-(u : Int))) (itoaB (-(u : Int))) := by
  intro u
  induction u using Nat.strongRecOn with
  | _ u ih =>
    intro h1 hu
    refine Ev.succ ?_
    by_cases c : u < 10
    · simp only [F45, if_pos (show -(u : Int) < 0 by omega), if_pos (show (-10 : Int) < -(u : Int) by omega)]
      refine Ev.succ ?_
      simp only [L45_1, if_true, letE, strF1]
      rw [IntWalk.i64_in _ (by omega), wu8 (by omega), itoaB_ng h1, dec_small c, show ((48 : Int) - -(u : Int)).toNat = 48 + u by omega]
      have q : ∀ k : ByteArray → Option ByteArray, catF k___3 ⟨#[UInt8.ofNat (48 + u)]⟩ k = k (k___3 ++ ⟨#[UInt8.ofNat (48 + u)]⟩) := fun k => catF_ok (by
        have : (⟨#[UInt8.ofNat (48 + u)]⟩ : ByteArray).size = 1 := rfl
        have : k___3.size = 1 := rfl
        omega)
      have e : k___3 ++ ⟨#[UInt8.ofNat (48 + u)]⟩ = ⟨(45 :: [UInt8.ofNat (48 + u)]).toArray⟩ := cat_one [45] _
      simp only [q, e]
      exact Ev.ret
    · simp only [F45, if_pos (show -(u : Int) < 0 by omega), if_neg (show ¬ (-10 : Int) < -(u : Int) by omega)]
      refine Ev.succ ?_
      simp only [L45_1, Bool.false_eq_true, if_false, if_pos (show -(u : Int) < 0 by omega)]
      refine Ev.succ ?_
      have e1 : Int.tdiv (-(u : Int)) 10 = -((u / 10 : Nat) : Int) := by rw [Int.neg_tdiv, Int.tdiv_eq_ediv_of_nonneg (by omega)]; omega
      have e2 : Int.tmod (-(u : Int)) 10 = -((u % 10 : Nat) : Int) := by rw [Int.neg_tmod, Int.tmod_eq_emod_of_nonneg (by omega)]; omega
      simp only [L45_2, if_true, needF, if_pos (show (10 : Int) ≠ 0 by decide), letE, e1, e2, strF1]
      rw [IntWalk.i64_in _ (show -9223372036854775808 ≤ -((u / 10 : Nat) : Int) ∧ -((u / 10 : Nat) : Int) ≤ 9223372036854775807 by omega)]
      refine Ev.bO1 (ih (u / 10) (by omega) (by omega) (by omega)) ?_
      rw [IntWalk.i64_in _ (show -9223372036854775808 ≤ (48 : Int) - -((u % 10 : Nat) : Int) ∧ (48 : Int) - -((u % 10 : Nat) : Int) ≤ 9223372036854775807 by omega), wu8 (by omega), show ((48 : Int) - -((u % 10 : Nat) : Int)).toNat = 48 + u % 10 by omega]
      have hs := itoaB_size (z := -((u / 10 : Nat) : Int)) (by omega)
      have e : itoaB (-((u / 10 : Nat) : Int)) ++ ⟨#[UInt8.ofNat (48 + u % 10)]⟩ = itoaB (-(u : Int)) := by
        rw [itoaB_ng (by omega), itoaB_ng h1, cat_one, dec_big c]; rfl
      have q : ∀ k : ByteArray → Option ByteArray, catF (itoaB (-((u / 10 : Nat) : Int))) ⟨#[UInt8.ofNat (48 + u % 10)]⟩ k = k (itoaB (-((u / 10 : Nat) : Int)) ++ ⟨#[UInt8.ofNat (48 + u % 10)]⟩) := fun k => catF_ok (by
        have : (⟨#[UInt8.ofNat (48 + u % 10)]⟩ : ByteArray).size = 1 := rfl
        omega)
      simp only [q, e]
      exact Ev.ret
theorem ev45 {z : Int} (h : -9223372036854775808 ≤ z ∧ z ≤ 9223372036854775807) : Ev (fun n => F45 n z) (itoaB z) := by
  by_cases c : z < 0
  · obtain ⟨u, rfl⟩ : ∃ u : Nat, z = -(u : Int) := ⟨z.natAbs, by omega⟩
    exact ev45g u (by omega) (by omega)
  · obtain ⟨u, rfl⟩ : ∃ u : Nat, z = u := ⟨z.toNat, by omega⟩
    exact ev45n u (by omega)
theorem e44 {z : Int} (h : -9223372036854775808 ≤ z ∧ z ≤ 9223372036854775807) (n : Nat) : F44 n z = some (itoaB z) := by unfold F44; rw [if_pos h]

theorem names {k : Int} (h0 : 0 ≤ k) (h : k < 10) : ∃ s : ByteArray, s.size ≤ 7 ∧
    (∀ K : D → Option ByteArray, getF [.agg [.str k__], .agg [.str k_read], .agg [.str k_write], .agg [.str k_free], .agg [.str k_atomic], .agg [.str k_acquire], .agg [.str k_release], .agg [.str k_spawn], .agg [.str k_join], .agg [.str k_end]] k K = K (.agg [.str s])) ∧
    (∀ K : D → Option ByteArray, getF ([.str k__, .str k_read, .str k_write, .str k_free, .str k_atomic, .str k_acquire, .str k_release, .str k_spawn, .str k_join, .str k_end]) k K = K (.str s)) := by
  have : k = 0 ∨ k = 1 ∨ k = 2 ∨ k = 3 ∨ k = 4 ∨ k = 5 ∨ k = 6 ∨ k = 7 ∨ k = 8 ∨ k = 9 := by omega
  rcases this with rfl | rfl | rfl | rfl | rfl | rfl | rfl | rfl | rfl | rfl <;> exact ⟨_, by decide, fun _ => rfl, fun _ => rfl⟩

theorem evText {L : List D} (hL : ListS tab 3 L) (h100 : L.length ≤ 100) {z2 z3 : Int} (h2 : -9223372036854775808 ≤ z2 ∧ z2 ≤ 9223372036854775807) (h3 : -9223372036854775808 ≤ z3 ∧ z3 ≤ 9223372036854775807) {s9 : ByteArray} (hs : s9.size ≤ 7) :
    ∃ r, Ev (fun n => L23_2 n z2 z3 L s9) r ∧ Ev (fun n => L24_2 n z2 z3 L s9) r := by
  have k1 : k___1.size = 1 := rfl
  have k2 : k___2.size = 1 := rfl
  have loop : ∀ i, i ≤ L.length → ∀ s : ByteArray, s.size ≤ 60 + 22 * i → ∃ r, Ev (fun n => L23_3 n L (L.length : Int) s (i : Int)) r ∧ Ev (fun n => L24_3 n L s (i : Int)) r := by
    refine down L.length (fun s hs => ⟨s, Ev.succ ?_, Ev.succ ?_⟩) (fun i hi ih s hs => ?_)
    · simp only [L23_3, Int.lt_irrefl, if_false]
      exact Ev.succ (by simp only [L23_4, Bool.false_eq_true, if_false]; exact Ev.ret)
    · simp only [L24_3, lenE, Int.lt_irrefl, if_false]
      exact Ev.succ (by simp only [L24_4, Bool.false_eq_true, if_false]; exact Ev.ret)
    · obtain ⟨x, hx, _, hr⟩ := hL.get hi
      obtain ⟨a, rfl, ha⟩ := rs3 hr
      have ha := i64_range ha
      have hz := itoaB_size ha
      have sz : (s ++ (k___2 ++ itoaB a)).size = s.size + (1 + (itoaB a).size) := by rw [ByteArray.size_append, ByteArray.size_append, k2]
      obtain ⟨r, h1, h2⟩ := ih (s ++ (k___2 ++ itoaB a)) (by omega)
      have q1 : ∀ k : ByteArray → Option ByteArray, catF k___2 (itoaB a) k = k (k___2 ++ itoaB a) := fun k => catF_ok (by omega)
      have q2 : ∀ k : ByteArray → Option ByteArray, catF s (k___2 ++ itoaB a) k = k (s ++ (k___2 ++ itoaB a)) := fun k => catF_ok (by rw [ByteArray.size_append, k2]; omega)
      have q3 : ∀ k : ByteArray → Option ByteArray, catF s k___2 k = k (s ++ k___2) := fun k => catF_ok (by omega)
      have q4 : ∀ k : ByteArray → Option ByteArray, catF (s ++ k___2) (itoaB a) k = k (s ++ k___2 ++ itoaB a) := fun k => catF_ok (by rw [ByteArray.size_append, k2]; omega)
      have hw := wrap_succ hi hL.1
      refine ⟨r, Ev.succ ?_, Ev.succ ?_⟩
      · simp only [L23_3, if_pos (ilt hi)]
        refine Ev.succ ?_
        simp only [L23_4, if_true, getF_nat hx, ds_i64, e44 ha, bO1s, q1, q2, letE, hw]
        exact h1
      · simp only [L24_3, lenE, if_pos (ilt hi)]
        refine Ev.succ ?_
        simp only [L24_4, if_true, getF_nat hx, ds_i64, q3]
        refine Ev.bO1 (ev45 ha) ?_
        simp only [q4, letE, hw]
        rw [ByteArray.append_assoc]
        exact h2
  have y2 := itoaB_size h2
  have y3 := itoaB_size h3
  have q1 : ∀ k : ByteArray → Option ByteArray, catF (itoaB z2) k___1 k = k (itoaB z2 ++ k___1) := fun k => catF_ok (by omega)
  have q2 : ∀ k : ByteArray → Option ByteArray, catF (itoaB z2 ++ k___1) s9 k = k (itoaB z2 ++ k___1 ++ s9) := fun k => catF_ok (by rw [ByteArray.size_append]; omega)
  have q3 : ∀ k : ByteArray → Option ByteArray, catF (itoaB z2 ++ k___1 ++ s9) k___1 k = k (itoaB z2 ++ k___1 ++ s9 ++ k___1) := fun k => catF_ok (by rw [ByteArray.size_append, ByteArray.size_append]; omega)
  have q4 : ∀ k : ByteArray → Option ByteArray, catF (itoaB z2 ++ k___1 ++ s9 ++ k___1) (itoaB z3) k = k (itoaB z2 ++ k___1 ++ s9 ++ k___1 ++ itoaB z3) := fun k => catF_ok (by rw [ByteArray.size_append, ByteArray.size_append, ByteArray.size_append]; omega)
  obtain ⟨r, h4, h5⟩ := loop 0 (Nat.zero_le _) (itoaB z2 ++ k___1 ++ s9 ++ k___1 ++ itoaB z3) (by rw [ByteArray.size_append, ByteArray.size_append, ByteArray.size_append, ByteArray.size_append]; omega)
  refine ⟨r, Ev.succ ?_, Ev.succ ?_⟩
  · simp only [L23_2, e44 h2, e44 h3, bO1s, q1, q2, q3, q4, lenE]
    exact h4
  · simp only [L24_2]
    refine Ev.bO1 (ev45 h2) ?_
    simp only [q1, q2, q3]
    refine Ev.bO1 (ev45 h3) ?_
    simp only [q4]
    exact h5

theorem trace_text_trip : ∀ xs : List D, Shapes tab [32] xs → Trip Tryd.prog inv 4 (xs.map V1.d) [] (.v (.d (.bool true))) [] [] := by
  intro xs h
  match xs, h with
  | [u], ⟨u1, u2, _⟩ =>
    have hu : RowS tab 32 u := ⟨u1, u2⟩
    obtain ⟨k, t, d, p, rfl, wk, wt, wd, hp⟩ := rs32 hu
    have hk := u8_range wk
    have ht := i64_range wt
    have hd := i64_range wd
    have law : Ev (fun n => F4 n k t d p) true := by
      have hx : [D.agg [.int .u8 k, .int .i64 t, .int .i64 d, .list false 1 p]][0]? = some (D.agg [.int .u8 k, .int .i64 t, .int .i64 d, .list false 1 p]) := rfl
      have g : ∀ K : D → Option Bool, getF [D.agg [.int .u8 k, .int .i64 t, .int .i64 d, .list false 1 p]] 0 K = K (D.agg [.int .u8 k, .int .i64 t, .int .i64 d, .list false 1 p]) := fun K => getF_nat (i := 0) hx
      have one : (([D.agg [.int .u8 k, .int .i64 t, .int .i64 d, .list false 1 p]].length : Nat) : Int) = 1 := rfl
      have w1 : IntKind.i64.wrap ((0 : Int) + 1) = 1 := rfl
      unfold F4
      by_cases c : (100 : Int) < (p.length : Int)
      · refine Ev.bO1 (a := true) ?_ (by simp only [if_true]; exact Ev.ret)
        simp only [F17, lenE, one, if_neg (show ¬ (2000 : Int) < 1 by decide)]
        refine Ev.succ ?_
        simp only [L17_1, Bool.false_eq_true, if_false]
        refine Ev.succ ?_
        simp only [L17_2, lenE, one, if_pos (show (0 : Int) < 1 by decide)]
        refine Ev.succ ?_
        simp only [L17_3, if_true, g, ds_t32, lenE, if_pos c]
        exact Ev.succ (by simp only [L17_4, if_true]; exact Ev.ret)
      · refine Ev.bO1 (a := false) ?_ ?_
        · simp only [F17, lenE, one, if_neg (show ¬ (2000 : Int) < 1 by decide)]
          refine Ev.succ ?_
          simp only [L17_1, Bool.false_eq_true, if_false]
          refine Ev.succ ?_
          simp only [L17_2, lenE, one, if_pos (show (0 : Int) < 1 by decide)]
          refine Ev.succ ?_
          simp only [L17_3, if_true, g, ds_t32, lenE, if_neg c]
          refine Ev.succ ?_
          simp only [L17_4, Bool.false_eq_true, if_false, letE, w1]
          refine Ev.succ ?_
          simp only [L17_2, lenE, one, Int.lt_irrefl, if_false]
          exact Ev.succ (by simp only [L17_3, Bool.false_eq_true, if_false]; exact Ev.ret)
        · simp only [Bool.false_eq_true, if_false]
          have txt : ∃ r, Ev (fun n => F23 n k t d p) r ∧ Ev (fun n => F24 n k t d p) r := by
            have wk : IntKind.i64.wrap k = k := IntWalk.i64_in _ (by omega)
            by_cases q : k < 10
            · obtain ⟨s, hs, g1, g2⟩ := names hk.1 q
              obtain ⟨r, h1, h2⟩ := evText hp (by omega) ht hd hs
              refine ⟨r, ?_, ?_⟩
              · simp only [F23, F43, letE, wk, if_pos q]
                show Ev (fun n => L23_1 n k t d p true) r
                refine Ev.succ ?_
                simp only [L23_1, if_true, needF, if_pos (show 0 ≤ k ∧ k < 10 from ⟨hk.1, q⟩), g1, ds_w3]
                exact h1
              · simp only [F24, letE, wk, if_pos q]
                refine Ev.succ ?_
                simp only [L24_1, if_true, g2, ds_str]
                exact h2
            · obtain ⟨r, h1, h2⟩ := evText hp (by omega) ht hd (s9 := k__) (by decide)
              refine ⟨r, ?_, ?_⟩
              · simp only [F23, F43, letE, wk, if_neg q]
                show Ev (fun n => L23_1 n k t d p false) r
                refine Ev.succ ?_
                simp only [L23_1, Bool.false_eq_true, if_false]
                exact h1
              · simp only [F24, letE, wk, if_neg q]
                refine Ev.succ ?_
                simp only [L24_1, Bool.false_eq_true, if_false]
                exact h2
          obtain ⟨r, h1, h2⟩ := txt
          refine Ev.bO1 h1 (Ev.bO1 h2 ?_)
          simp only [if_true]
          exact Ev.bO1 ev22 Ev.ret
    obtain ⟨n, hn⟩ := law.run
    exact T4 n hn
end Go.Proofs.YtjobleemmjjocaaDoor
end

/- TraceText holds: an event's text is what the document says, of any event. No condition. -/
namespace Go.Proofs.YtjobleemmjjocaaDoor
open Go Go.ChangeShapes Go.WideShapes Go.ChangeAt Go.RowKit Go.AM

theorem trace_text_reads : ∀ t ∈ [32], Tryd.prog.readableRec t = true ∧ t < Tryd.prog.types.size := by
  have h : ([32].all fun t => Tryd.prog.readableRec t && decide (t < Tryd.prog.types.size)) = true := by kernel_rfl
  intro t ht
  have := List.all_eq_true.1 h t ht
  simpa using this

/-- What the row knows of the library's table. -/
theorem trace_text_inv {W : World} (h : laidMet Tryd.prog Rows.traceTextRow.laid W) : inv.at W fun _ _ => False := by
  have e : (Rows.traceTextRow.laid.filter fun x => x.1 == "internal/strconv.uint64pow10") = [("internal/strconv.uint64pow10", Lib.tabData .u64 Lib.pow10Tab)] := by kernel_rfl
  have h2 := laidMet.filter (fun x => x.1 == "internal/strconv.uint64pow10") h
  rw [e] at h2
  have ht : Lib.TabIs Tryd.prog W "internal/strconv.uint64pow10" .u64 Lib.pow10Tab := by
    exact Lib.tabIs_of_head (g := 0) (t := 138) (e := 35) (n := 20) (by kernel_rfl) (by kernel_rfl) (by kernel_rfl) (by kernel_rfl) (by kernel_rfl) (by kernel_rfl) h2
  refine ⟨ht, fun b hb => ⟨?_, fun _ h => h⟩⟩
  have hb : Tryd.prog.globalNamed "internal/strconv.uint64pow10" = some b := hb
  unfold Lib.TabIs World.var? at ht
  rw [hb] at ht
  simp only [Option.bind_some] at ht
  cases hx : W.heap[b]? with
  | none => rw [hx] at ht; simp at ht
  | some o => exact (Array.getElem?_eq_some_iff.1 hx).1

set_option maxRecDepth 100000 in
theorem trace_text_lifted (os : Os) (started : os.Started) (H : Type) (enc : TypeId × Value → H) :
    ReturnsInHanded {} Tryd.checked os 4 .any (fun w args => (Rows.traceTextSpec.pre enc Tryd.prog Tryd.f4 Rows.traceTextRow.domain false w args ∧ laidMetH Tryd.prog Rows.traceTextRow.laid w) ∧ sizedMet enc Tryd.prog Tryd.f4 (OpenSpec.ofChange Rows.traceTextSpec) false w args)
      (Rows.traceTextSpec.post enc Tryd.prog Tryd.f4 false true false false) := by
  refine returnsInHanded_of_change_and (C := Tryd.checked) (X := fun w _ => laidMetH Tryd.prog Rows.traceTextRow.laid w) (fun _ _ _ hh h => h.of_heap hh) (by kernel_rfl) started (by kernel_rfl) Tryd.func4
    (ChangeSpec.witness_shaped (enc := enc) (C := Tryd.checked) (os := os) (X := fun w _ => laidMetH Tryd.prog Rows.traceTextRow.laid w) false (World.laidAll Tryd.prog os Rows.traceTextRow.laid) #[.agg #[.int .u8 0, .int .i64 0, .int .i64 0, .slice none 0 0]] 8 (World.laidAll_os _ _ _)
      (World.shaped_of_ZipB (by kernel_rfl) (by kernel_rfl)) (by kernel_rfl) (by kernel_rfl) (by kernel_rfl)
      (by rw [MakeChecks.laidMetH_plain _ _ _ (by kernel_rfl)]; exact laidMet_laidAll _ (by kernel_rfl) (by kernel_rfl))) ?_
  intro W base args ds gs before hval0 hW _ _ hL _
  rw [MakeChecks.laidMetH_plain _ _ _ (by kernel_rfl)] at hL
  refine law_calls (ti := tab) (T := [3, 5, 30, 32]) tab_ok (by kernel_rfl) (ts := [32]) (bt := 4) rfl rfl rfl (by kernel_rfl) (by decide) ?_ (by kernel_rfl) trace_text_reads trace_text_trip (trace_text_inv hL) hval0 hW
  intro ds h
  match ds, h with
  | [_], _ => exact ⟨rfl, rfl, rfl⟩
theorem trace_text_row : Rows.TraceTextSaid :=
  OpenClaim.holds_of_wide 4 Tryd.f4 rfl rfl rfl rfl rfl rfl rfl ⟨rfl, rfl, rfl, rfl, rfl⟩ rfl rfl rfl rfl rfl (by kernel_rfl) Tryd.func4 (by kernel_rfl)
    (of_decide_eq_true (by kernel_rfl)) (by unfold Func.isWrapper; first | (rw [if_pos (by decide +kernel)]; kernel_rfl) | (rw [if_neg (by decide +kernel)]; exact ⟨rfl, rfl⟩))
    (fun os started H enc _ => trace_text_lifted os started H enc)
theorem trace_text : Rows.TraceTextCardSaid :=
  Claim7.holds_tied_plain_at .later [] [.data, .data, .data] true Rows.traceTextCard.stood.harness false trace_text_row (fun _ h => by cases h) (by kernel_rfl) (fun _ h => by cases h) traceText_row_tie rfl ⟨rfl, rfl⟩ (by kernel_rfl) rfl
    (fun f fn hf hfn => by
      obtain rfl : f = 4 := Option.some.inj ((show Tryd.prog.funcNamed "weftway/weftwaylaw25.TraceText" = some 4 by kernel_rfl).symm.trans hf) |>.symm
      obtain rfl : fn = Tryd.f4 := (Option.some.inj (Tryd.func4.symm.trans hfn)).symm
      exact ⟨by kernel_rfl, fun j t ht => by
        have hm : t ∈ [32] := by
          have hp : Tryd.f4.params.toList = [32] := rfl
          rw [← hp]; simpa using Array.mem_of_getElem? ht
        have hall : ([32].all fun u => !Tryd.prog.wantsStandIn u) = true := by kernel_rfl
        exact (show Tryd.prog.wantsStandIn t = false by simpa using List.all_eq_true.1 hall t hm)⟩)
    (by kernel_rfl)
end Go.Proofs.YtjobleemmjjocaaDoor

/- The laws of chapter 25 that are proved, in one. No condition. -/
namespace Go.Proofs.YtjobleemmjjocaaDoor
end Go.Proofs.YtjobleemmjjocaaDoor
