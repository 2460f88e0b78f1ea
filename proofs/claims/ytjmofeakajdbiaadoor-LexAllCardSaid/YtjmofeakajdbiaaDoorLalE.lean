/- LexAll of chapter 2 holds. No condition. (Part 5: YtjmofeakajdbiaaDoorX26, LxYa, LxYb, LxYc, LxYd, YtjmofeakajdbiaaDoorV27, YtjmofeakajdbiaaDoorV5, YtjmofeakajdbiaaDoorTy, AmR, LxYe, LxYf, LxYh.) -/
import Derived.Carry
import Derived.ChangeSame
import Derived.ChangeOld
import Derived.ChangeCalls
import Derived.WideShapes
import Derived.Test.YtjmofeakajdbiaaDoorRows
import Derived.Test.YtjmofeakajdbiaaDoorTie
import Derived.Test.YtjmofeakajdbiaaDoorCards
import Derived.JoinedOf
import Derived.JoinedAt
import Derived.RowKit
import Derived.RowKit2
import Derived.ReadAgain
import Derived.ChangeAlike
import Derived.Lay
import Derived.Handed
import Derived.LaidSub
import Derived.LaidLaws
import Derived.LaidHandle
import Derived.MakeChecks
import Derived.SevenTiedAt
import Derived.Lib.LaidTab
import Derived.Lib.LaidU8
import Derived.Test.YtjmofeakajdbiaaDoorLalD
set_option linter.unusedVariables false
set_option linter.unusedSimpArgs false
set_option linter.unusedVariables false
noncomputable section
namespace Go.Proofs.YtjmofeakajdbiaaDoor
open Go Go.AM
def L26_9 : Nat → (List D) → Bool → Option (List D × Int × Int)
  | 0, _, _ => none
  | n + 1, l4, b32 =>
    (if b32 = true then some (([] : List D), (0 : Int), (4 : Int)) else some (l4, (0 : Int), (0 : Int)))
mutual
def L26_2 : Nat → ByteArray → (List D) → Int → Option (List D × Int × Int)
  | 0, _, _, _ => none
  | n + 1, s1, l4, z5 =>
    szF s1 fun z6 => (if z5 < z6 then L26_3 n s1 l4 z5 true else L26_3 n s1 l4 z5 false)
def L26_3 : Nat → ByteArray → (List D) → Int → Bool → Option (List D × Int × Int)
  | 0, _, _, _, _ => none
  | n + 1, s1, l4, z5, b7 =>
    (if b7 = true then atF s1 z5 fun z8 => (if z8 = (32 : Int) then L26_4 n s1 l4 z5 true else atF s1 z5 fun z9 => (if z9 = (9 : Int) then L26_4 n s1 l4 z5 true else atF s1 z5 fun z10 => (if z10 = (10 : Int) then L26_4 n s1 l4 z5 true else atF s1 z5 fun z11 => (if z11 = (13 : Int) then L26_4 n s1 l4 z5 true else L26_4 n s1 l4 z5 false)))) else lenF l4 fun z31 => (if (1500 : Int) < z31 then L26_9 n l4 true else L26_9 n l4 false))
def L26_4 : Nat → ByteArray → (List D) → Int → Bool → Option (List D × Int × Int)
  | 0, _, _, _, _ => none
  | n + 1, s1, l4, z5, b12 =>
    (if b12 = true then letF (IntKind.wrap .i64 (z5 + 1)) fun z13 => L26_2 n s1 l4 z13 else atF s1 z5 fun z14 => (if z14 = (47 : Int) then letF (IntKind.wrap .i64 (z5 + 1)) fun z15 => szF s1 fun z16 => (if z15 < z16 then letF (IntKind.wrap .i64 (z5 + 1)) fun z17 => atF s1 z17 fun z18 => (if z18 = (47 : Int) then L26_5 n s1 l4 z5 true else L26_5 n s1 l4 z5 false) else L26_5 n s1 l4 z5 false) else L26_5 n s1 l4 z5 false))
def L26_5 : Nat → ByteArray → (List D) → Int → Bool → Option (List D × Int × Int)
  | 0, _, _, _, _ => none
  | n + 1, s1, l4, z5, b19 =>
    (if b19 = true then L26_6 n s1 l4 z5 else bO1 (F46 n s1 z5) fun z25 => subF s1 z5 z25 fun s26 => bO1 (F47 n s26) fun z27 => (if z27 = (0 : Int) then L26_8 n s1 l4 z5 z25 z27 true else L26_8 n s1 l4 z5 z25 z27 false))
def L26_6 : Nat → ByteArray → (List D) → Int → Option (List D × Int × Int)
  | 0, _, _, _ => none
  | n + 1, s1, l4, z20 =>
    szF s1 fun z21 => (if z20 < z21 then atF s1 z20 fun z22 => (if z22 = (10 : Int) then L26_7 n s1 l4 z20 false else L26_7 n s1 l4 z20 true) else L26_7 n s1 l4 z20 false)
def L26_7 : Nat → ByteArray → (List D) → Int → Bool → Option (List D × Int × Int)
  | 0, _, _, _, _ => none
  | n + 1, s1, l4, z20, b23 =>
    (if b23 = true then letF (IntKind.wrap .i64 (z20 + 1)) fun z24 => L26_6 n s1 l4 z24 else L26_2 n s1 l4 z20)
def L26_8 : Nat → ByteArray → (List D) → Int → Int → Int → Bool → Option (List D × Int × Int)
  | 0, _, _, _, _, _, _ => none
  | n + 1, s1, l4, z5, z25, z27, b28 =>
    (if b28 = true then some (([] : List D), z5, (20 : Int)) else subF s1 z5 z25 fun s29 => appF 32 l4 ([.agg [.int .u8 z27, .str s29, .int .i64 z5]]) fun l30 => L26_2 n s1 l30 z25)
end
def L26_1 : Nat → ByteArray → Bool → Option (List D × Int × Int)
  | 0, _, _ => none
  | n + 1, s1, b3 =>
    (if b3 = true then some (([] : List D), (0 : Int), (3 : Int)) else L26_2 n s1 ([] : List D) (0 : Int))
def F26 (n : Nat) (s1 : ByteArray) : Option (List D × Int × Int) :=
  szF s1 fun z2 => (if (4000 : Int) < z2 then L26_1 n s1 true else L26_1 n s1 false)
set_option maxRecDepth 100000 in
set_option maxHeartbeats 40000000 in
theorem T26 (n : Nat) : ∀ ⦃s1 : ByteArray⦄ ⦃r1 : List D⦄ ⦃r2 : Int⦄ ⦃r3 : Int⦄, F26 n s1 = some (r1, r2, r3) →
    Trip Tryd.prog inv 26 [.d (.str s1)] [] (.t [.d (.list true 3 r1), .d (.int .i64 r2), .d (.int .i64 r3)]) [] [] := by
  intro s1 r1 r2 r3 h
  unfold F26 at h
  refine Trip.of tab_ok tab_one fol Tryd.func26 rfl (by kernel_rfl) rfl rfl rfl (fun M hM hI => ?_)
  try cbv
  refine seq_go ?_
  try cbv
  refine seq_go ?_
  try cbv
  refine seq_join (T := Nat × Bool) (fun t => ⟨[(0, .v (.d (.str s1))), (2, .v (.c (.nils true 3))), (3, .v (.d (.int .i64 0))), (4, .v (.d (.int .i64 0))), (11, .v (.d (.bool t.2)))], [], 192⟩) (fun t => t.1 ≤ n ∧ L26_1 t.1 s1 t.2 = some (r1, r2, r3)) ?_ ?_
  · try cbv
    replace h := szF_inv M h
    obtain ⟨z2, hz, h⟩ := h
    refine ⟨z2, hz, ?_⟩
    clear hz
    try cbv
    refine splitL (fun e => ?_) (fun e => ?_)
    · replace h := ite_t e h
      clear e
      try cbv
      exact join_next (n, true) [0, 2, 3, 4, 11] [] 192 ⟨by omega, h⟩ (by cbv)
    · replace h := ite_f (Int.not_lt.2 e) h
      clear e
      try cbv
      exact join_next (n, false) [0, 2, 3, 4, 11] [] 192 ⟨by omega, h⟩ (by cbv)
  · clear h
    rintro ⟨m1, b3⟩ ⟨hm1, h⟩
    replace hm1 : m1 ≤ n := hm1
    cases m1 with
    | zero =>
      replace h : L26_1 0 s1 b3 = some (r1, r2, r3) := h
      rw [L26_1] at h
      cases h
    | succ m1 =>
      replace h : L26_1 (m1 + 1) s1 b3 = some (r1, r2, r3) := h
      rw [L26_1] at h
      try cbv
      cases b3
      · replace h := ite_f Bool.false_ne_true h
        try cbv
        refine seq_go ?_
        try cbv
        refine seq_go ?_
        try cbv
        refine seq_go ?_
        try cbv
        refine loop_invT (T := Nat × List D × Int) [.slot 5 true 3 47] [0, 2, 3, 4, 5, 6] [.loc 256] 288 (fun t => ⟨[(0, .v (.d (.str s1))), (2, .v (.c (.nils true 3))), (3, .v (.d (.int .i64 0))), (4, .v (.d (.int .i64 0))), (5, .v (.c (.lst (.loc 256) true 3 t.2.1))), (6, .v (.d (.int .i64 t.2.2)))], [(.loc 256, .tok t.2.1.length 3 47)], 288⟩)
          (fun t => t.1 ≤ m1 ∧ L26_2 t.1 s1 t.2.1 t.2.2 = some (r1, r2, r3)) (fun t => t.1) (m1, (([] : List D), (0 : Int))) ⟨Nat.le_refl _, h⟩ (by cbv) ?_
        clear h
        rintro ⟨m2, l4, z5⟩ ⟨hm2, h⟩
        replace hm2 : m2 ≤ m1 := hm2
        cases m2 with
        | zero =>
          replace h : L26_2 0 s1 l4 z5 = some (r1, r2, r3) := h
          rw [L26_2] at h
          cases h
        | succ m2 =>
          replace h : L26_2 (m2 + 1) s1 l4 z5 = some (r1, r2, r3) := h
          rw [L26_2] at h
          try cbv
          refine seq_go ?_
          try cbv
          refine seq_join (T := Nat × Bool) (fun t => ⟨[(0, .v (.d (.str s1))), (2, .v (.c (.nils true 3))), (3, .v (.d (.int .i64 0))), (4, .v (.d (.int .i64 0))), (5, .v (.c (.lst (.loc 256) true 3 l4))), (6, .v (.d (.int .i64 z5))), (15, .v (.d (.bool t.2)))], [(.loc 256, .tok l4.length 3 47)], 416⟩) (fun t => t.1 ≤ m2 ∧ L26_3 t.1 s1 l4 z5 t.2 = some (r1, r2, r3)) ?_ ?_
          · try cbv
            replace h := szF_inv M h
            obtain ⟨z6, hz, h⟩ := h
            refine ⟨z6, hz, ?_⟩
            clear hz
            try cbv
            refine splitL (fun e => ?_) (fun e => ?_)
            · replace h := ite_t e h
              clear e
              try cbv
              exact join_next (m2, true) [0, 2, 3, 4, 5, 6, 15] [.loc 256] 416 ⟨by omega, h⟩ (by cbv)
            · replace h := ite_f (Int.not_lt.2 e) h
              clear e
              try cbv
              exact join_next (m2, false) [0, 2, 3, 4, 5, 6, 15] [.loc 256] 416 ⟨by omega, h⟩ (by cbv)
          · clear h
            rintro ⟨m3, b7⟩ ⟨hm3, h⟩
            replace hm3 : m3 ≤ m2 := hm3
            cases m3 with
            | zero =>
              replace h : L26_3 0 s1 l4 z5 b7 = some (r1, r2, r3) := h
              rw [L26_3] at h
              cases h
            | succ m3 =>
              replace h : L26_3 (m3 + 1) s1 l4 z5 b7 = some (r1, r2, r3) := h
              rw [L26_3] at h
              try cbv
              cases b7
              · replace h := ite_f Bool.false_ne_true h
                try cbv
                refine seq_go ?_
                try cbv
                refine seq_join (T := Nat × Bool) (fun t => ⟨[(0, .v (.d (.str s1))), (2, .v (.c (.nils true 3))), (3, .v (.d (.int .i64 0))), (4, .v (.d (.int .i64 0))), (5, .v (.c (.lst (.loc 256) true 3 l4))), (6, .v (.d (.int .i64 z5))), (94, .v (.d (.bool t.2)))], [(.loc 256, .tok l4.length 3 47)], 512⟩) (fun t => t.1 ≤ m3 ∧ L26_9 t.1 l4 t.2 = some (r1, r2, r3)) ?_ ?_
                · try cbv
                  replace h := lenF_inv M h
                  obtain ⟨z31, hz, h⟩ := h
                  refine ⟨z31, hz, ?_⟩
                  clear hz
                  try cbv
                  refine splitL (fun e => ?_) (fun e => ?_)
                  · replace h := ite_t e h
                    clear e
                    try cbv
                    exact join_next (m3, true) [0, 2, 3, 4, 5, 6, 94] [.loc 256] 512 ⟨by omega, h⟩ (by cbv)
                  · replace h := ite_f (Int.not_lt.2 e) h
                    clear e
                    try cbv
                    exact join_next (m3, false) [0, 2, 3, 4, 5, 6, 94] [.loc 256] 512 ⟨by omega, h⟩ (by cbv)
                · clear h
                  rintro ⟨m9, b32⟩ ⟨hm9, h⟩
                  replace hm9 : m9 ≤ m3 := hm9
                  cases m9 with
                  | zero =>
                    replace h : L26_9 0 l4 b32 = some (r1, r2, r3) := h
                    rw [L26_9] at h
                    cases h
                  | succ m9 =>
                    replace h : L26_9 (m9 + 1) l4 b32 = some (r1, r2, r3) := h
                    rw [L26_9] at h
                    try cbv
                    cases b32
                    · replace h := ite_f Bool.false_ne_true h
                      try cbv
                      refine seq_go ?_
                      try cbv
                      obtain ⟨rfl, rfl, rfl⟩ := inj3 h
                      refine fin_go ?_
                      try cbv
                      exact ⟨[], rfl, rfl, trivial, trivial, trivial⟩
                    · replace h := ite_t rfl h
                      try cbv
                      refine seq_go ?_
                      try cbv
                      obtain ⟨rfl, rfl, rfl⟩ := inj3 h
                      refine fin_go ?_
                      try cbv
                      exact ⟨[], rfl, rfl, trivial, trivial, trivial⟩
              · replace h := ite_t rfl h
                try cbv
                refine seq_go ?_
                try cbv
                refine seq_join (T := Nat × Bool) (fun t => ⟨[(0, .v (.d (.str s1))), (2, .v (.c (.nils true 3))), (3, .v (.d (.int .i64 0))), (4, .v (.d (.int .i64 0))), (5, .v (.c (.lst (.loc 256) true 3 l4))), (6, .v (.d (.int .i64 z5))), (37, .v (.d (.bool t.2)))], [(.loc 256, .tok l4.length 3 47)], 1120⟩) (fun t => t.1 ≤ m3 ∧ L26_4 t.1 s1 l4 z5 t.2 = some (r1, r2, r3)) ?_ ?_
                · try cbv
                  replace h := atF_inv h
                  obtain ⟨z8, hz, h⟩ := h
                  refine ⟨z8, hz, ?_⟩
                  clear hz
                  try cbv
                  refine splitI (fun e => ?_) (fun e => ?_)
                  · replace h := ite_t e h
                    clear e
                    try cbv
                    exact join_next (m3, true) [0, 2, 3, 4, 5, 6, 37] [.loc 256] 1120 ⟨by omega, h⟩ (by cbv)
                  · replace h := ite_f e h
                    clear e
                    try cbv
                    replace h := atF_inv h
                    obtain ⟨z9, hz, h⟩ := h
                    refine ⟨z9, hz, ?_⟩
                    clear hz
                    try cbv
                    refine splitI (fun e => ?_) (fun e => ?_)
                    · replace h := ite_t e h
                      clear e
                      try cbv
                      exact join_next (m3, true) [0, 2, 3, 4, 5, 6, 37] [.loc 256] 1120 ⟨by omega, h⟩ (by cbv)
                    · replace h := ite_f e h
                      clear e
                      try cbv
                      replace h := atF_inv h
                      obtain ⟨z10, hz, h⟩ := h
                      refine ⟨z10, hz, ?_⟩
                      clear hz
                      try cbv
                      refine splitI (fun e => ?_) (fun e => ?_)
                      · replace h := ite_t e h
                        clear e
                        try cbv
                        exact join_next (m3, true) [0, 2, 3, 4, 5, 6, 37] [.loc 256] 1120 ⟨by omega, h⟩ (by cbv)
                      · replace h := ite_f e h
                        clear e
                        try cbv
                        replace h := atF_inv h
                        obtain ⟨z11, hz, h⟩ := h
                        refine ⟨z11, hz, ?_⟩
                        clear hz
                        try cbv
                        refine splitI (fun e => ?_) (fun e => ?_)
                        · replace h := ite_t e h
                          clear e
                          try cbv
                          exact join_next (m3, true) [0, 2, 3, 4, 5, 6, 37] [.loc 256] 1120 ⟨by omega, h⟩ (by cbv)
                        · replace h := ite_f e h
                          clear e
                          try cbv
                          exact join_next (m3, false) [0, 2, 3, 4, 5, 6, 37] [.loc 256] 1120 ⟨by omega, h⟩ (by cbv)
                · clear h
                  rintro ⟨m4, b12⟩ ⟨hm4, h⟩
                  replace hm4 : m4 ≤ m3 := hm4
                  cases m4 with
                  | zero =>
                    replace h : L26_4 0 s1 l4 z5 b12 = some (r1, r2, r3) := h
                    rw [L26_4] at h
                    cases h
                  | succ m4 =>
                    replace h : L26_4 (m4 + 1) s1 l4 z5 b12 = some (r1, r2, r3) := h
                    rw [L26_4] at h
                    try cbv
                    cases b12
                    · replace h := ite_f Bool.false_ne_true h
                      try cbv
                      refine seq_go ?_
                      try cbv
                      refine seq_join (T := Nat × Bool) (fun t => ⟨[(0, .v (.d (.str s1))), (2, .v (.c (.nils true 3))), (3, .v (.d (.int .i64 0))), (4, .v (.d (.int .i64 0))), (5, .v (.c (.lst (.loc 256) true 3 l4))), (6, .v (.d (.int .i64 z5))), (57, .v (.d (.bool t.2)))], [(.loc 256, .tok l4.length 3 47)], 1696⟩) (fun t => t.1 ≤ m4 ∧ L26_5 t.1 s1 l4 z5 t.2 = some (r1, r2, r3)) ?_ ?_
                      · try cbv
                        replace h := atF_inv h
                        obtain ⟨z14, hz, h⟩ := h
                        refine ⟨z14, hz, ?_⟩
                        clear hz
                        try cbv
                        refine splitI (fun e => ?_) (fun e => ?_)
                        · replace h := ite_t e h
                          clear e
                          try cbv
                          replace h := letF_inv h
                          obtain ⟨z15, hz, h⟩ := h
                          refine ⟨z15, hz, ?_⟩
                          clear hz
                          try cbv
                          replace h := szF_inv M h
                          obtain ⟨z16, hz, h⟩ := h
                          refine ⟨z16, hz, ?_⟩
                          clear hz
                          try cbv
                          refine splitL (fun e => ?_) (fun e => ?_)
                          · replace h := ite_t e h
                            clear e
                            try cbv
                            replace h := letF_inv h
                            obtain ⟨z17, hz, h⟩ := h
                            refine ⟨z17, hz, ?_⟩
                            clear hz
                            try cbv
                            replace h := atF_inv h
                            obtain ⟨z18, hz, h⟩ := h
                            refine ⟨z18, hz, ?_⟩
                            clear hz
                            try cbv
                            refine splitI (fun e => ?_) (fun e => ?_)
                            · replace h := ite_t e h
                              clear e
                              try cbv
                              exact join_next (m4, true) [0, 2, 3, 4, 5, 6, 57] [.loc 256] 1696 ⟨by omega, h⟩ (by cbv)
                            · replace h := ite_f e h
                              clear e
                              try cbv
                              exact join_next (m4, false) [0, 2, 3, 4, 5, 6, 57] [.loc 256] 1696 ⟨by omega, h⟩ (by cbv)
                          · replace h := ite_f (Int.not_lt.2 e) h
                            clear e
                            try cbv
                            exact join_next (m4, false) [0, 2, 3, 4, 5, 6, 57] [.loc 256] 1696 ⟨by omega, h⟩ (by cbv)
                        · replace h := ite_f e h
                          clear e
                          try cbv
                          exact join_next (m4, false) [0, 2, 3, 4, 5, 6, 57] [.loc 256] 1696 ⟨by omega, h⟩ (by cbv)
                      · clear h
                        rintro ⟨m5, b19⟩ ⟨hm5, h⟩
                        replace hm5 : m5 ≤ m4 := hm5
                        cases m5 with
                        | zero =>
                          replace h : L26_5 0 s1 l4 z5 b19 = some (r1, r2, r3) := h
                          rw [L26_5] at h
                          cases h
                        | succ m5 =>
                          replace h : L26_5 (m5 + 1) s1 l4 z5 b19 = some (r1, r2, r3) := h
                          rw [L26_5] at h
                          try cbv
                          cases b19
                          · replace h := ite_f Bool.false_ne_true h
                            try cbv
                            refine seq_go ?_
                            try cbv
                            replace h := bO1_inv h
                            obtain ⟨z25, hr, h⟩ := h
                            refine call_go rfl rfl ?_
                            try cbv
                            refine call_pure hM hI (T46 _ hr) rfl ?_
                            clear hr
                            try cbv
                            refine seq_go ?_
                            try cbv
                            replace h := subF_inv M h
                            obtain ⟨s26, hb, hz, h⟩ := h
                            refine ⟨s26, hb, hz, ?_⟩
                            clear hb hz
                            try cbv
                            replace h := bO1_inv h
                            obtain ⟨z27, hr, h⟩ := h
                            refine call_go rfl rfl ?_
                            try cbv
                            refine call_pure hM hI (T47 _ hr) rfl ?_
                            clear hr
                            try cbv
                            refine seq_go ?_
                            try cbv
                            refine seq_join (T := Nat × Bool) (fun t => ⟨[(0, .v (.d (.str s1))), (2, .v (.c (.nils true 3))), (3, .v (.d (.int .i64 0))), (4, .v (.d (.int .i64 0))), (5, .v (.c (.lst (.loc 256) true 3 l4))), (6, .v (.d (.int .i64 z5))), (7, .v (.d (.int .i64 z25))), (8, .v (.d (.int .u8 z27))), (79, .v (.d (.bool t.2)))], [(.loc 256, .tok l4.length 3 47)], 2080⟩) (fun t => t.1 ≤ m5 ∧ L26_8 t.1 s1 l4 z5 z25 z27 t.2 = some (r1, r2, r3)) ?_ ?_
                            · try cbv
                              refine splitI (fun e => ?_) (fun e => ?_)
                              · replace h := ite_t e h
                                clear e
                                try cbv
                                exact join_next (m5, true) [0, 2, 3, 4, 5, 6, 7, 8, 79] [.loc 256] 2080 ⟨by omega, h⟩ (by cbv)
                              · replace h := ite_f e h
                                clear e
                                try cbv
                                exact join_next (m5, false) [0, 2, 3, 4, 5, 6, 7, 8, 79] [.loc 256] 2080 ⟨by omega, h⟩ (by cbv)
                            · clear h
                              rintro ⟨m8, b28⟩ ⟨hm8, h⟩
                              replace hm8 : m8 ≤ m5 := hm8
                              cases m8 with
                              | zero =>
                                replace h : L26_8 0 s1 l4 z5 z25 z27 b28 = some (r1, r2, r3) := h
                                rw [L26_8] at h
                                cases h
                              | succ m8 =>
                                replace h : L26_8 (m8 + 1) s1 l4 z5 z25 z27 b28 = some (r1, r2, r3) := h
                                rw [L26_8] at h
                                try cbv
                                cases b28
                                · replace h := ite_f Bool.false_ne_true h
                                  try cbv
                                  refine seq_go ?_
                                  try cbv
                                  replace h := subF_inv M h
                                  obtain ⟨s29, hb, hz, h⟩ := h
                                  refine ⟨s29, hb, hz, ?_⟩
                                  clear hb hz
                                  try cbv
                                  refine ⟨false, ?_⟩
                                  try cbv
                                  refine ⟨true, ?_⟩
                                  try cbv
                                  replace h := appF_inv h
                                  obtain ⟨l30, hb, hz, h⟩ := h
                                  refine ⟨false, ?_⟩
                                  try cbv
                                  first | refine ⟨rfl, (M.lock_iff _).2 hb, l30, hz, ?_⟩ | refine ⟨(M.lock_iff _).2 hb, l30, hz, ?_⟩
                                  clear hb hz
                                  try cbv
                                  exact loop_next (m8, (l30, z25)) [0, 2, 3, 4, 5, 6] [.loc 256] 288 ⟨by omega, h⟩ (Nat.lt_succ_of_le (by omega)) (by cbv)
                                · replace h := ite_t rfl h
                                  try cbv
                                  refine seq_go ?_
                                  try cbv
                                  obtain ⟨rfl, rfl, rfl⟩ := inj3 h
                                  refine fin_go ?_
                                  try cbv
                                  exact ⟨[], rfl, rfl, trivial, trivial, trivial⟩
                          · replace h := ite_t rfl h
                            try cbv
                            refine seq_go ?_
                            try cbv
                            refine loop_inv (T := Nat × Int) [0, 2, 3, 4, 5, 6] [.loc 256] 1696 (fun t => ⟨[(0, .v (.d (.str s1))), (2, .v (.c (.nils true 3))), (3, .v (.d (.int .i64 0))), (4, .v (.d (.int .i64 0))), (5, .v (.c (.lst (.loc 256) true 3 l4))), (6, .v (.d (.int .i64 t.2)))], [(.loc 256, .tok l4.length 3 47)], 1696⟩)
                              (fun t => t.1 ≤ m5 ∧ L26_6 t.1 s1 l4 t.2 = some (r1, r2, r3)) (fun t => t.1) (m5, z5) ⟨Nat.le_refl _, h⟩ (by cbv) ?_
                            clear h
                            rintro ⟨m6, z20⟩ ⟨hm6, h⟩
                            replace hm6 : m6 ≤ m5 := hm6
                            cases m6 with
                            | zero =>
                              replace h : L26_6 0 s1 l4 z20 = some (r1, r2, r3) := h
                              rw [L26_6] at h
                              cases h
                            | succ m6 =>
                              replace h : L26_6 (m6 + 1) s1 l4 z20 = some (r1, r2, r3) := h
                              rw [L26_6] at h
                              try cbv
                              refine seq_go ?_
                              try cbv
                              refine seq_join (T := Nat × Bool) (fun t => ⟨[(0, .v (.d (.str s1))), (2, .v (.c (.nils true 3))), (3, .v (.d (.int .i64 0))), (4, .v (.d (.int .i64 0))), (5, .v (.c (.lst (.loc 256) true 3 l4))), (6, .v (.d (.int .i64 z20))), (67, .v (.d (.bool t.2)))], [(.loc 256, .tok l4.length 3 47)], 2016⟩) (fun t => t.1 ≤ m6 ∧ L26_7 t.1 s1 l4 z20 t.2 = some (r1, r2, r3)) ?_ ?_
                              · try cbv
                                replace h := szF_inv M h
                                obtain ⟨z21, hz, h⟩ := h
                                refine ⟨z21, hz, ?_⟩
                                clear hz
                                try cbv
                                refine splitL (fun e => ?_) (fun e => ?_)
                                · replace h := ite_t e h
                                  clear e
                                  try cbv
                                  replace h := atF_inv h
                                  obtain ⟨z22, hz, h⟩ := h
                                  refine ⟨z22, hz, ?_⟩
                                  clear hz
                                  try cbv
                                  refine splitI (fun e => ?_) (fun e => ?_)
                                  · replace h := ite_t e h
                                    clear e
                                    try cbv
                                    exact join_next (m6, false) [0, 2, 3, 4, 5, 6, 67] [.loc 256] 2016 ⟨by omega, h⟩ (by cbv)
                                  · replace h := ite_f e h
                                    clear e
                                    try cbv
                                    exact join_next (m6, true) [0, 2, 3, 4, 5, 6, 67] [.loc 256] 2016 ⟨by omega, h⟩ (by cbv)
                                · replace h := ite_f (Int.not_lt.2 e) h
                                  clear e
                                  try cbv
                                  exact join_next (m6, false) [0, 2, 3, 4, 5, 6, 67] [.loc 256] 2016 ⟨by omega, h⟩ (by cbv)
                              · clear h
                                rintro ⟨m7, b23⟩ ⟨hm7, h⟩
                                replace hm7 : m7 ≤ m6 := hm7
                                cases m7 with
                                | zero =>
                                  replace h : L26_7 0 s1 l4 z20 b23 = some (r1, r2, r3) := h
                                  rw [L26_7] at h
                                  cases h
                                | succ m7 =>
                                  replace h : L26_7 (m7 + 1) s1 l4 z20 b23 = some (r1, r2, r3) := h
                                  rw [L26_7] at h
                                  try cbv
                                  cases b23
                                  · replace h := ite_f Bool.false_ne_true h
                                    try cbv
                                    exact loop_next (m7, (l4, z20)) [0, 2, 3, 4, 5, 6] [.loc 256] 288 ⟨by omega, h⟩ (Nat.lt_succ_of_le (by omega)) (by cbv)
                                  · replace h := ite_t rfl h
                                    try cbv
                                    replace h := letF_inv h
                                    obtain ⟨z24, hz, h⟩ := h
                                    refine ⟨z24, hz, ?_⟩
                                    clear hz
                                    try cbv
                                    exact loop_next (m7, z24) [0, 2, 3, 4, 5, 6] [.loc 256] 1696 ⟨by omega, h⟩ (Nat.lt_succ_of_le (by omega)) (by cbv)
                    · replace h := ite_t rfl h
                      try cbv
                      refine seq_go ?_
                      try cbv
                      replace h := letF_inv h
                      obtain ⟨z13, hz, h⟩ := h
                      refine ⟨z13, hz, ?_⟩
                      clear hz
                      try cbv
                      exact loop_next (m4, (l4, z13)) [0, 2, 3, 4, 5, 6] [.loc 256] 288 ⟨by omega, h⟩ (Nat.lt_succ_of_le (by omega)) (by cbv)
      · replace h := ite_t rfl h
        try cbv
        refine seq_go ?_
        try cbv
        obtain ⟨rfl, rfl, rfl⟩ := inj3 h
        refine fin_go ?_
        try cbv
        exact ⟨[], rfl, rfl, trivial, trivial, trivial⟩
end Go.Proofs.YtjmofeakajdbiaaDoor
end

set_option linter.unusedVariables false
noncomputable section
namespace Go.Proofs.YtjmofeakajdbiaaDoor
open Go Go.AM

theorem iw {z : Int} (h1 : -9223372036854775808 ≤ z) (h2 : z ≤ 9223372036854775807) : IntKind.i64.wrap z = z := IntWalk.i64_in _ (by omega)
theorem ev75 {a d : Int} (ha : -9223372036854775808 ≤ a) (ha0 : a ≤ 0) (hd0 : 0 ≤ d) (hd : d ≤ 9223372036854775808 - 1) : Ev (fun n => F75 n a d) (if a < -9223372036854775808 + d then (0, 10) else (a - d, 0)) := by
  refine .succ (.of fun n => ?_)
  unfold F75
  rw [if_pos hd0]
  simp only [letF]
  rw [iw (z := -9223372036854775808 + d) (by omega) (by omega)]
  by_cases h : a < -9223372036854775808 + d
  · rw [if_pos h, if_pos h, L75_1, if_pos rfl]
  · rw [if_neg h, if_neg h, if_neg (by omega), L75_1, if_neg Bool.false_ne_true]
    simp only [letF]
    rw [iw (by omega) (by omega)]
theorem ev74 {a : Int} (ha : -9223372036854775808 ≤ a) (ha0 : a ≤ 0) : Ev (fun n => F74 n a 10) (if a < -922337203685477580 then (0, 10) else (a * 10, 0)) := by
  unfold F74
  by_cases h0 : a = 0
  · simp only [if_pos h0]
    refine .succ (.of fun n => ?_)
    rw [L74_1, if_pos rfl, h0]; rfl
  simp only [if_neg h0, show ¬ ((10 : Int) = 0) by decide, if_false]
  refine .succ ?_
  simp only [L74_1, Bool.false_eq_true, if_false]
  refine Ev.bO1 (a := a) (.succ (.of fun n => ?_)) ?_
  · unfold F84; rw [if_neg (by omega), L84_1, if_neg Bool.false_ne_true]
  refine Ev.bO1 (a := -10) (.succ (.of fun n => ?_)) ?_
  · unfold F84; rw [if_pos (by decide), L84_1, if_pos rfl]; rfl
  simp only [if_pos (show a < 0 by omega), show ¬ ((10 : Int) < 0) by decide, if_false]
  refine .succ ?_
  simp only [L74_2, if_true, show ¬ ((-10 : Int) = -9223372036854775808) by decide, if_false]
  refine .succ ?_
  simp only [L74_3, Bool.false_eq_true, if_false, letF, show IntKind.i64.wrap (0 - -10) = 10 from by decide]
  rw [show (IntKind.i64.wrap (Int.tdiv (-9223372036854775808) 10)) = -922337203685477580 from by decide]
  have hn : ∀ x : Option (Int × Int), needF ((10 : Int) ≠ 0) x = x := fun x => if_pos (by decide)
  simp only [hn]
  by_cases h : a < -922337203685477580
  · simp only [if_pos h]
    exact .succ (.of fun n => by rw [L74_5, if_pos rfl])
  · simp only [if_neg h]
    refine .succ (.of fun n => ?_)
    rw [L74_5, if_neg Bool.false_ne_true]
    simp only [letF, show IntKind.i64.wrap (0 - -10) = 10 from by decide]
    rw [iw (by omega) (by omega)]
theorem atLen {s : ByteArray} (hs : s.size ≤ maxLen) : (bl s).length ≤ maxLen := by rw [← bl_len]; exact hs
theorem evL63_7 {s : ByteArray} (hs : s.size ≤ maxLen) : ∀ (rest pre : List UInt8) (v : Nat), pre ++ rest = bl s → rest.all dig = true → v ≤ 9223372036854775808 →
    ∃ w, Ev (fun n => L63_7 n s (0 : Int) (-(v : Int)) (pre.length : Int)) (w, if dvalF v rest < 9223372036854775808 then 0 else 10)
  | [], pre, v, h, _, hv => by
    have hl : pre.length = (bl s).length := by rw [← h]; simp
    have e75 : Ev (fun n => F76 n (-(v : Int))) (if v < 9223372036854775808 then ((v : Int), 0) else (0, 10)) := by
      unfold F76
      by_cases h0 : v = 0
      · subst h0
        refine (ev75 (a := 0) (d := 0) (by decide) (by decide) (by decide) (by decide)).bO2 ?_
        exact .ret
      · have : Ev (fun n => F75 n 0 (-(v : Int))) (if v < 9223372036854775808 then ((v : Int), 0) else (0, 10)) := by
          refine .succ (.of fun n => ?_)
          unfold F75
          rw [if_neg (by omega), if_pos (by omega)]
          simp only [letF]
          rw [iw (z := 9223372036854775807 + -(v : Int)) (by omega) (by omega)]
          by_cases g : v < 9223372036854775808
          · rw [if_neg (by omega), if_pos g, L75_1, if_neg Bool.false_ne_true]
            simp only [letF]
            rw [iw (by omega) (by omega)]
            simp
          · rw [if_pos (by omega), if_neg g, L75_1, if_pos rfl]
        by_cases g : v < 9223372036854775808
        · rw [if_pos g] at this ⊢; exact this.bO2 .ret
        · rw [if_neg g] at this ⊢; exact this.bO2 .ret
    by_cases g : v < 9223372036854775808
    · refine ⟨(v : Int), ?_⟩
      rw [if_pos g] at e75
      rw [if_pos (show dvalF v [] < 9223372036854775808 from g)]
      refine .succ (.succ (.succ (Ev.congr (e75.bO2 (k := fun n a b => some (a, b)) .ret) fun n => ?_)))
      rw [L63_7, szF_eq, if_neg (by omega), L63_8, if_neg Bool.false_ne_true, if_neg (by decide), L63_12, if_neg Bool.false_ne_true]
    · refine ⟨0, ?_⟩
      rw [if_neg g] at e75
      rw [if_neg (show ¬ dvalF v [] < 9223372036854775808 from g)]
      refine .succ (.succ (.succ (Ev.congr (e75.bO2 (k := fun n a b => some (a, b)) .ret) fun n => ?_)))
      rw [L63_7, szF_eq, if_neg (by omega), L63_8, if_neg Bool.false_ne_true, if_neg (by decide), L63_12, if_neg Bool.false_ne_true]
  | b :: rest, pre, v, h, ha, hv => by
    have hlt : pre.length < (bl s).length := by rw [← h]; simp
    have hb := pre_get h
    simp only [List.all_cons, Bool.and_eq_true] at ha
    obtain ⟨h1, h2⟩ := dig_range ha.1
    have hd : dvalF v (b :: rest) = dvalF (v * 10 + (b.toNat - 48)) rest := rfl
    have hge := dvalF_ge rest (v * 10 + (b.toNat - 48))
    have m := ev74 (a := -(v : Int)) (by omega) (by omega)
    have fail : ∀ w : Int, Ev (fun n => L63_10 n s 0 (pre.length : Int) w 10) (0, 10) := fun w => .succ (.succ (.of fun n => by
      rw [L63_10, if_neg (by decide), L63_11, if_pos rfl]))
    by_cases g : -(v : Int) < -922337203685477580
    · refine ⟨0, ?_⟩
      rw [if_pos g] at m
      rw [hd, if_neg (by omega)]
      refine .succ (.succ (Ev.congr (m.bO2 (k := fun n z20 z21 => (if z21 = (0 : Int) then L63_9 n s 0 (pre.length : Int) z20 z21 true else L63_9 n s 0 (pre.length : Int) z20 z21 false)) ?_) fun n => ?_))
      · refine .succ ?_
        simp only [show ¬ ((10 : Int) = 0) by decide, if_false, L63_9, Bool.false_eq_true]
        exact fail 0
      · rw [L63_7, szF_eq, if_pos (by omega), L63_8, if_pos rfl]
    · rw [if_neg g] at m
      have sub := ev75 (a := -(v : Int) * 10) (d := (b.toNat : Int) - 48) (by omega) (by omega) (by omega) (by omega)
      have step : ∀ (w : Int) (e : Int), Ev (fun n => bO2 (F75 n (-(v : Int) * 10) ((b.toNat : Int) - 48)) fun z26 z27 => L63_10 n s 0 (pre.length : Int) z26 z27) (w, e) → Ev (fun n => L63_7 n s 0 (-(v : Int)) (pre.length : Int)) (w, e) := by
        intro w e hh
        refine .succ (.succ (Ev.congr (m.bO2 (k := fun n z20 z21 => (if z21 = (0 : Int) then L63_9 n s 0 (pre.length : Int) z20 z21 true else L63_9 n s 0 (pre.length : Int) z20 z21 false)) ?_) fun n => ?_))
        · refine .succ (hh.congr fun n => ?_)
          rw [if_pos rfl, L63_9, if_pos rfl, atF_get hb]
          simp only [letF]
          rw [wrap_u8 (by omega), iw (by omega) (by omega)]
        · rw [L63_7, szF_eq, if_pos (by omega), L63_8, if_pos rfl]
      by_cases g2 : -(v : Int) * 10 < -9223372036854775808 + ((b.toNat : Int) - 48)
      · refine ⟨0, step _ _ ?_⟩
        rw [if_pos g2] at sub
        rw [hd, if_neg (by omega)]
        exact sub.bO2 (fail 0)
      · rw [if_neg g2] at sub
        obtain ⟨w, ih⟩ := evL63_7 hs rest (pre ++ [b]) (v * 10 + (b.toNat - 48)) (by simpa using h) ha.2 (by omega)
        refine ⟨w, step _ _ (sub.bO2 ?_)⟩
        rw [hd]
        refine .succ (.succ (ih.congr fun n => ?_))
        rw [L63_10, if_pos rfl, L63_11, if_neg Bool.false_ne_true]
        simp only [letF]
        rw [wrap_succ (N := (bl s).length) hlt (atLen hs)]
        congr 1
        · omega
        · simp
theorem evL63_4 {s : ByteArray} (hs : s.size ≤ maxLen) {r : Int × Int} (hr : Ev (fun n => L63_7 n s 0 0 0) r) : ∀ (rest pre : List UInt8), pre ++ rest = bl s → rest.all dig = true → Ev (fun n => L63_4 n s 0 (pre.length : Int)) r
  | [], pre, h, _ => by
    have hl : pre.length = (bl s).length := by rw [← h]; simp
    refine .succ (.succ (hr.congr fun n => ?_))
    rw [L63_4, szF_eq, if_neg (by omega), L63_5, if_neg Bool.false_ne_true]
  | b :: rest, pre, h, ha => by
    have hlt : pre.length < (bl s).length := by rw [← h]; simp
    have hb := pre_get h
    simp only [List.all_cons, Bool.and_eq_true] at ha
    obtain ⟨h1, h2⟩ := dig_range ha.1
    have ih := evL63_4 hs hr rest (pre ++ [b]) (by simpa using h) ha.2
    refine .succ (.succ (.succ (ih.congr fun n => ?_)))
    rw [L63_4, szF_eq, if_pos (by omega), L63_5, if_pos rfl, atF_get hb, if_neg (by omega), atF_get hb, if_neg (by omega), L63_6, if_neg Bool.false_ne_true]
    simp only [letF, wrap_succ (N := (bl s).length) hlt (atLen hs)]
    simp
theorem head63 {s : ByteArray} {b : UInt8} {r : List UInt8} (h : bl s = b :: r) (hb : b ≠ 45) {x : Int × Int} (hx : Ev (fun n => L63_4 n s 0 0) x) : Ev (fun n => F63 n s) x := by
  have h0 : (bl s)[0]? = some b := by rw [h]; rfl
  have hlen : 0 < (bl s).length := by rw [h]; simp
  have hn : ¬ ((b.toNat : Int) = 45) := fun e => hb (by
    have : b.toNat = (45 : UInt8).toNat := by have : (45 : UInt8).toNat = 45 := rfl; omega
    exact UInt8.toNat_inj.1 this)
  refine .succ (.succ (.succ (hx.congr fun n => ?_)))
  unfold F63
  rw [szF_eq, if_pos (by omega), atF_0 h0, if_neg hn, L63_1, if_neg Bool.false_ne_true, L63_2, szF_eq, if_neg (by omega), if_neg (by decide), L63_3, if_neg Bool.false_ne_true]
theorem ev63 {s : ByteArray} (hs : s.size ≤ maxLen) (hne : bl s ≠ []) (ha : (bl s).all dig = true) : ∃ w, Ev (fun n => F63 n s) (w, if numOK (bl s) = true then 0 else 10) := by
  obtain ⟨b, r, h⟩ := List.exists_cons_of_ne_nil hne
  obtain ⟨w, hw⟩ := evL63_7 hs (bl s) [] 0 rfl ha (by decide)
  have hb : b ≠ 45 := by
    rintro rfl
    rw [h] at ha
    revert ha
    simp only [List.all_cons, show dig 45 = false by decide, Bool.false_and]
    decide
  refine ⟨w, head63 h hb (evL63_4 hs ?_ (bl s) [] rfl ha)⟩
  unfold numOK
  simpa using hw
theorem ev63bad {s : ByteArray} {b : UInt8} {r : List UInt8} (h : bl s = b :: r) (hb : b ≠ 45) (hd : dig b = false) : Ev (fun n => F63 n s) (0, 2) := by
  have h0 : (bl s)[0]? = some b := by rw [h]; rfl
  have hlen : 0 < (bl s).length := by rw [h]; simp
  refine head63 h hb (.succ (.succ (.succ (.of fun n => ?_))))
  rw [L63_4, szF_eq, if_pos (by omega), L63_5, if_pos rfl, atF_0 h0]
  unfold dig inZ at hd
  have hd := of_decide_eq_false hd
  by_cases g : (b.toNat : Int) < 48
  · rw [if_pos g, L63_6, if_pos rfl]
  · rw [if_neg g, atF_0 h0, if_pos (by omega), L63_6, if_pos rfl]

def signs20 : List ByteArray := [k___, k____1, k____2, k___1, k___2, k___3, k___4, k___5, k___6, k___7, k___8, k___9, k___10, k___11, k__, k___12, k___13, k___14, k___15, k___16]
def sg20 (s : ByteArray) : Bool := signs20.any fun w => decide (bl w = bl s)
theorem evL47 {s : ByteArray} {k : Int} (hk : Ev (fun n => (if s = ByteArray.empty then L47_4 n s true else atF s (0 : Int) fun z11 => (if z11 = (45 : Int) then L47_4 n s true else L47_4 n s false))) k) :
    ∀ i : Nat, i ≤ 20 → Ev (fun n => L47_1 n s (i : Int)) (if ((signs20.drop i).any fun w => decide (bl w = bl s)) = true then 5 else k) := by
  refine down 20 ?_ ?_
  · refine .succ (.succ (hk.congr fun n => ?_))
    rw [L47_1, if_neg (show ¬ ((20 : Nat) : Int) < 20 by decide), L47_2, if_neg Bool.false_ne_true]
  · intro i hi ih
    have hlt : i < signs20.length := hi
    have hw : (signs20.map D.str)[i]? = some (.str signs20[i]) := by simp [hlt]
    have hw : ([.str k___, .str k____1, .str k____2, .str k___1, .str k___2, .str k___3, .str k___4, .str k___5, .str k___6, .str k___7, .str k___8, .str k___9, .str k___10, .str k___11, .str k__, .str k___12, .str k___13, .str k___14, .str k___15, .str k___16] : List D)[i]? = some (.str signs20[i]) := hw
    rw [List.drop_eq_getElem_cons hlt, List.any_cons]
    by_cases he : signs20[i] = s
    · refine .succ (.succ (.succ (.of fun n => ?_)))
      rw [L47_1, if_pos (by omega), L47_2, if_pos rfl, getF_nat hw]
      simp only [ds_str]
      rw [if_pos he, L47_3, if_pos rfl, decide_eq_true (congrArg bl he)]
      rfl
    · rw [decide_eq_false (fun e => he (bl_inj e)), Bool.false_or]
      refine .succ (.succ (.succ (ih.congr fun n => ?_)))
      rw [L47_1, if_pos (by omega), L47_2, if_pos rfl, getF_nat hw]
      simp only [ds_str]
      rw [if_neg he, L47_3, if_neg Bool.false_ne_true]
      simp only [letF, wrap_succ (N := 20) hi (by decide)]
def kindN (t : List UInt8) : Int := match t with
  | [] => 0
  | b :: _ => if b = 45 then 0 else if dig b = true then (if numOK t = true then 4 else 0) else 0
theorem kindN_cons {t : List UInt8} {b : UInt8} {r : List UInt8} (h : t = b :: r) : kindN t = if b = 45 then 0 else if dig b = true then (if numOK t = true then 4 else 0) else 0 := by subst h; rfl
def kindT (t : List UInt8) : Int := if kindW t ≠ 0 then kindW t else if sg20 (tx t) = true then 5 else kindN t
theorem ev47 {s : ByteArray} (hs : s.size ≤ maxLen) (hne : bl s ≠ []) (hd : ∀ b r, bl s = b :: r → dig b = true → (bl s).all dig = true) : Ev (fun n => F47 n s) (kindT (bl s)) := by
  unfold F47 kindT kindW
  rw [tx_bl]
  refine Ev.bO1 (ev12 s) ?_
  cases word s with
  | true => simp only [if_true]; exact .ret
  | false =>
    simp only [Bool.false_eq_true, if_false]
    refine Ev.bO1 (ev14 hs) ?_
    cases nm 97 122 s with
    | true => simp only [if_true]; exact .ret
    | false =>
      simp only [Bool.false_eq_true, if_false]
      refine Ev.bO1 (ev16 hs) ?_
      cases nm 65 90 s with
      | true => simp only [if_true]; exact .ret
      | false =>
        simp only [Bool.false_eq_true, if_false, ne_eq, not_true_eq_false]
        refine evL47 (k := _) ?_ 0 (by decide)
        obtain ⟨b, r, h⟩ := List.exists_cons_of_ne_nil hne
        have h0 : (bl s)[0]? = some b := by rw [h]; rfl
        have hemp : ¬ s = ByteArray.empty := fun e => hne (empty_iff.1 e)
        simp only [if_neg hemp, atF_0 h0]
        rw [kindN_cons h]
        by_cases h45 : b = 45
        · subst h45
          simp only [if_true]
          exact .succ (.of fun n => by rw [if_pos (by decide), L47_4, if_pos rfl])
        · have hn : ¬ ((b.toNat : Int) = 45) := fun e => h45 (by
            have : b.toNat = (45 : UInt8).toNat := by have : (45 : UInt8).toNat = 45 := rfl; omega
            exact UInt8.toNat_inj.1 this)
          simp only [if_neg hn, if_neg h45]
          refine .succ ?_
          simp only [L47_4, Bool.false_eq_true, if_false]
          cases hdb : dig b with
          | true =>
            obtain ⟨w, hw⟩ := ev63 hs hne (hd b r h hdb)
            refine hw.bO2 ?_
            cases numOK (bl s) with
            | true => simp only [if_true]; exact .succ (.of fun n => by rw [L47_5, if_pos rfl])
            | false => simp only [Bool.false_eq_true, if_false, if_true, show ¬ ((10 : Int) = 0) by decide]; exact .succ (.of fun n => by rw [L47_5, if_neg Bool.false_ne_true])
          | false =>
            refine (ev63bad h h45 hdb).bO2 ?_
            simp only [Bool.false_eq_true, if_false, show ¬ ((2 : Int) = 0) by decide]
            exact .succ (.of fun n => by rw [L47_5, if_neg Bool.false_ne_true])
end Go.Proofs.YtjmofeakajdbiaaDoor

set_option linter.unusedVariables false
noncomputable section
namespace Go.Proofs.YtjmofeakajdbiaaDoor
open Go Go.AM

theorem words_part : (wordsL.all fun w => (bl w).all pB && (match bl w with | [] => false | b :: _ => letter b) && (skipB false (bl w) == 0)) = true := by kernel_rfl
theorem letter_part {b : UInt8} (h : letter b = true) : pB b = true := by
  unfold letter at h; unfold pB partZ; simp at h; rcases h with h | h <;> simp [h]
theorem nm_iff {lo hi : Int} {s : ByteArray} : nm lo hi s = true ↔ ∃ b r, bl s = b :: r ∧ (b :: r).length ≤ 16 ∧ inZ lo hi (b.toNat : Int) = true ∧ (b :: r).all pB = true ∧ word s = false := by
  unfold nm
  split
  · rename_i h
    simp [h]
  · rename_i b r h
    simp only [Bool.and_eq_true, decide_eq_true_eq, Bool.not_eq_true', h]
    constructor
    · rintro ⟨⟨⟨h1, h2⟩, h3⟩, h4⟩; exact ⟨b, r, rfl, h1, h2, h3, h4⟩
    · rintro ⟨_, _, e, h1, h2, h3, h4⟩; cases e; exact ⟨⟨⟨h1, h2⟩, h3⟩, h4⟩
theorem kind_letters {s : ByteArray} (h : kindW (bl s) ≠ 0) : ∃ b r, bl s = b :: r ∧ letter b = true ∧ (b :: r).all pB = true := by
  unfold kindW at h
  rw [tx_bl] at h
  cases hw : word s with
  | true =>
    have hm := word_iff.1 hw
    have := List.all_eq_true.1 words_part s hm
    simp only [Bool.and_eq_true] at this
    obtain ⟨⟨h1, h2⟩, _⟩ := this
    cases hs : bl s with
    | nil => rw [hs] at h2; cases h2
    | cons b r => rw [hs] at h1 h2; exact ⟨b, r, rfl, h2, h1⟩
  | false =>
    rw [hw] at h
    simp only [Bool.false_eq_true, if_false] at h
    cases hn : nm 97 122 s with
    | true =>
      obtain ⟨b, r, e, _, h2, h3, _⟩ := nm_iff.1 hn
      exact ⟨b, r, e, by unfold letter; rw [h2]; rfl, h3⟩
    | false =>
      rw [hn] at h
      simp only [Bool.false_eq_true, if_false] at h
      cases ht : nm 65 90 s with
      | true =>
        obtain ⟨b, r, e, _, h2, h3, _⟩ := nm_iff.1 ht
        exact ⟨b, r, e, by unfold letter; rw [h2]; simp, h3⟩
      | false => rw [ht] at h; exact absurd rfl h

theorem evL46_2 {s : ByteArray} (hs : s.size ≤ maxLen) : ∀ (rest pre : List UInt8), pre ++ rest = bl s → Ev (fun n => L46_2 n s (pre.length : Int)) (((pre.length + (rest.takeWhile dig).length : Nat) : Int))
  | [], pre, h => by
    have hl : pre.length = (bl s).length := by rw [← h]; simp
    refine .succ (.succ (.of fun n => ?_))
    rw [L46_2, szF_eq, if_neg (by omega), L46_3, if_neg Bool.false_ne_true]
    simp
  | b :: rest, pre, h => by
    have hlt : pre.length < (bl s).length := by rw [← h]; simp
    have hb := pre_get h
    cases hp : dig b with
    | false =>
      have hd := hp
      unfold dig inZ at hd
      have hd := of_decide_eq_false hd
      refine .succ (.succ (.of fun n => ?_))
      rw [L46_2, szF_eq, if_pos (by omega), atF_get hb]
      by_cases g : (48 : Int) ≤ (b.toNat : Int)
      · rw [if_pos g, atF_get hb, if_neg (by omega), L46_3, if_neg Bool.false_ne_true]; simp [hp]
      · rw [if_neg g, L46_3, if_neg Bool.false_ne_true]; simp [hp]
    | true =>
      obtain ⟨h1, h2⟩ := dig_range hp
      have ih := evL46_2 hs rest (pre ++ [b]) (by simpa using h)
      have e : (pre ++ [b]).length + (rest.takeWhile dig).length = pre.length + ((b :: rest).takeWhile dig).length := by
        simp [hp]; omega
      rw [e] at ih
      refine .succ (.succ (ih.congr fun n => ?_))
      rw [L46_2, szF_eq, if_pos (by omega), atF_get hb, if_pos (by omega), atF_get hb, if_pos (by omega), L46_3, if_pos rfl]
      simp only [letF, wrap_succ (N := (bl s).length) hlt (atLen hs)]
      simp
theorem evL46_5 {s : ByteArray} (hs : s.size ≤ maxLen) : ∀ (rest pre : List UInt8), pre ++ rest = bl s → Ev (fun n => L46_5 n s (pre.length : Int)) (((pre.length + (rest.takeWhile pB).length : Nat) : Int))
  | [], pre, h => by
    have hl : pre.length = (bl s).length := by rw [← h]; simp
    refine .succ (.succ (.of fun n => ?_))
    rw [L46_5, szF_eq, if_neg (by omega), L46_6, if_neg Bool.false_ne_true]
    simp
  | b :: rest, pre, h => by
    have hlt : pre.length < (bl s).length := by rw [← h]; simp
    have hb := pre_get h
    cases hp : pB b with
    | false =>
      refine .succ (.succ (.of fun n => ?_))
      rw [L46_5, szF_eq, if_pos (by omega), atF_get hb, f53]
      simp only [bO1]
      rw [show partZ (b.toNat : Int) = false from hp, L46_6, if_neg Bool.false_ne_true]
      simp [hp]
    | true =>
      have ih := evL46_5 hs rest (pre ++ [b]) (by simpa using h)
      have e : (pre ++ [b]).length + (rest.takeWhile pB).length = pre.length + ((b :: rest).takeWhile pB).length := by
        simp [hp]; omega
      rw [e] at ih
      refine .succ (.succ (ih.congr fun n => ?_))
      rw [L46_5, szF_eq, if_pos (by omega), atF_get hb, f53]
      simp only [bO1]
      rw [show partZ (b.toNat : Int) = true from hp, L46_6, if_pos rfl]
      simp only [letF, wrap_succ (N := (bl s).length) hlt (atLen hs)]
      simp
def endL (l : List UInt8) : Nat := match l with
  | [] => 0
  | b :: r => if dig b = true then (l.takeWhile dig).length else if letter b = true then (l.takeWhile pB).length else if 2 ≤ l.length ∧ kindT (l.take 2) = 5 then 2 else 1
theorem part_letter {b : UInt8} (hd : dig b = false) : letter b = (partZ (b.toNat : Int) && !decide ((b.toNat : Int) = 95)) := by
  unfold dig at hd
  unfold letter partZ
  rw [hd]
  by_cases h : (b.toNat : Int) = 95
  · rw [h]; decide
  · simp [h]
theorem ev46 {s : ByteArray} (hs : s.size ≤ maxLen) {pre r : List UInt8} {b : UInt8} (h : pre ++ b :: r = bl s) : Ev (fun n => F46 n s (pre.length : Int)) (((pre.length + endL (b :: r) : Nat) : Int)) := by
  have hlt : pre.length < (bl s).length := by rw [← h]; simp
  have hsum : pre.length + (r.length + 1) = (bl s).length := by rw [← h]; simp
  have hb := pre_get h
  have hw := wrap_succ (N := (bl s).length) hlt (atLen hs)
  have hpb : (pre ++ [b]) ++ r = bl s := by simpa using h
  have hlen : (pre ++ [b]).length = pre.length + 1 := by simp
  have hcast : (((pre ++ [b]).length : Nat) : Int) = ((pre.length + 1 : Nat) : Int) := by rw [hlen]
  unfold F46
  simp only [atF_get hb, letF, hw]
  cases hd : dig b with
  | true =>
    obtain ⟨h1, h2⟩ := dig_range hd
    have e := evL46_2 hs r (pre ++ [b]) hpb
    rw [hcast] at e
    have ee : (pre ++ [b]).length + (r.takeWhile dig).length = pre.length + endL (b :: r) := by simp [endL, hd]; omega
    rw [ee] at e
    refine .succ (e.congr fun n => ?_)
    rw [if_pos (by omega), if_pos (by omega), L46_1, if_pos rfl]
  | false =>
    have hd' := hd
    unfold dig inZ at hd'
    have hd' := of_decide_eq_false hd'
    suffices hh : Ev (fun n => L46_1 n s (pre.length : Int) (b.toNat : Int) ((pre.length + 1 : Nat) : Int) false) (((pre.length + endL (b :: r) : Nat) : Int)) by
      refine hh.congr fun n => ?_
      by_cases g : (48 : Int) ≤ (b.toNat : Int)
      · rw [if_pos g, if_neg (by omega)]
      · rw [if_neg g]
    have pl := part_letter hd
    refine .succ ?_
    simp only [L46_1, Bool.false_eq_true, if_false, f53]
    simp only [bO1]
    cases hl : letter b with
    | true =>
      rw [hl] at pl
      have pl := pl.symm
      simp only [Bool.and_eq_true, Bool.not_eq_true', decide_eq_false_iff_not] at pl
      simp only [pl.1, if_true, if_neg pl.2]
      refine .succ ?_
      simp only [L46_4, if_true]
      have e := evL46_5 hs r (pre ++ [b]) hpb
      rw [hcast] at e
      have ee : (pre ++ [b]).length + (r.takeWhile pB).length = pre.length + endL (b :: r) := by simp [endL, hd, hl, letter_part hl]; omega
      rw [ee] at e
      exact e
    | false =>
      rw [hl] at pl
      have four : Ev (fun n => L46_4 n s (pre.length : Int) ((pre.length + 1 : Nat) : Int) false) (((pre.length + endL (b :: r) : Nat) : Int)) := by
        refine .succ ?_
        simp only [L46_4, Bool.false_eq_true, if_false, szF_eq]
        have hE : endL (b :: r) = if 2 ≤ (b :: r).length ∧ kindT ((b :: r).take 2) = 5 then 2 else 1 := by simp [endL, hd, hl]
        rw [hE]
        by_cases g : ((pre.length + 1 : Nat) : Int) < ((bl s).length : Int)
        · have g' : pre.length + 1 < (bl s).length := by omega
          simp only [if_pos g, letF, wrap_succ (N := (bl s).length) g' (atLen hs)]
          have ht : (((bl s).take (pre.length + 1 + 1)).drop pre.length) = (b :: r).take 2 := by
            rw [← h, List.take_append]
            simp only [show pre.length + 1 + 1 - pre.length = 2 by omega]
            rw [List.take_of_length_le (by omega)]; simp
          have hne : (b :: r).take 2 ≠ [] := by simp
          have hsz : (tx ((b :: r).take 2)).size ≤ maxLen := by
            rw [bl_len, bl_tx, List.length_take]
            have : 2 ≤ maxLen := by decide
            omega
          have k := ev47 hsz (by rw [bl_tx]; exact hne) (fun c q e1 e2 => by
            rw [bl_tx] at e1
            simp at e1
            rw [← e1.1, hd] at e2
            cases e2)
          rw [bl_tx] at k
          refine Ev.congr (A := fun n => bO1 (F47 n (tx ((b :: r).take 2))) fun z23 => (if z23 = (5 : Int) then L46_7 n ((pre.length + 1 : Nat) : Int) true else L46_7 n ((pre.length + 1 : Nat) : Int) false)) (Ev.bO1 k ?_) fun n => by rw [subF_eq (by omega) (by omega), ht]
          by_cases k5 : kindT ((b :: r).take 2) = 5
          · simp only [if_pos k5]
            rw [if_pos ⟨by simp; omega, k5⟩]
            refine .succ (.of fun n => ?_)
            rw [L46_7, if_pos rfl]
            simp only [letF, wrap_succ (N := (bl s).length) g' (atLen hs)]
          · simp only [if_neg k5]
            rw [if_neg (fun e => k5 e.2)]
            exact .succ (.of fun n => by rw [L46_7, if_neg Bool.false_ne_true])
        · simp only [if_neg g]
          have : ¬ (2 ≤ (b :: r).length ∧ kindT ((b :: r).take 2) = 5) := fun e => by have := e.1; simp at this; omega
          rw [if_neg this]
          exact .succ (.of fun n => by rw [L46_7, if_neg Bool.false_ne_true])
      by_cases p : partZ (b.toNat : Int) = true
      · rw [p] at pl
        have : (b.toNat : Int) = 95 := by simpa using pl
        simp only [p, if_true, if_pos this]
        exact four
      · simp only [p, if_false]
        exact four
end Go.Proofs.YtjmofeakajdbiaaDoor

set_option linter.unusedVariables false
noncomputable section
namespace Go.Proofs.YtjmofeakajdbiaaDoor
open Go Go.AM

def signsB : List (List UInt8) := [[61, 61], [61, 62], [45, 62], [40], [41], [123], [125], [60], [62], [44], [59], [58], [61], [38], [42], [46], [43], [45], [47], [37]]
theorem signs20_bl : signs20.map bl = signsB := by kernel_rfl
theorem sg20_iff {t : List UInt8} : sg20 (tx t) = true ↔ t ∈ signsB := by
  unfold sg20
  rw [List.any_eq_true, bl_tx, ← signs20_bl, List.mem_map]
  constructor
  · rintro ⟨w, h1, h2⟩; exact ⟨w, h1, of_decide_eq_true h2⟩
  · rintro ⟨w, h1, h2⟩; exact ⟨w, h1, decide_eq_true h2⟩
theorem signs_heads : (signsB.all fun t => match t with | [] => false | b :: _ => !dig b && !letter b) = true := by kernel_rfl
theorem sg20_head {b : UInt8} {r : List UInt8} (h : dig b = true ∨ letter b = true) : sg20 (tx (b :: r)) = false := by
  cases e : sg20 (tx (b :: r)) with
  | false => rfl
  | true =>
    have := List.all_eq_true.1 signs_heads _ (sg20_iff.1 e)
    simp only [Bool.and_eq_true, Bool.not_eq_true'] at this
    rcases h with h | h
    · rw [h] at this; cases this.1
    · rw [h] at this; cases this.2
theorem kindW_no {b : UInt8} {r : List UInt8} (h : letter b = false) : kindW (b :: r) = 0 := by
  refine Classical.byContradiction fun hne => ?_
  obtain ⟨c, q, e, hl, _⟩ := kind_letters (s := tx (b :: r)) (by rw [bl_tx]; exact hne)
  rw [bl_tx] at e
  cases e
  rw [h] at hl; cases hl
theorem letter_no_dig {b : UInt8} (h : dig b = true) : letter b = false := by
  obtain ⟨h1, h2⟩ := dig_range h
  unfold letter inZ
  rw [decide_eq_false (by omega), decide_eq_false (by omega)]; rfl
theorem kindT_sign {b : UInt8} {r : List UInt8} (hd : dig b = false) (hl : letter b = false) : kindT (b :: r) = if (b :: r) ∈ signsB then 5 else 0 := by
  unfold kindT
  rw [kindW_no hl, if_neg (by simp), kindN_cons rfl, hd]
  by_cases g : (b :: r) ∈ signsB
  · rw [if_pos (sg20_iff.2 g), if_pos g]
  · rw [if_neg (fun e => g (sg20_iff.1 e)), if_neg g]
    simp
theorem twoS_iff {b : UInt8} {r : List UInt8} (hd : dig b = false) (hl : letter b = false) : twoS (b :: r) = true ↔ (2 ≤ (b :: r).length ∧ kindT ((b :: r).take 2) = 5) := by
  unfold twoS
  rw [hasPrefix_two, hasPrefix_two, hasPrefix_two]
  match r with
  | [] => simp
  | c :: r =>
    rw [show (b :: c :: r).take 2 = [b, c] from rfl, kindT_sign hd hl]
    simp only [signsB, List.head?_cons, List.tail_cons, Option.some.injEq]
    by_cases c1 : b = 61 <;> by_cases c2 : c = 61 <;> by_cases c3 : c = 62 <;> by_cases c4 : b = 45 <;> simp [c1, c2, c3, c4]
theorem sgn_iff {b : UInt8} : sgn b = true ↔ [b] ∈ signsB := by
  unfold sgn
  simp [signsB, signsL]
theorem link (b : UInt8) (r : List UInt8) : kindT ((b :: r).take (endL (b :: r))) = (oneL (b :: r)).1 ∧ ((oneL (b :: r)).1 ≠ 0 → (b :: r).take (endL (b :: r)) = (oneL (b :: r)).2) ∧ 1 ≤ endL (b :: r) ∧ endL (b :: r) ≤ (b :: r).length ∧
    (dig b = true → ((b :: r).take (endL (b :: r))).all dig = true) := by
  have hone : oneL (b :: r) = (if letter b = true then (kindW ((b :: r).takeWhile pB), (b :: r).takeWhile pB)
    else if dig b = true then (if numOK ((b :: r).takeWhile dig) = true then (4, (b :: r).takeWhile dig) else (0, []))
    else if twoS (b :: r) = true then (5, (b :: r).take 2) else if sgn b = true then (5, (b :: r).take 1) else (0, [])) := rfl
  have hE : endL (b :: r) = if dig b = true then ((b :: r).takeWhile dig).length else if letter b = true then ((b :: r).takeWhile pB).length else if 2 ≤ (b :: r).length ∧ kindT ((b :: r).take 2) = 5 then 2 else 1 := rfl
  rw [hone, hE]
  cases hd : dig b with
  | true =>
    have hl := letter_no_dig hd
    simp only [if_true, hl, Bool.false_eq_true, if_false]
    rw [takeWhile_take]
    have hc : (b :: r).takeWhile dig = b :: r.takeWhile dig := by simp [hd]
    have h45 : b ≠ 45 := by rintro rfl; exact absurd hd (by decide)
    have hk : kindT ((b :: r).takeWhile dig) = if numOK ((b :: r).takeWhile dig) = true then 4 else 0 := by
      unfold kindT
      rw [show kindW ((b :: r).takeWhile dig) = 0 by rw [hc]; exact kindW_no hl, if_neg (by simp), show sg20 (tx ((b :: r).takeWhile dig)) = false by rw [hc]; exact sg20_head (.inl hd), if_neg Bool.false_ne_true, kindN_cons hc, if_neg h45, hd, if_pos rfl]
    rw [hk]
    refine ⟨?_, ?_, by rw [hc]; simp, takeWhile_le _ _, fun _ => all_takeWhile _ _⟩
    · cases numOK ((b :: r).takeWhile dig) <;> rfl
    · cases numOK ((b :: r).takeWhile dig)
      · intro h; exact absurd rfl h
      · intro _; rfl
  | false =>
    simp only [Bool.false_eq_true, if_false]
    cases hl : letter b with
    | true =>
      simp only [if_true]
      rw [takeWhile_take]
      have hc : (b :: r).takeWhile pB = b :: r.takeWhile pB := by simp [letter_part hl]
      have h45 : b ≠ 45 := by rintro rfl; exact absurd hl (by decide)
      refine ⟨?_, fun _ => rfl, by rw [hc]; simp, takeWhile_le _ _, fun h => by cases h⟩
      unfold kindT
      by_cases k : kindW ((b :: r).takeWhile pB) = 0
      · rw [if_neg (by simp [k]), show sg20 (tx ((b :: r).takeWhile pB)) = false by rw [hc]; exact sg20_head (.inr hl), if_neg Bool.false_ne_true, kindN_cons hc, if_neg h45, hd, if_neg Bool.false_ne_true, k]
      · rw [if_pos k]
    | false =>
      simp only [Bool.false_eq_true, if_false]
      by_cases t2 : twoS (b :: r) = true
      · obtain ⟨g1, g2⟩ := (twoS_iff hd hl).1 t2
        rw [if_pos ⟨g1, g2⟩, if_pos t2]
        exact ⟨g2, fun _ => rfl, by decide, g1, fun h => by cases h⟩
      · have t2' := fun e => t2 ((twoS_iff hd hl).2 e)
        rw [if_neg t2', if_neg t2]
        refine ⟨?_, ?_, by decide, by simp, fun h => by cases h⟩
        · rw [show (b :: r).take 1 = [b] from rfl, kindT_sign hd hl]
          by_cases g : sgn b = true
          · rw [if_pos (sgn_iff.1 g), if_pos g]
          · rw [if_neg (fun e => g (sgn_iff.2 e)), if_neg g]
        · intro h
          by_cases g : sgn b = true
          · rw [if_pos g]
          · rw [if_neg g] at h; exact absurd rfl h
end Go.Proofs.YtjmofeakajdbiaaDoor

set_option linter.unusedVariables false
noncomputable section
namespace Go.Proofs.YtjmofeakajdbiaaDoor
open Go Go.AM

structure Tok where
  k : Int
  t : List UInt8
  at_ : Nat
def tokD (x : Tok) : D := .agg [.int .u8 x.k, .str (tx x.t), .int .i64 (x.at_ : Int)]
def toks : Nat → Nat → List UInt8 → List Tok × Option Nat
  | 0, _, _ => ([], none)
  | n + 1, p, l => match l with
    | [] => ([], none)
    | b :: r => if (oneL (b :: r)).1 = 0 then ([], some p) else
        let k := (oneL (b :: r)).2.length
        let q := skipB false ((b :: r).drop k)
        let z := toks n (p + k + q) (((b :: r).drop k).drop q)
        (⟨(oneL (b :: r)).1, (oneL (b :: r)).2, p⟩ :: z.1, z.2)
def lexR (l : List UInt8) : List Tok × Int × Int :=
  if 4000 < l.length then ([], 0, 3) else
    match toks l.length (skipB false l) (l.drop (skipB false l)) with
    | (_, some e) => ([], (e : Int), 20)
    | (ts, none) => if 1500 < ts.length then ([], 0, 4) else (ts, 0, 0)

theorem oneL_take (l : List UInt8) (h : (oneL l).1 ≠ 0) : 1 ≤ (oneL l).2.length ∧ (oneL l).2.length ≤ l.length ∧ (oneL l).2 = l.take (oneL l).2.length := by
  match l, h with
  | [], h => exact absurd rfl h
  | b :: r, h =>
    have hone : oneL (b :: r) = (if letter b = true then (kindW ((b :: r).takeWhile pB), (b :: r).takeWhile pB)
      else if dig b = true then (if numOK ((b :: r).takeWhile dig) = true then (4, (b :: r).takeWhile dig) else (0, []))
      else if twoS (b :: r) = true then (5, (b :: r).take 2) else if sgn b = true then (5, (b :: r).take 1) else (0, [])) := rfl
    rw [hone] at h ⊢
    cases hl : letter b with
    | true =>
      simp only [if_true]
      have hp : pB b = true := by unfold letter at hl; unfold pB partZ; simp at hl; rcases hl with h | h <;> simp [h]
      exact ⟨by simp [hp], takeWhile_le _ _, (takeWhile_take _ _).symm⟩
    | false =>
      rw [hl] at h
      simp only [Bool.false_eq_true, if_false] at h ⊢
      cases hd : dig b with
      | true =>
        rw [hd] at h
        simp only [if_true] at h ⊢
        cases hn : numOK ((b :: r).takeWhile dig) with
        | true => simp only [if_true]; exact ⟨by simp [hd], takeWhile_le _ _, (takeWhile_take _ _).symm⟩
        | false => rw [hn] at h; simp at h
      | false =>
        rw [hd] at h
        simp only [Bool.false_eq_true, if_false] at h ⊢
        cases ht : twoS (b :: r) with
        | true =>
          simp only [if_true]
          have h2 : 2 ≤ (b :: r).length := by
            unfold twoS at ht
            match r, ht with
            | [], ht => simp [hasPrefix_two] at ht
            | c :: r, _ => simp
          exact ⟨by simp, by simp; omega, by simp⟩
        | false =>
          rw [ht] at h
          simp only [Bool.false_eq_true, if_false] at h ⊢
          cases hg : sgn b with
          | true => simp only [if_true]; exact ⟨by simp, by simp, by simp⟩
          | false => rw [hg] at h; simp at h

def endR (acc : List D) (z : List Tok × Option Nat) : List D × Int × Int :=
  match z.2 with
  | some e => ([], (e : Int), 20)
  | none => if 1500 < acc.length + z.1.length then ([], 0, 4) else (acc ++ z.1.map tokD, 0, 0)

theorem byEq {b c : UInt8} : ((b.toNat : Int) = (c.toNat : Int)) ↔ b = c := ⟨fun e => UInt8.toNat_inj.1 (by omega), fun e => by rw [e]⟩
theorem open26 {s : ByteArray} {acc : List D} {p : Nat} {b : UInt8} (hb : (bl s)[p]? = some b) (hlt : p < (bl s).length) (n : Nat) : L26_2 (n + 2) s acc (p : Int) = L26_4 n s acc (p : Int) (blank b) := by
  have e1 : ((b.toNat : Int) = 32) ↔ b = 32 := byEq (c := 32)
  have e2 : ((b.toNat : Int) = 9) ↔ b = 9 := byEq (c := 9)
  have e3 : ((b.toNat : Int) = 10) ↔ b = 10 := byEq (c := 10)
  have e4 : ((b.toNat : Int) = 13) ↔ b = 13 := byEq (c := 13)
  rw [L26_2, szF_eq, if_pos (by omega), L26_3, if_pos rfl]
  simp only [atF_get hb, e1, e2, e3, e4]
  by_cases c1 : b = 32
  · rw [if_pos c1]; simp [blank, c1]
  · rw [if_neg c1]
    by_cases c2 : b = 9
    · rw [if_pos c2]; simp [blank, c2]
    · rw [if_neg c2]
      by_cases c3 : b = 10
      · rw [if_pos c3]; simp [blank, c3]
      · rw [if_neg c3]
        by_cases c4 : b = 13
        · rw [if_pos c4]; simp [blank, c4]
        · rw [if_neg c4, show blank b = false by simp [blank, c1, c2, c3, c4]]
theorem open26b {s : ByteArray} (hs : s.size ≤ maxLen) {acc : List D} {pre r : List UInt8} {b : UInt8} (h : pre ++ b :: r = bl s) (n : Nat) : L26_4 (n + 1) s acc (pre.length : Int) false = L26_5 n s acc (pre.length : Int) (decide (b = 47 ∧ r.head? = some 47)) := by
  have hlt : pre.length < (bl s).length := by rw [← h]; simp
  have hsum : pre.length + (r.length + 1) = (bl s).length := by rw [← h]; simp
  have hb := pre_get h
  have e1 : ((b.toNat : Int) = 47) ↔ b = 47 := byEq (c := 47)
  rw [L26_4, if_neg Bool.false_ne_true, atF_get hb]
  simp only [letF, wrap_succ (N := (bl s).length) hlt (atLen hs), szF_eq, e1]
  by_cases c1 : b = 47
  · rw [if_pos c1]
    match r, h, hsum with
    | [], _, hsum => rw [if_neg (by simp at hsum; omega)]; simp
    | c :: r', h, hsum =>
      have hc : (bl s)[pre.length + 1]? = some c := by
        have := pre_get (pre := pre ++ [b]) (rest := r') (b := c) (l := bl s) (by simpa using h)
        simpa using this
      have e2 : ((c.toNat : Int) = 47) ↔ c = 47 := byEq (c := 47)
      simp only [List.length_cons] at hsum
      rw [if_pos (by omega), atF_get hc]
      simp only [e2]
      by_cases c2 : c = 47
      · rw [if_pos c2]; simp [c1, c2]
      · rw [if_neg c2]; simp [c1, c2]
  · rw [if_neg c1]; simp [c1]
theorem evL26_6 {s : ByteArray} (hs : s.size ≤ maxLen) {acc : List D} {x : List D × Int × Int} : ∀ (rest pre : List UInt8), pre ++ rest = bl s → Ev (fun n => L26_2 n s acc (((pre.length + (rest.takeWhile (· != 10)).length : Nat) : Int))) x → Ev (fun n => L26_6 n s acc (pre.length : Int)) x
  | [], pre, h, hx => by
    have hl : pre.length = (bl s).length := by rw [← h]; simp
    refine .succ (.succ (hx.congr fun n => ?_))
    rw [L26_6, szF_eq, if_neg (by omega), L26_7, if_neg Bool.false_ne_true]
    simp
  | b :: rest, pre, h, hx => by
    have hlt : pre.length < (bl s).length := by rw [← h]; simp
    have hb := pre_get h
    have e1 : ((b.toNat : Int) = 10) ↔ b = 10 := byEq (c := 10)
    by_cases c : b = 10
    · refine .succ (.succ (hx.congr fun n => ?_))
      rw [L26_6, szF_eq, if_pos (by omega), atF_get hb, if_pos (e1.2 c), L26_7, if_neg Bool.false_ne_true]
      simp [c]
    · have ih := evL26_6 hs rest (pre ++ [b]) (by simpa using h) (x := x) (by
        have e : (pre ++ [b]).length + (rest.takeWhile (· != 10)).length = pre.length + ((b :: rest).takeWhile (· != 10)).length := by
          simp [c]; omega
        rw [e]; exact hx)
      refine .succ (.succ (ih.congr fun n => ?_))
      rw [L26_6, szF_eq, if_pos (by omega), atF_get hb, if_neg (fun e => c (e1.1 e)), L26_7, if_pos rfl]
      simp only [letF, wrap_succ (N := (bl s).length) hlt (atLen hs)]
      simp
theorem skip26 {s : ByteArray} (hs : s.size ≤ maxLen) {acc : List D} {x : List D × Int × Int} : ∀ (m : Nat) (rest pre : List UInt8), rest.length ≤ m → pre ++ rest = bl s → Ev (fun n => L26_2 n s acc (((pre.length + skipB false rest : Nat) : Int))) x → Ev (fun n => L26_2 n s acc (pre.length : Int)) x := by
  intro m
  induction m with
  | zero =>
    intro rest pre hm h hx
    have : rest = [] := List.eq_nil_of_length_eq_zero (by omega)
    subst this
    simpa [skipB] using hx
  | succ m ih =>
    intro rest pre hm h hx
    match rest, hm, h, hx with
    | [], _, _, hx => simpa [skipB] using hx
    | b :: r, hm, h, hx =>
      have hlt : pre.length < (bl s).length := by rw [← h]; simp
      have hb := pre_get h
      simp only [List.length_cons] at hm
      by_cases hbl : blank b = true
      · have ih' := ih r (pre ++ [b]) (by omega) (by simpa using h) (by
          have e : (pre ++ [b]).length + skipB false r = pre.length + skipB false (b :: r) := by simp [skipB, hbl]; omega
          rw [e]; exact hx)
        refine .succ (.succ (.succ (ih'.congr fun n => ?_)))
        rw [open26 hb hlt, hbl, L26_4, if_pos rfl]
        simp only [letF, wrap_succ (N := (bl s).length) hlt (atLen hs)]
        simp
      · have hbl : blank b = false := by simpa using hbl
        by_cases rem : b = 47 ∧ r.head? = some 47
        · have hsk : skipB false (b :: r) = 1 + skipB true r := by simp only [skipB, hbl, Bool.false_eq_true, if_false, if_pos rem]
          have hnb : (b != 10) = true := by rw [rem.1]; decide
          let L := ((b :: r).takeWhile (· != 10)).length
          have hL : L = 1 + (r.takeWhile (· != 10)).length := by
            show ((b :: r).takeWhile (· != 10)).length = _
            rw [List.takeWhile_cons, hnb]; simp; omega
          have hLle : L ≤ (b :: r).length := takeWhile_le _ _
          have hd : (b :: r).drop L = r.drop (r.takeWhile (· != 10)).length := by rw [hL, Nat.add_comm, List.drop_succ_cons]
          have hsk2 : skipB false (b :: r) = L + skipB false ((b :: r).drop L) := by
            rw [hsk, skip_remark r, hd, hL]; omega
          have ih' := ih ((b :: r).drop L) (pre ++ (b :: r).take L) (by rw [List.length_drop]; simp only [List.length_cons]; omega) (by rw [List.append_assoc, List.take_append_drop, h]) (by
            have e : (pre ++ (b :: r).take L).length + skipB false ((b :: r).drop L) = pre.length + skipB false (b :: r) := by
              rw [hsk2, List.length_append, List.length_take, Nat.min_eq_left hLle]; omega
            rw [e]; exact hx)
          have e2 : (pre ++ (b :: r).take L).length = pre.length + L := by rw [List.length_append, List.length_take, Nat.min_eq_left hLle]
          rw [e2] at ih'
          have six := evL26_6 hs (b :: r) pre h ih'
          refine .succ (.succ (.succ (.succ (six.congr fun n => ?_))))
          rw [open26 hb hlt, hbl, open26b hs h, decide_eq_true rem, L26_5, if_pos rfl]
        · have : skipB false (b :: r) = 0 := by simp only [skipB, hbl, Bool.false_eq_true, if_false, if_neg rem]
          rw [this] at hx
          exact hx
end Go.Proofs.YtjmofeakajdbiaaDoor

set_option linter.unusedVariables false
noncomputable section
namespace Go.Proofs.YtjmofeakajdbiaaDoor
open Go Go.AM
def L27_5 : Nat → (List D) → Bool → Option (Int × Int × List D)
  | 0, _, _ => none
  | n + 1, l6, b21 =>
    (if b21 = true then some ((0 : Int), (4 : Int), ([] : List D)) else some ((0 : Int), (0 : Int), l6))
mutual
def L27_2 : Nat → ByteArray → Int → (List D) → Option (Int × Int × List D)
  | 0, _, _, _ => none
  | n + 1, s1, z5, l6 =>
    szF s1 fun z7 => (if z5 < z7 then L27_3 n s1 z5 l6 true else L27_3 n s1 z5 l6 false)
def L27_3 : Nat → ByteArray → Int → (List D) → Bool → Option (Int × Int × List D)
  | 0, _, _, _, _ => none
  | n + 1, s1, z5, l6, b8 =>
    (if b8 = true then subToF s1 z5 fun s9 => bO2 (F49 n s9) fun z10 s11 => (if z10 = (0 : Int) then L27_4 n s1 z5 l6 z10 s11 true else L27_4 n s1 z5 l6 z10 s11 false) else lenF l6 fun z20 => (if (1500 : Int) < z20 then L27_5 n l6 true else L27_5 n l6 false))
def L27_4 : Nat → ByteArray → Int → (List D) → Int → ByteArray → Bool → Option (Int × Int × List D)
  | 0, _, _, _, _, _, _ => none
  | n + 1, s1, z5, l6, z10, s11, b12 =>
    (if b12 = true then some (z5, (20 : Int), ([] : List D)) else letL [.agg [.int .u8 z10, .str s11, .int .i64 z5]] fun l13 => appF 32 l6 l13 fun l14 => szF s11 fun z15 => letF (IntKind.wrap .i64 (z5 + z15)) fun z16 => subToF s1 z16 fun s17 => bO1 (F48 n s17) fun z18 => letF (IntKind.wrap .i64 (z16 + z18)) fun z19 => L27_2 n s1 z19 l14)
end
def L27_1 : Nat → ByteArray → Bool → Option (Int × Int × List D)
  | 0, _, _ => none
  | n + 1, s1, b3 =>
    (if b3 = true then some ((0 : Int), (3 : Int), ([] : List D)) else bO1 (F48 n s1) fun z4 => L27_2 n s1 z4 ([] : List D))
def F27 (n : Nat) (s1 : ByteArray) : Option (Int × Int × List D) :=
  szF s1 fun z2 => (if (4000 : Int) < z2 then L27_1 n s1 true else L27_1 n s1 false)
set_option maxRecDepth 100000 in
set_option maxHeartbeats 40000000 in
theorem T27 (n : Nat) : ∀ ⦃s1 : ByteArray⦄ ⦃r1 : Int⦄ ⦃r2 : Int⦄ ⦃r3 : List D⦄, F27 n s1 = some (r1, r2, r3) →
    Trip Tryd.prog inv 27 [.d (.str s1)] [] (.t [.c (.ow (.loc 0)), .d (.int .i64 r1), .d (.int .i64 r2)]) [] [.tree .row true 3 r3 none] := by
  intro s1 r1 r2 r3 h
  unfold F27 at h
  refine Trip.of tab_ok tab_one fol Tryd.func27 rfl (by kernel_rfl) rfl rfl rfl (fun M hM hI => ?_)
  try cbv
  refine seq_go ?_
  try cbv
  refine seq_go ?_
  try cbv
  refine seq_join (T := Nat × Bool) (fun t => ⟨[(0, .v (.d (.str s1))), (2, .v (.c (.nils true 3))), (3, .v (.d (.int .i64 0))), (4, .v (.d (.int .i64 0))), (10, .v (.d (.bool t.2)))], [], 192⟩) (fun t => t.1 ≤ n ∧ L27_1 t.1 s1 t.2 = some (r1, r2, r3)) ?_ ?_
  · try cbv
    replace h := szF_inv M h
    obtain ⟨z2, hz, h⟩ := h
    refine ⟨z2, hz, ?_⟩
    clear hz
    try cbv
    refine splitL (fun e => ?_) (fun e => ?_)
    · replace h := ite_t e h
      clear e
      try cbv
      exact join_next (n, true) [0, 2, 3, 4, 10] [] 192 ⟨by omega, h⟩ (by cbv)
    · replace h := ite_f (Int.not_lt.2 e) h
      clear e
      try cbv
      exact join_next (n, false) [0, 2, 3, 4, 10] [] 192 ⟨by omega, h⟩ (by cbv)
  · clear h
    rintro ⟨m1, b3⟩ ⟨hm1, h⟩
    replace hm1 : m1 ≤ n := hm1
    cases m1 with
    | zero =>
      replace h : L27_1 0 s1 b3 = some (r1, r2, r3) := h
      rw [L27_1] at h
      cases h
    | succ m1 =>
      replace h : L27_1 (m1 + 1) s1 b3 = some (r1, r2, r3) := h
      rw [L27_1] at h
      try cbv
      cases b3
      · replace h := ite_f Bool.false_ne_true h
        try cbv
        refine seq_go ?_
        try cbv
        refine seq_go ?_
        try cbv
        refine seq_go ?_
        try cbv
        replace h := bO1_inv h
        obtain ⟨z4, hr, h⟩ := h
        refine call_go rfl rfl ?_
        try cbv
        refine call_pure hM hI (T48 _ hr) rfl ?_
        clear hr
        try cbv
        refine loop_invG (T := Nat × Int × List D) [.treeS 5 true 3] [] [0, 2, 3, 4, 5, 6] [.loc 320] 352 (fun t => ⟨[(0, .v (.d (.str s1))), (2, .v (.c (.nils true 3))), (3, .v (.d (.int .i64 0))), (4, .v (.d (.int .i64 0))), (5, .v (.c (.ow (.loc 320)))), (6, .v (.d (.int .i64 t.2.1)))], [(.loc 320, .tree .row true 3 t.2.2 none)], 352⟩)
          (fun t => t.1 ≤ m1 ∧ L27_2 t.1 s1 t.2.1 t.2.2 = some (r1, r2, r3)) (fun t => t.1) (m1, (z4, ([] : List D))) ⟨Nat.le_refl _, h⟩ (by cbv) ?_
        clear h
        rintro ⟨m2, z5, l6⟩ ⟨hm2, h⟩
        replace hm2 : m2 ≤ m1 := hm2
        cases m2 with
        | zero =>
          replace h : L27_2 0 s1 z5 l6 = some (r1, r2, r3) := h
          rw [L27_2] at h
          cases h
        | succ m2 =>
          replace h : L27_2 (m2 + 1) s1 z5 l6 = some (r1, r2, r3) := h
          rw [L27_2] at h
          try cbv
          refine seq_go ?_
          try cbv
          refine seq_join (T := Nat × Bool) (fun t => ⟨[(0, .v (.d (.str s1))), (2, .v (.c (.nils true 3))), (3, .v (.d (.int .i64 0))), (4, .v (.d (.int .i64 0))), (5, .v (.c (.ow (.loc 320)))), (6, .v (.d (.int .i64 z5))), (16, .v (.d (.bool t.2)))], [(.loc 320, .tree .row true 3 l6 none)], 480⟩) (fun t => t.1 ≤ m2 ∧ L27_3 t.1 s1 z5 l6 t.2 = some (r1, r2, r3)) ?_ ?_
          · try cbv
            replace h := szF_inv M h
            obtain ⟨z7, hz, h⟩ := h
            refine ⟨z7, hz, ?_⟩
            clear hz
            try cbv
            refine splitL (fun e => ?_) (fun e => ?_)
            · replace h := ite_t e h
              clear e
              try cbv
              exact join_next (m2, true) [0, 2, 3, 4, 5, 6, 16] [.loc 320] 480 ⟨by omega, h⟩ (by cbv)
            · replace h := ite_f (Int.not_lt.2 e) h
              clear e
              try cbv
              exact join_next (m2, false) [0, 2, 3, 4, 5, 6, 16] [.loc 320] 480 ⟨by omega, h⟩ (by cbv)
          · clear h
            rintro ⟨m3, b8⟩ ⟨hm3, h⟩
            replace hm3 : m3 ≤ m2 := hm3
            cases m3 with
            | zero =>
              replace h : L27_3 0 s1 z5 l6 b8 = some (r1, r2, r3) := h
              rw [L27_3] at h
              cases h
            | succ m3 =>
              replace h : L27_3 (m3 + 1) s1 z5 l6 b8 = some (r1, r2, r3) := h
              rw [L27_3] at h
              try cbv
              cases b8
              · replace h := ite_f Bool.false_ne_true h
                try cbv
                refine seq_go ?_
                try cbv
                refine seq_join (T := Nat × Bool) (fun t => ⟨[(0, .v (.d (.str s1))), (2, .v (.c (.nils true 3))), (3, .v (.d (.int .i64 0))), (4, .v (.d (.int .i64 0))), (5, .v (.c (.ow (.loc 320)))), (6, .v (.d (.int .i64 z5))), (44, .v (.d (.bool t.2)))], [(.loc 320, .tree .row true 3 l6 none)], 576⟩) (fun t => t.1 ≤ m3 ∧ L27_5 t.1 l6 t.2 = some (r1, r2, r3)) ?_ ?_
                · try cbv
                  replace h := lenF_inv M h
                  obtain ⟨z20, hz, h⟩ := h
                  refine ⟨false, ?_⟩
                  try cbv
                  refine ⟨z20, hz, ?_⟩
                  clear hz
                  try cbv
                  refine splitL (fun e => ?_) (fun e => ?_)
                  · replace h := ite_t e h
                    clear e
                    try cbv
                    exact join_next (m3, true) [0, 2, 3, 4, 5, 6, 44] [.loc 320] 576 ⟨by omega, h⟩ (by cbv)
                  · replace h := ite_f (Int.not_lt.2 e) h
                    clear e
                    try cbv
                    exact join_next (m3, false) [0, 2, 3, 4, 5, 6, 44] [.loc 320] 576 ⟨by omega, h⟩ (by cbv)
                · clear h
                  rintro ⟨m5, b21⟩ ⟨hm5, h⟩
                  replace hm5 : m5 ≤ m3 := hm5
                  cases m5 with
                  | zero =>
                    replace h : L27_5 0 l6 b21 = some (r1, r2, r3) := h
                    rw [L27_5] at h
                    cases h
                  | succ m5 =>
                    replace h : L27_5 (m5 + 1) l6 b21 = some (r1, r2, r3) := h
                    rw [L27_5] at h
                    try cbv
                    cases b21
                    · replace h := ite_f Bool.false_ne_true h
                      try cbv
                      refine seq_go ?_
                      try cbv
                      obtain ⟨rfl, rfl, rfl⟩ := inj3 h
                      refine fin_go ?_
                      try cbv
                      exact ⟨[.loc 320], rfl, rfl, trivial, ⟨rfl, trivial⟩, trivial⟩
                    · replace h := ite_t rfl h
                      try cbv
                      refine seq_go ?_
                      try cbv
                      obtain ⟨rfl, rfl, rfl⟩ := inj3 h
                      refine ⟨_, _, _, ⟨rfl, rfl, rfl⟩, [.treeS 2 true 3], ?_⟩
                      try cbv
                      exact ⟨[.loc 672], rfl, rfl, trivial, ⟨rfl, trivial⟩, trivial⟩
              · replace h := ite_t rfl h
                try cbv
                refine seq_go ?_
                try cbv
                replace h := subToF_inv M h
                obtain ⟨s9, hb, hz, h⟩ := h
                refine ⟨s9, hb, hz, ?_⟩
                clear hb hz
                try cbv
                replace h := bO2_inv h
                obtain ⟨z10, s11, hr, h⟩ := h
                refine call_go rfl rfl ?_
                try cbv
                refine call_pure hM hI (T49 _ hr) rfl ?_
                clear hr
                try cbv
                refine seq_go ?_
                try cbv
                refine seq_join (T := Nat × Bool) (fun t => ⟨[(0, .v (.d (.str s1))), (2, .v (.c (.nils true 3))), (3, .v (.d (.int .i64 0))), (4, .v (.d (.int .i64 0))), (5, .v (.c (.ow (.loc 320)))), (6, .v (.d (.int .i64 z5))), (7, .v (.c (.ptr (.loc 608) 0))), (23, .v (.d (.bool t.2)))], [(.loc 320, .tree .row true 3 l6 none), (.loc 608, .cells [.d (.int .u8 z10), .d (.str s11), .d (.int .i64 0)])], 768⟩) (fun t => t.1 ≤ m3 ∧ L27_4 t.1 s1 z5 l6 z10 s11 t.2 = some (r1, r2, r3)) ?_ ?_
                · try cbv
                  refine splitI (fun e => ?_) (fun e => ?_)
                  · replace h := ite_t e h
                    clear e
                    try cbv
                    exact join_next (m3, true) [0, 2, 3, 4, 5, 6, 7, 23] [.loc 320, .loc 608] 768 ⟨by omega, h⟩ (by cbv)
                  · replace h := ite_f e h
                    clear e
                    try cbv
                    exact join_next (m3, false) [0, 2, 3, 4, 5, 6, 7, 23] [.loc 320, .loc 608] 768 ⟨by omega, h⟩ (by cbv)
                · clear h
                  rintro ⟨m4, b12⟩ ⟨hm4, h⟩
                  replace hm4 : m4 ≤ m3 := hm4
                  cases m4 with
                  | zero =>
                    replace h : L27_4 0 s1 z5 l6 z10 s11 b12 = some (r1, r2, r3) := h
                    rw [L27_4] at h
                    cases h
                  | succ m4 =>
                    replace h : L27_4 (m4 + 1) s1 z5 l6 z10 s11 b12 = some (r1, r2, r3) := h
                    rw [L27_4] at h
                    try cbv
                    cases b12
                    · replace h := ite_f Bool.false_ne_true h
                      try cbv
                      refine seq_go ?_
                      try cbv
                      refine seq_go ?_
                      try cbv
                      refine ⟨true, ?_⟩
                      try cbv
                      refine ⟨[], ?_⟩
                      try cbv
                      replace h := letL_inv h
                      obtain ⟨l13, hz, h⟩ := h
                      refine ⟨l13, hz, ?_⟩
                      clear hz
                      try cbv
                      refine op_pl ?_
                      try cbv
                      refine ⟨true, ?_⟩
                      try cbv
                      refine ⟨true, ?_⟩
                      try cbv
                      refine ⟨[], ?_⟩
                      try cbv
                      replace h := appF_inv h
                      obtain ⟨l14, hb, hz, h⟩ := h
                      refine ⟨(M.lock_iff _).2 hb, l14, hz, ?_⟩
                      clear hb hz
                      try cbv
                      refine seq_go ?_
                      try cbv
                      replace h := szF_inv M h
                      obtain ⟨z15, hz, h⟩ := h
                      refine ⟨z15, hz, ?_⟩
                      clear hz
                      try cbv
                      replace h := letF_inv h
                      obtain ⟨z16, hz, h⟩ := h
                      refine ⟨z16, hz, ?_⟩
                      clear hz
                      try cbv
                      replace h := subToF_inv M h
                      obtain ⟨s17, hb, hz, h⟩ := h
                      refine ⟨s17, hb, hz, ?_⟩
                      clear hb hz
                      try cbv
                      replace h := bO1_inv h
                      obtain ⟨z18, hr, h⟩ := h
                      refine call_go rfl rfl ?_
                      try cbv
                      refine call_pure hM hI (T48 _ hr) rfl ?_
                      clear hr
                      try cbv
                      replace h := letF_inv h
                      obtain ⟨z19, hz, h⟩ := h
                      refine ⟨z19, hz, ?_⟩
                      clear hz
                      try cbv
                      refine loop_nextG (m4, (z19, l14)) [] [(960, 320)] [0, 2, 3, 4, 5, 6] [.loc 960] 352 ⟨by omega, h⟩ (Nat.lt_succ_of_le (by omega)) ?_
                      try cbv
                    · replace h := ite_t rfl h
                      try cbv
                      refine seq_go ?_
                      try cbv
                      obtain ⟨rfl, rfl, rfl⟩ := inj3 h
                      refine ⟨_, _, _, ⟨rfl, rfl, rfl⟩, [.treeS 2 true 3], ?_⟩
                      try cbv
                      exact ⟨[.loc 896], rfl, rfl, trivial, ⟨rfl, trivial⟩, trivial⟩
      · replace h := ite_t rfl h
        try cbv
        refine seq_go ?_
        try cbv
        obtain ⟨rfl, rfl, rfl⟩ := inj3 h
        refine ⟨_, _, _, ⟨rfl, rfl, rfl⟩, [.treeS 2 true 3], ?_⟩
        try cbv
        exact ⟨[.loc 288], rfl, rfl, trivial, ⟨rfl, trivial⟩, trivial⟩
end Go.Proofs.YtjmofeakajdbiaaDoor
end

set_option linter.unusedVariables false
noncomputable section
namespace Go.Proofs.YtjmofeakajdbiaaDoor
open Go Go.AM
mutual
def L5_2 : Nat → ByteArray → (List D) → Int → Int → Int → Option (Bool)
  | 0, _, _, _, _, _ => none
  | n + 1, s1, l4, z5, z6, z7 =>
    (if z7 < (2 : Int) then L5_3 n s1 l4 z5 z6 z7 true else L5_3 n s1 l4 z5 z6 z7 false)
def L5_3 : Nat → ByteArray → (List D) → Int → Int → Int → Bool → Option (Bool)
  | 0, _, _, _, _, _, _ => none
  | n + 1, s1, l4, z5, z6, z7, b8 =>
    (if b8 = true then bO3 (F27 n s1) fun z9 z10 l11 => (if z10 = z6 then (if z9 = z5 then lenF l11 fun z12 => lenF l4 fun z13 => (if z12 = z13 then L5_4 n s1 l4 z5 z6 z7 l11 false else L5_4 n s1 l4 z5 z6 z7 l11 true) else L5_4 n s1 l4 z5 z6 z7 l11 true) else L5_4 n s1 l4 z5 z6 z7 l11 true) else some true)
def L5_4 : Nat → ByteArray → (List D) → Int → Int → Int → (List D) → Bool → Option (Bool)
  | 0, _, _, _, _, _, _, _ => none
  | n + 1, s1, l4, z5, z6, z7, l11, b14 =>
    (if b14 = true then some false else L5_5 n s1 l4 z5 z6 z7 (0 : Int) l11)
def L5_5 : Nat → ByteArray → (List D) → Int → Int → Int → Int → (List D) → Option (Bool)
  | 0, _, _, _, _, _, _, _ => none
  | n + 1, s1, l4, z5, z6, z7, z15, l16 =>
    lenF l16 fun z17 => (if z15 < z17 then L5_6 n s1 l4 z5 z6 z7 z15 l16 true else L5_6 n s1 l4 z5 z6 z7 z15 l16 false)
def L5_6 : Nat → ByteArray → (List D) → Int → Int → Int → Int → (List D) → Bool → Option (Bool)
  | 0, _, _, _, _, _, _, _, _ => none
  | n + 1, s1, l4, z5, z6, z7, z15, l16, b18 =>
    (if b18 = true then needF (0 ≤ z15 ∧ z15.toNat < l16.length) (getN l16 (z15.toNat) fun x19 => ds_t46 x19 fun z20 s21 z22 => getF l4 z15 fun x23 => ds_t47 x23 fun z24 s25 z26 => (if z20 = z24 then needF (0 ≤ z15 ∧ z15.toNat < l16.length) (getN l16 (z15.toNat) fun x27 => ds_t46 x27 fun z28 s29 z30 => getF l4 z15 fun x31 => ds_t47 x31 fun z32 s33 z34 => (if s29 = s33 then needF (0 ≤ z15 ∧ z15.toNat < l16.length) (getN l16 (z15.toNat) fun x35 => ds_t46 x35 fun z36 s37 z38 => getF l4 z15 fun x39 => ds_t47 x39 fun z40 s41 z42 => (if z38 = z42 then L5_7 n s1 l4 z5 z6 z7 z15 l16 false else L5_7 n s1 l4 z5 z6 z7 z15 l16 true)) else L5_7 n s1 l4 z5 z6 z7 z15 l16 true)) else L5_7 n s1 l4 z5 z6 z7 z15 l16 true)) else letF (IntKind.wrap .i64 (z7 + 1)) fun z50 => L5_2 n s1 l4 z5 z6 z50)
def L5_7 : Nat → ByteArray → (List D) → Int → Int → Int → Int → (List D) → Bool → Option (Bool)
  | 0, _, _, _, _, _, _, _, _ => none
  | n + 1, s1, l4, z5, z6, z7, z15, l16, b43 =>
    (if b43 = true then some false else needF (0 ≤ z15 ∧ z15.toNat < l16.length) (getN l16 (z15.toNat) fun x44 => ds_t46 x44 fun z45 s46 z47 => letF (IntKind.wrap .i64 (z15 + 1)) fun z48 => setF l16 (z15.toNat) (.agg [.int .u8 z45, .str k_spoilt, .int .i64 z47]) fun l49 => L5_5 n s1 l4 z5 z6 z7 z48 l49))
end
def L5_1 : Nat → ByteArray → Bool → Option (Bool)
  | 0, _, _ => none
  | n + 1, s1, b3 =>
    (if b3 = true then some true else bO3 (F26 n s1) fun l4 z5 z6 => L5_2 n s1 l4 z5 z6 (0 : Int))
def F5 (n : Nat) (s1 : ByteArray) : Option (Bool) :=
  szF s1 fun z2 => (if (6000 : Int) < z2 then L5_1 n s1 true else L5_1 n s1 false)
set_option maxRecDepth 100000 in
set_option maxHeartbeats 40000000 in
theorem T5 (n : Nat) : ∀ ⦃s1 : ByteArray⦄ ⦃r1 : Bool⦄, F5 n s1 = some r1 →
    Trip Tryd.prog inv 5 [.d (.str s1)] [] (.v (.d (.bool r1))) [] [] := by
  intro s1 r1 h
  unfold F5 at h
  refine Trip.of tab_ok tab_one fol Tryd.func5 rfl (by kernel_rfl) rfl rfl rfl (fun M hM hI => ?_)
  try cbv
  refine seq_go ?_
  try cbv
  refine seq_go ?_
  try cbv
  refine seq_join (T := Nat × Bool) (fun t => ⟨[(0, .v (.d (.str s1))), (2, .v (.d (.bool false))), (13, .v (.d (.bool t.2)))], [], 128⟩) (fun t => t.1 ≤ n ∧ L5_1 t.1 s1 t.2 = some r1) ?_ ?_
  · try cbv
    replace h := szF_inv M h
    obtain ⟨z2, hz, h⟩ := h
    refine ⟨z2, hz, ?_⟩
    clear hz
    try cbv
    refine splitL (fun e => ?_) (fun e => ?_)
    · replace h := ite_t e h
      clear e
      try cbv
      exact join_next (n, true) [0, 2, 13] [] 128 ⟨by omega, h⟩ (by cbv)
    · replace h := ite_f (Int.not_lt.2 e) h
      clear e
      try cbv
      exact join_next (n, false) [0, 2, 13] [] 128 ⟨by omega, h⟩ (by cbv)
  · clear h
    rintro ⟨m1, b3⟩ ⟨hm1, h⟩
    replace hm1 : m1 ≤ n := hm1
    cases m1 with
    | zero =>
      replace h : L5_1 0 s1 b3 = some r1 := h
      rw [L5_1] at h
      cases h
    | succ m1 =>
      replace h : L5_1 (m1 + 1) s1 b3 = some r1 := h
      rw [L5_1] at h
      try cbv
      cases b3
      · replace h := ite_f Bool.false_ne_true h
        try cbv
        refine seq_go ?_
        try cbv
        replace h := bO3_inv h
        obtain ⟨l4, z5, z6, hr, h⟩ := h
        refine call_go rfl rfl ?_
        try cbv
        refine call_pure hM hI (T26 _ hr) rfl ?_
        clear hr
        try cbv
        refine seq_go ?_
        try cbv
        refine seq_go ?_
        try cbv
        refine loop_inv (T := Nat × Int) [0, 2, 3, 4, 5, 6] [] 448 (fun t => ⟨[(0, .v (.d (.str s1))), (2, .v (.d (.bool false))), (3, .v (.d (.list true 3 l4))), (4, .v (.d (.int .i64 z5))), (5, .v (.d (.int .i64 z6))), (6, .v (.d (.int .i64 t.2)))], [], 448⟩)
          (fun t => t.1 ≤ m1 ∧ L5_2 t.1 s1 l4 z5 z6 t.2 = some r1) (fun t => t.1) (m1, (0 : Int)) ⟨Nat.le_refl _, h⟩ (by cbv) ?_
        clear h
        rintro ⟨m2, z7⟩ ⟨hm2, h⟩
        replace hm2 : m2 ≤ m1 := hm2
        cases m2 with
        | zero =>
          replace h : L5_2 0 s1 l4 z5 z6 z7 = some r1 := h
          rw [L5_2] at h
          cases h
        | succ m2 =>
          replace h : L5_2 (m2 + 1) s1 l4 z5 z6 z7 = some r1 := h
          rw [L5_2] at h
          try cbv
          refine seq_go ?_
          try cbv
          refine seq_join (T := Nat × Bool) (fun t => ⟨[(0, .v (.d (.str s1))), (2, .v (.d (.bool false))), (3, .v (.d (.list true 3 l4))), (4, .v (.d (.int .i64 z5))), (5, .v (.d (.int .i64 z6))), (6, .v (.d (.int .i64 z7))), (21, .v (.d (.bool t.2)))], [], 512⟩) (fun t => t.1 ≤ m2 ∧ L5_3 t.1 s1 l4 z5 z6 z7 t.2 = some r1) ?_ ?_
          · try cbv
            refine splitL (fun e => ?_) (fun e => ?_)
            · replace h := ite_t e h
              clear e
              try cbv
              exact join_next (m2, true) [0, 2, 3, 4, 5, 6, 21] [] 512 ⟨by omega, h⟩ (by cbv)
            · replace h := ite_f (Int.not_lt.2 e) h
              clear e
              try cbv
              exact join_next (m2, false) [0, 2, 3, 4, 5, 6, 21] [] 512 ⟨by omega, h⟩ (by cbv)
          · clear h
            rintro ⟨m3, b8⟩ ⟨hm3, h⟩
            replace hm3 : m3 ≤ m2 := hm3
            cases m3 with
            | zero =>
              replace h : L5_3 0 s1 l4 z5 z6 z7 b8 = some r1 := h
              rw [L5_3] at h
              cases h
            | succ m3 =>
              replace h : L5_3 (m3 + 1) s1 l4 z5 z6 z7 b8 = some r1 := h
              rw [L5_3] at h
              try cbv
              cases b8
              · replace h := ite_f Bool.false_ne_true h
                try cbv
                refine seq_go ?_
                try cbv
                obtain rfl := Option.some.inj h
                refine fin_go ?_
                try cbv
                exact ⟨[], rfl, rfl, trivial, trivial, trivial⟩
              · replace h := ite_t rfl h
                try cbv
                refine seq_go ?_
                try cbv
                refine seq_go ?_
                try cbv
                replace h := bO3_inv h
                obtain ⟨z9, z10, l11, hr, h⟩ := h
                refine call_go rfl rfl ?_
                try cbv
                refine call_with hM hI [] (T27 _ hr) rfl (by simp) trivial trivial (by simp) ?_
                clear hr
                try cbv
                refine seq_go ?_
                try cbv
                refine seq_join (T := Nat × Bool) (fun t => ⟨[(0, .v (.d (.str s1))), (2, .v (.d (.bool false))), (3, .v (.d (.list true 3 l4))), (4, .v (.d (.int .i64 z5))), (5, .v (.d (.int .i64 z6))), (6, .v (.d (.int .i64 z7))), (7, .v (.c (.ow (.loc 544)))), (44, .v (.d (.bool t.2)))], [(.loc 544, .tree .row true 3 l11 none)], 1280⟩) (fun t => t.1 ≤ m3 ∧ L5_4 t.1 s1 l4 z5 z6 z7 l11 t.2 = some r1) ?_ ?_
                · try cbv
                  refine splitI (fun e => ?_) (fun e => ?_)
                  · replace h := ite_t e h
                    clear e
                    try cbv
                    refine splitI (fun e => ?_) (fun e => ?_)
                    · replace h := ite_t e h
                      clear e
                      try cbv
                      replace h := lenF_inv M h
                      obtain ⟨z12, hz, h⟩ := h
                      refine ⟨false, ?_⟩
                      try cbv
                      refine ⟨z12, hz, ?_⟩
                      clear hz
                      try cbv
                      replace h := lenF_inv M h
                      obtain ⟨z13, hz, h⟩ := h
                      refine ⟨z13, hz, ?_⟩
                      clear hz
                      try cbv
                      refine splitI (fun e => ?_) (fun e => ?_)
                      · replace h := ite_t e h
                        clear e
                        try cbv
                        exact join_next (m3, false) [0, 2, 3, 4, 5, 6, 7, 44] [.loc 544] 1280 ⟨by omega, h⟩ (by cbv)
                      · replace h := ite_f e h
                        clear e
                        try cbv
                        exact join_next (m3, true) [0, 2, 3, 4, 5, 6, 7, 44] [.loc 544] 1280 ⟨by omega, h⟩ (by cbv)
                    · replace h := ite_f e h
                      clear e
                      try cbv
                      exact join_next (m3, true) [0, 2, 3, 4, 5, 6, 7, 44] [.loc 544] 1280 ⟨by omega, h⟩ (by cbv)
                  · replace h := ite_f e h
                    clear e
                    try cbv
                    exact join_next (m3, true) [0, 2, 3, 4, 5, 6, 7, 44] [.loc 544] 1280 ⟨by omega, h⟩ (by cbv)
                · clear h
                  rintro ⟨m4, b14⟩ ⟨hm4, h⟩
                  replace hm4 : m4 ≤ m3 := hm4
                  cases m4 with
                  | zero =>
                    replace h : L5_4 0 s1 l4 z5 z6 z7 l11 b14 = some r1 := h
                    rw [L5_4] at h
                    cases h
                  | succ m4 =>
                    replace h : L5_4 (m4 + 1) s1 l4 z5 z6 z7 l11 b14 = some r1 := h
                    rw [L5_4] at h
                    try cbv
                    cases b14
                    · replace h := ite_f Bool.false_ne_true h
                      try cbv
                      refine seq_go ?_
                      try cbv
                      refine loop_invG (T := Nat × Int × List D) [] [] [0, 2, 3, 4, 5, 6, 7, 10] [.loc 544] 1312 (fun t => ⟨[(0, .v (.d (.str s1))), (2, .v (.d (.bool false))), (3, .v (.d (.list true 3 l4))), (4, .v (.d (.int .i64 z5))), (5, .v (.d (.int .i64 z6))), (6, .v (.d (.int .i64 z7))), (7, .v (.c (.ow (.loc 544)))), (10, .v (.d (.int .i64 t.2.1)))], [(.loc 544, .tree .row true 3 t.2.2 none)], 1312⟩)
                        (fun t => t.1 ≤ m4 ∧ L5_5 t.1 s1 l4 z5 z6 z7 t.2.1 t.2.2 = some r1) (fun t => t.1) (m4, ((0 : Int), l11)) ⟨Nat.le_refl _, h⟩ (by cbv) ?_
                      clear h
                      rintro ⟨m5, z15, l16⟩ ⟨hm5, h⟩
                      replace hm5 : m5 ≤ m4 := hm5
                      cases m5 with
                      | zero =>
                        replace h : L5_5 0 s1 l4 z5 z6 z7 z15 l16 = some r1 := h
                        rw [L5_5] at h
                        cases h
                      | succ m5 =>
                        replace h : L5_5 (m5 + 1) s1 l4 z5 z6 z7 z15 l16 = some r1 := h
                        rw [L5_5] at h
                        try cbv
                        refine seq_go ?_
                        try cbv
                        refine seq_join (T := Nat × Bool) (fun t => ⟨[(0, .v (.d (.str s1))), (2, .v (.d (.bool false))), (3, .v (.d (.list true 3 l4))), (4, .v (.d (.int .i64 z5))), (5, .v (.d (.int .i64 z6))), (6, .v (.d (.int .i64 z7))), (7, .v (.c (.ow (.loc 544)))), (10, .v (.d (.int .i64 z15))), (48, .v (.d (.bool t.2)))], [(.loc 544, .tree .row true 3 l16 none)], 1440⟩) (fun t => t.1 ≤ m5 ∧ L5_6 t.1 s1 l4 z5 z6 z7 z15 l16 t.2 = some r1) ?_ ?_
                        · try cbv
                          replace h := lenF_inv M h
                          obtain ⟨z17, hz, h⟩ := h
                          refine ⟨false, ?_⟩
                          try cbv
                          refine ⟨z17, hz, ?_⟩
                          clear hz
                          try cbv
                          refine splitL (fun e => ?_) (fun e => ?_)
                          · replace h := ite_t e h
                            clear e
                            try cbv
                            exact join_next (m5, true) [0, 2, 3, 4, 5, 6, 7, 10, 48] [.loc 544] 1440 ⟨by omega, h⟩ (by cbv)
                          · replace h := ite_f (Int.not_lt.2 e) h
                            clear e
                            try cbv
                            exact join_next (m5, false) [0, 2, 3, 4, 5, 6, 7, 10, 48] [.loc 544] 1440 ⟨by omega, h⟩ (by cbv)
                        · clear h
                          rintro ⟨m6, b18⟩ ⟨hm6, h⟩
                          replace hm6 : m6 ≤ m5 := hm6
                          cases m6 with
                          | zero =>
                            replace h : L5_6 0 s1 l4 z5 z6 z7 z15 l16 b18 = some r1 := h
                            rw [L5_6] at h
                            cases h
                          | succ m6 =>
                            replace h : L5_6 (m6 + 1) s1 l4 z5 z6 z7 z15 l16 b18 = some r1 := h
                            rw [L5_6] at h
                            try cbv
                            cases b18
                            · replace h := ite_f Bool.false_ne_true h
                              try cbv
                              replace h := letF_inv h
                              obtain ⟨z50, hz, h⟩ := h
                              refine ⟨z50, hz, ?_⟩
                              clear hz
                              try cbv
                              exact loop_next (m6, z50) [0, 2, 3, 4, 5, 6] [] 448 ⟨by omega, h⟩ (Nat.lt_succ_of_le (by omega)) (by cbv)
                            · replace h := ite_t rfl h
                              try cbv
                              refine seq_go ?_
                              try cbv
                              refine seq_go ?_
                              try cbv
                              refine seq_join (T := Nat × Bool) (fun t => ⟨[(0, .v (.d (.str s1))), (2, .v (.d (.bool false))), (3, .v (.d (.list true 3 l4))), (4, .v (.d (.int .i64 z5))), (5, .v (.d (.int .i64 z6))), (6, .v (.d (.int .i64 z7))), (7, .v (.c (.ow (.loc 544)))), (10, .v (.d (.int .i64 z15))), (87, .v (.d (.bool t.2)))], [(.loc 544, .tree .row true 3 l16 none)], 2624⟩) (fun t => t.1 ≤ m6 ∧ L5_7 t.1 s1 l4 z5 z6 z7 z15 l16 t.2 = some r1) ?_ ?_
                              · try cbv
                                replace h := needF_inv h
                                obtain ⟨hn, h⟩ := h
                                refine ⟨(M.lock_iff _).2 hn, ?_⟩
                                clear hn
                                try cbv
                                refine ⟨[], ?_⟩
                                try cbv
                                replace h := getN_inv h
                                obtain ⟨x19, hx, h⟩ := h
                                replace h := ds_t46_inv h
                                obtain ⟨z20, s21, z22, rfl, h⟩ := h
                                refine ⟨_, hx, ?_⟩
                                clear hx
                                try cbv
                                refine ⟨true, ?_⟩
                                try cbv
                                replace h := getF_inv h
                                obtain ⟨x23, ⟨hx0, hx⟩, h⟩ := h
                                refine ⟨x23, hx0, hx, ?_⟩
                                clear hx0 hx
                                replace h := ds_t47_inv h
                                obtain ⟨z24, s25, z26, rfl, h⟩ := h
                                try cbv
                                refine splitI (fun e => ?_) (fun e => ?_)
                                · replace h := ite_t e h
                                  clear e
                                  try cbv
                                  replace h := needF_inv h
                                  obtain ⟨hn, h⟩ := h
                                  refine ⟨(M.lock_iff _).2 hn, ?_⟩
                                  clear hn
                                  try cbv
                                  refine ⟨[], ?_⟩
                                  try cbv
                                  replace h := getN_inv h
                                  obtain ⟨x27, hx, h⟩ := h
                                  replace h := ds_t46_inv h
                                  obtain ⟨z28, s29, z30, rfl, h⟩ := h
                                  refine ⟨_, hx, ?_⟩
                                  clear hx
                                  try cbv
                                  refine ⟨true, ?_⟩
                                  try cbv
                                  replace h := getF_inv h
                                  obtain ⟨x31, ⟨hx0, hx⟩, h⟩ := h
                                  refine ⟨x31, hx0, hx, ?_⟩
                                  clear hx0 hx
                                  replace h := ds_t47_inv h
                                  obtain ⟨z32, s33, z34, rfl, h⟩ := h
                                  try cbv
                                  refine splitS (fun e => ?_) (fun e => ?_)
                                  · replace h := ite_t (bytes_eq.1 e) h
                                    clear e
                                    try cbv
                                    replace h := needF_inv h
                                    obtain ⟨hn, h⟩ := h
                                    refine ⟨(M.lock_iff _).2 hn, ?_⟩
                                    clear hn
                                    try cbv
                                    refine ⟨[], ?_⟩
                                    try cbv
                                    replace h := getN_inv h
                                    obtain ⟨x35, hx, h⟩ := h
                                    replace h := ds_t46_inv h
                                    obtain ⟨z36, s37, z38, rfl, h⟩ := h
                                    refine ⟨_, hx, ?_⟩
                                    clear hx
                                    try cbv
                                    refine ⟨true, ?_⟩
                                    try cbv
                                    replace h := getF_inv h
                                    obtain ⟨x39, ⟨hx0, hx⟩, h⟩ := h
                                    refine ⟨x39, hx0, hx, ?_⟩
                                    clear hx0 hx
                                    replace h := ds_t47_inv h
                                    obtain ⟨z40, s41, z42, rfl, h⟩ := h
                                    try cbv
                                    refine splitI (fun e => ?_) (fun e => ?_)
                                    · replace h := ite_t e h
                                      clear e
                                      try cbv
                                      refine drawn ?_ ?_
                                      · show _ = true
                                        kernel_rfl
                                      try cbv
                                      exact join_next (m6, false) [0, 2, 3, 4, 5, 6, 7, 10, 87] [.loc 544] 2624 ⟨by omega, h⟩ (by cbv)
                                    · replace h := ite_f e h
                                      clear e
                                      try cbv
                                      refine drawn ?_ ?_
                                      · show _ = true
                                        kernel_rfl
                                      try cbv
                                      exact join_next (m6, true) [0, 2, 3, 4, 5, 6, 7, 10, 87] [.loc 544] 2624 ⟨by omega, h⟩ (by cbv)
                                  · replace h := ite_f (bytes_ne.1 e) h
                                    clear e
                                    try cbv
                                    refine drawn ?_ ?_
                                    · show _ = true
                                      kernel_rfl
                                    try cbv
                                    exact join_next (m6, true) [0, 2, 3, 4, 5, 6, 7, 10, 87] [.loc 544] 2624 ⟨by omega, h⟩ (by cbv)
                                · replace h := ite_f e h
                                  clear e
                                  try cbv
                                  refine drawn ?_ ?_
                                  · show _ = true
                                    kernel_rfl
                                  try cbv
                                  exact join_next (m6, true) [0, 2, 3, 4, 5, 6, 7, 10, 87] [.loc 544] 2624 ⟨by omega, h⟩ (by cbv)
                              · clear h
                                rintro ⟨m7, b43⟩ ⟨hm7, h⟩
                                replace hm7 : m7 ≤ m6 := hm7
                                cases m7 with
                                | zero =>
                                  replace h : L5_7 0 s1 l4 z5 z6 z7 z15 l16 b43 = some r1 := h
                                  rw [L5_7] at h
                                  cases h
                                | succ m7 =>
                                  replace h : L5_7 (m7 + 1) s1 l4 z5 z6 z7 z15 l16 b43 = some r1 := h
                                  rw [L5_7] at h
                                  try cbv
                                  cases b43
                                  · replace h := ite_f Bool.false_ne_true h
                                    try cbv
                                    replace h := needF_inv h
                                    obtain ⟨hn, h⟩ := h
                                    refine ⟨(M.lock_iff _).2 hn, ?_⟩
                                    clear hn
                                    try cbv
                                    refine ⟨[], ?_⟩
                                    try cbv
                                    replace h := getN_inv h
                                    obtain ⟨x44, hx, h⟩ := h
                                    replace h := ds_t46_inv h
                                    obtain ⟨z45, s46, z47, rfl, h⟩ := h
                                    refine ⟨_, hx, ?_⟩
                                    clear hx
                                    try cbv
                                    replace h := letF_inv h
                                    obtain ⟨z48, hz, h⟩ := h
                                    refine ⟨z48, hz, ?_⟩
                                    clear hz
                                    try cbv
                                    replace h := setF_inv h
                                    obtain ⟨l49, hl49, h⟩ := h
                                    refine loop_nextG (m7, (z48, l49)) [.close (.loc 544)] [] [0, 2, 3, 4, 5, 6, 7, 10] [.loc 544] 1312 ⟨by omega, h⟩ (Nat.lt_succ_of_le (by omega)) ?_
                                    try cbv
                                    refine ⟨l49, hl49, ?_⟩
                                    clear hl49
                                    try cbv
                                    first | done | exact rfl | cbv
                                  · replace h := ite_t rfl h
                                    try cbv
                                    refine seq_go ?_
                                    try cbv
                                    obtain rfl := Option.some.inj h
                                    refine fin_go ?_
                                    try cbv
                                    exact ⟨[], rfl, rfl, trivial, trivial, trivial⟩
                    · replace h := ite_t rfl h
                      try cbv
                      refine seq_go ?_
                      try cbv
                      obtain rfl := Option.some.inj h
                      refine fin_go ?_
                      try cbv
                      exact ⟨[], rfl, rfl, trivial, trivial, trivial⟩
      · replace h := ite_t rfl h
        try cbv
        refine seq_go ?_
        try cbv
        obtain rfl := Option.some.inj h
        refine fin_go ?_
        try cbv
        exact ⟨[], rfl, rfl, trivial, trivial, trivial⟩
end Go.Proofs.YtjmofeakajdbiaaDoor
end

set_option linter.unusedVariables false
noncomputable section
namespace Go.Proofs.YtjmofeakajdbiaaDoor
open Go Go.AM

theorem rs9 {x : D} (h : RowS tab 9 x) : ∃ a0, x = .str a0 ∧ a0.size ≤ maxLen := by
  have hs := h.flat1 (y := tyD tab 9) (by kernel_rfl) rfl
  have hl := hs.flat 9 9 [9] [x] (by kernel_rfl)
  obtain ⟨a0, rfl, w0⟩ := (hl.2 0 x 9 rfl rfl).strS (x := tyD tab 9) (by kernel_rfl) rfl
  exact ⟨_, rfl, w0⟩
end Go.Proofs.YtjmofeakajdbiaaDoor
end

namespace Go.AM
open Go Go.RowKit Go.ChangeShapes Go.WideShapes

def Shapes (ti : Types) : List TypeId → List D → Prop
  | [], [] => True
  | t :: ts, x :: xs => Shape ti t x.cells ∧ (∀ y, ti t = some y → x.isAgg = rowD y.desc) ∧ Shapes ti ts xs
  | _, _ => False

theorem Shapes.length {ti : Types} : ∀ {ts : List TypeId} {xs : List D}, Shapes ti ts xs → xs.length = ts.length
  | [], [], _ => rfl
  | _ :: _, _ :: _, h => by simp [Shapes.length h.2.2]
  | [], _ :: _, h => h.elim
  | _ :: _, [], h => h.elim

section
variable {H : Type} {enc : TypeId × Value → H} {P : Program} {ti : Types} {T : List TypeId} {w : World}

theorem conv_arg (hti : TIok P ti) (hT : plainB ti T = true) {Z : Zone} (hZ : ∀ b o, ¬ Z b o) {base base' : Nat} {spare : Nat → Bool} {held : Bool} {r : Reach} {t : TypeId} {v : Value} {d : DataW H} {ps : List MemPlace} (ht : t ∈ T)
    (hok : Value.okWide P w r base' t v) (h : DataW.Trod enc P w base spare held t v d ps) : ∃ x : D, Shape ti t x.cells ∧ (∀ y, ti t = some y → x.isAgg = rowD y.desc) ∧ RelD w Z x v := by
  obtain ⟨fuel, h⟩ := h
  obtain ⟨ds, hs, h1, h2, h3⟩ := conv hti hT (Z := Z) hZ fuel t _ _ _ ht h
  have hp := List.all_eq_true.1 hT t ht
  split at hp
  · rename_i y hy
    have hu := (hti t y hy).1
    have single : rowD y.desc = false → v.cells.toList = [v] → ∃ x : D, Shape ti t x.cells ∧ (∀ y, ti t = some y → x.isAgg = rowD y.desc) ∧ RelD w Z x v := by
      intro hr hv
      rw [hv] at h1 h3
      obtain ⟨c, rfl⟩ := List.length_eq_one_iff.1 h1
      have hc := h2 c (by simp)
      have e : c.cells = [c] := by cases c <;> first | rfl | simp [D.isAgg] at hc
      refine ⟨c, by rw [e]; exact hs, fun y' hy' => ?_, h3 0 c v rfl rfl⟩
      rw [hy] at hy'
      obtain rfl : y = y' := by simpa using hy'
      rw [hc, hr]
    split at hp
    · rename_i hd
      rw [hd] at hu
      obtain ⟨b, rfl⟩ := okWide_bool hu hok
      exact single (by rw [hd]; rfl) rfl
    · rename_i k hd
      rw [hd] at hu
      obtain ⟨b, rfl⟩ := okWide_int hu hok
      exact single (by rw [hd]; rfl) rfl
    · rename_i hd
      rw [hd] at hu
      obtain ⟨b, rfl⟩ := okWide_string hu hok
      exact single (by rw [hd]; rfl) rfl
    · rename_i e hd
      rw [hd] at hu
      obtain ⟨a, l, c, rfl⟩ := okWide_slice hu hok
      exact single (by rw [hd]; rfl) rfl
    · rename_i fs hd
      rw [hd] at hu
      obtain ⟨cs, rfl, _⟩ := okWide_struct hu hok
      refine ⟨.agg ds, hs, fun y' hy' => ?_, .agg ds cs (by simpa [Value.cells] using h1.symm) h2 (fun j c u hc hu' => h3 j c u hc (by simpa [Value.cells] using hu'))⟩
      rw [hy] at hy'
      obtain rfl : y = y' := by simpa using hy'
      rw [hd]; rfl
    · simp at hp
  · simp at hp

theorem conv_args (hti : TIok P ti) (hT : plainB ti T = true) {Z : Zone} (hZ : ∀ b o, ¬ Z b o) {base base' : Nat} {spare : Nat → Bool} {held : Bool} {r : Reach} :
    ∀ (ts : List TypeId) (vs : List Value) (ds : List (DataW H)) (ps : List MemPlace), (∀ t ∈ ts, t ∈ T) → DataW.TrodAll enc P w base spare held ts vs ds ps →
      (∀ (j : Nat) t v, ts[j]? = some t → vs[j]? = some v → Value.okWide P w r base' t v) →
      ∃ xs, Shapes ti ts xs ∧ ∀ (j : Nat) x v, xs[j]? = some x → vs[j]? = some v → RelD w Z x v
  | [], vs, ds, ps, _, h, _ => ⟨[], trivial, by simp⟩
  | t :: ts, vs, ds, ps, ht, h, hok => by
    obtain ⟨v, vs1, d, ds1, a, b, rfl, rfl, rfl, h1, h2⟩ := trodAll_cons h
    obtain ⟨x, k1, k2, k3⟩ := conv_arg hti hT hZ (ht t (by simp)) (hok 0 t v rfl rfl) h1
    obtain ⟨xs, k4, k5⟩ := conv_args hti hT hZ ts vs1 ds1 b (fun t ht' => ht t (by simp [ht'])) h2 (fun j t v h1 h2 => hok (j + 1) t v (by simpa using h1) (by simpa using h2))
    refine ⟨x :: xs, ⟨k1, k2, k4⟩, fun j x' v' hx hv => ?_⟩
    match j with
    | 0 => simp at hx hv; subst hx; subst hv; exact k3
    | j + 1 => simp at hx hv; exact k5 j x' v' hx hv

theorem again_all (hl : laidOutB P = true) {W W' : World} (hb : Below W.heap.size W W') : ∀ (ts : List TypeId) (vs : List Value) (ds : List (DataW H)) (ps : List MemPlace),
    (∀ t ∈ ts, P.readableRec t = true ∧ t < P.types.size) → DataW.TrodAll enc P W 0 (fun _ => true) true ts vs ds ps → (∀ x ∈ ps, x.block < W.heap.size) →
    DataW.TrodAll enc P W' 0 (fun b => decide (b < W.heap.size)) true ts vs ds ps
  | [], vs, ds, ps, _, h, _ => by
    obtain ⟨rfl, rfl, rfl⟩ := trodAll_nil h
    exact rfl
  | t :: ts, vs, ds, ps, ht, h, hlt => by
    obtain ⟨v, vs1, d, ds1, a, b, rfl, rfl, rfl, h1, h2⟩ := trodAll_cons h
    have ht1 := ht t (by simp)
    exact ⟨a, b, Below.trod hl ht1.1 ht1.2 h1 hb (fun x hx => hlt x (by simp [hx])), again_all hl hb ts vs1 ds1 b (fun t ht' => ht t (by simp [ht'])) h2 (fun x hx => hlt x (by simp [hx])), rfl⟩

theorem law_calls {I : Inv} (hti : TIok P ti) (hT : plainB ti T = true) {s : ChangeSpec} {fn : Func} {f : FuncId} {ts : List TypeId} {bt : TypeId}
    (hp : fn.params.toList = ts) (hv : s.vars = []) (hr : fn.resultTypes = #[bt]) (hb : P.underlying bt = some .bool) (htT : ∀ t ∈ ts, t ∈ T)
    (hs : ∀ ds : List (DataW H), ds.length = ts.length → (s.fn H ds).results = [.lit (.bool true)] ∧ (s.fn H ds).args = ds ∧ (s.fn H ds).vars = [])
    (hl : laidOutB P = true) (hrec : ∀ t ∈ ts, P.readableRec t = true ∧ t < P.types.size)
    (hc : ∀ xs : List D, Shapes ti ts xs → Trip P I f (xs.map V1.d) [] (.v (.d (.bool true))) [] [])
    {W : World} {base : Nat} {args : Array Value} {ds gs : List (DataW H)} {before : List MemPlace}
    (hI : I.at W fun _ _ => False) (hval : ∀ (j : Nat) t v, fn.params[j]? = some t → args[j]? = some v → Value.okWide P W .any base t v)
    (hW : DataW.Whole enc P fn.params.toList s.vars false W args.toList ds gs before) :
    Calls P f args W fun e W' => ∃ v, e = .returned v ∧ s.post enc P fn false true false false W args v W' := by
  have hW' := hW
  obtain ⟨p, q, hA, hV, rfl, _, _⟩ := hW
  rw [hv] at hV
  obtain ⟨rfl, rfl⟩ : gs = [] ∧ q = [] := by
    cases gs with
    | nil => exact ⟨rfl, hV⟩
    | cons _ _ => exact hV.elim
  rw [hp] at hA
  obtain ⟨hlen, hdl⟩ := trodAll_length hA
  obtain ⟨xs, hsh, hrel⟩ := conv_args hti hT (Z := fun _ _ => False) (fun _ _ h => h) (r := .any) (base' := base) ts args.toList ds p htT hA (fun j t v h1 h2 => hval j t v (by
    rw [← Array.getElem?_toList, hp]; exact h1) (by simpa using h2))
  have hxl := hsh.length
  have hcall := hc xs hsh
  have hheap : ∀ i o, heapOf [] i = some o → False := by
    intro i o h
    cases i <;> simp [heapOf] at h
  have hzone : ∀ (g : Ghost) b o, ¬ zone g (heapOf []) b o := by
    rintro g b o ⟨i, ob, h, _⟩
    exact hheap i ob h
  refine (hcall.calls (w := W) (X := fun _ _ => False) (g := fun _ => undef) (vals := args) (fun _ _ h => h.elim) (hI.mono fun b o hz => hz.elim (hzone _ b o) id) ⟨fun i o h => (hheap i o h).elim, fun i _ _ _ _ h => (hheap i _ h).elim, fun i _ _ _ h => (hheap i _ h).elim⟩ (fun _ => rfl)
    (by simp at hlen; simp; omega) (fun j x v hx hvv => ?_)).mono ?_
  · simp only [List.getElem?_map, Option.map_eq_some_iff] at hx
    obtain ⟨d, hd, rfl⟩ := hx
    exact (hrel j d v hd (by simpa using hvv)).mono (fun b o u hu _ => ⟨hu, fun hz => hz.elim (hzone _ b o) id⟩)
  · rintro e W' ⟨v, g', rfl, hpost⟩
    obtain rfl : v = .bool true := by cases (show RelD _ _ (.bool true) v from hpost.res); rfl
    have hbel : Below W.heap.size W W' := ⟨hpost.frame.os, hpost.frame.tape, hpost.frame.output, hpost.frame.size, fun k hk => hpost.frame.block k hk (fun o => hzone _ k o)⟩
    obtain ⟨s1, s2, s3⟩ := hs (ds ++ []) (by simp [hdl])
    refine ⟨_, rfl, ds, [], p ++ [], [], p, [], hW', ?_, ?_, ?_, hbel.frame _, fun h => by cases h⟩
    · rw [s1, hr]
      exact trodAll_mk1 (shut_bool hb true)
    · rw [s2, hp, List.append_nil]
      exact again_all hl hbel ts args.toList ds p hrec hA (fun x hx => hW'.lt x (by simp [hx]))
    · rw [s3, hv]; rfl
end
end Go.AM

set_option linter.unusedVariables false
noncomputable section
namespace Go.Proofs.YtjmofeakajdbiaaDoor
open Go Go.AM

def sw3 (x : List D × Int × Int) : Int × Int × List D := (x.2.1, x.2.2, x.1)

theorem skipB_drop (l : List UInt8) : skipB false (l.drop (skipB false l)) = 0 := by
  suffices h : ∀ (m : Nat) (l : List UInt8), l.length ≤ m → skipB false (l.drop (skipB false l)) = 0 by exact h l.length l (Nat.le_refl _)
  intro m
  induction m with
  | zero => intro l hl; have : l = [] := List.eq_nil_of_length_eq_zero (by omega); subst this; simp [skipB]
  | succ m ih =>
    intro l hl
    match l, hl with
    | [], _ => simp [skipB]
    | b :: r, hl =>
      simp only [List.length_cons] at hl
      by_cases hbl : blank b = true
      · have e : skipB false (b :: r) = skipB false r + 1 := by simp [skipB, hbl]; omega
        rw [e, List.drop_succ_cons]
        exact ih r (by omega)
      · by_cases rem : b = 47 ∧ r.head? = some 47
        · have e : skipB false (b :: r) = skipB true r + 1 := by simp only [skipB, if_neg hbl, if_pos rem]; omega
          rw [e, List.drop_succ_cons, skip_remark r, ← List.drop_drop]
          exact ih _ (by rw [List.length_drop]; omega)
        · have e : skipB false (b :: r) = 0 := by simp only [skipB, if_neg hbl, if_neg rem]
          rw [e, List.drop_zero, e]
theorem evL26 {s : ByteArray} (hs4 : (bl s).length ≤ 4000) (hs : s.size ≤ maxLen) : ∀ (m : Nat) (rest pre : List UInt8) (acc : List D), rest.length ≤ m → acc.length ≤ pre.length → pre ++ rest = bl s → skipB false rest = 0 →
    Ev (fun n => L26_2 n s acc (pre.length : Int)) (endR acc (toks m pre.length rest)) := by
  have hM : 4000 < maxLen := by decide
  have nilCase : ∀ (m : Nat) (pre : List UInt8) (acc : List D), acc.length ≤ pre.length → pre ++ [] = bl s → toks m pre.length [] = ([], none) → Ev (fun n => L26_2 n s acc (pre.length : Int)) (endR acc (toks m pre.length [])) := by
    intro m pre acc ha h ht
    rw [ht]
    refine .succ (.succ (.succ (.of fun n => ?_)))
    rw [L26_2, szF_eq, ← h, if_neg (by simp), L26_3, if_neg Bool.false_ne_true]
    simp only [lenF, endR, List.length_nil, Nat.add_zero, List.map_nil, List.append_nil]
    by_cases hl : 1500 < acc.length
    · rw [if_pos (by omega), L26_9, if_pos rfl, if_pos hl]
    · rw [if_neg (by omega), L26_9, if_neg Bool.false_ne_true, if_neg hl]
  intro m
  induction m with
  | zero =>
    intro rest pre acc hm ha h _
    have : rest = [] := List.eq_nil_of_length_eq_zero (by omega)
    subst this
    exact nilCase 0 pre acc ha h rfl
  | succ m ih =>
    intro rest pre acc hm ha h hsk
    match rest, hm, h, hsk with
    | [], _, h, _ => exact nilCase (m + 1) pre acc ha h rfl
    | b :: r, hm, h, hsk =>
      have hlt : pre.length < (bl s).length := by rw [← h]; simp
      have hsum : pre.length + (b :: r).length = (bl s).length := by rw [← h]; simp
      have hb := pre_get h
      have hbl : blank b = false := by
        cases hx : blank b with
        | false => rfl
        | true => simp [skipB, hx] at hsk
      have hrem : ¬ (b = 47 ∧ r.head? = some 47) := fun e => by simp only [skipB, hbl, Bool.false_eq_true, if_false, if_pos e] at hsk; omega
      obtain ⟨k1, k2, k3, k4, k5⟩ := link b r
      let E := endL (b :: r)
      have hE : E = endL (b :: r) := rfl
      have h46 := ev46 hs h
      have ht : (((bl s).take (pre.length + E)).drop pre.length) = (b :: r).take E := by
        rw [← h, List.take_append, List.take_of_length_le (by omega), List.drop_append]; simp
      have hne : (b :: r).take E ≠ [] := by
        intro e
        have := congrArg List.length e
        rw [List.length_take, List.length_nil] at this
        have : (b :: r).length = r.length + 1 := rfl
        omega
      have hsz : (tx ((b :: r).take E)).size ≤ maxLen := by rw [bl_len, bl_tx, List.length_take]; omega
      have h47 := ev47 hsz (by rw [bl_tx]; exact hne) (fun c q e1 e2 => by
        rw [bl_tx] at e1 ⊢
        refine k5 ?_
        obtain ⟨E', hE'⟩ : ∃ E', E = E' + 1 := ⟨E - 1, by omega⟩
        rw [hE', List.take_succ_cons] at e1
        cases e1
        exact e2)
      rw [bl_tx, k1] at h47
      have hsub : ∀ {γ : Type} (k : ByteArray → Option γ), subF s (pre.length : Int) ((pre.length + E : Nat) : Int) k = k (tx ((b :: r).take E)) := fun k => by rw [subF_eq (by omega) (by omega), ht]
      refine .succ (.succ (.succ (.succ (Ev.congr (A := fun n => bO1 (F46 n s (pre.length : Int)) fun z25 => subF s (pre.length : Int) z25 fun s26 => bO1 (F47 n s26) fun z27 => (if z27 = (0 : Int) then L26_8 n s acc (pre.length : Int) z25 z27 true else L26_8 n s acc (pre.length : Int) z25 z27 false)) ?_ fun n => by rw [open26 hb hlt, hbl, open26b hs h, decide_eq_false hrem, L26_5, if_neg Bool.false_ne_true]))))
      refine Ev.bO1 h46 ?_
      simp only [← hE, hsub]
      refine Ev.bO1 h47 ?_
      by_cases h0 : (oneL (b :: r)).1 = 0
      · have htk : toks (m + 1) pre.length (b :: r) = ([], some pre.length) := by simp only [toks, h0, if_true]
        rw [htk]
        exact .succ (.of fun n => by rw [if_pos h0, L26_8, if_pos rfl]; rfl)
      · have hte := k2 h0
        have hlen : (oneL (b :: r)).2.length = E := by rw [← hte, List.length_take]; omega
        let q := skipB false ((b :: r).drop E)
        have hq : q ≤ ((b :: r).drop E).length := skipB_le _ _
        have hkd : ((b :: r).drop E).length = (b :: r).length - E := by simp
        have htk : toks (m + 1) pre.length (b :: r) = (⟨(oneL (b :: r)).1, (oneL (b :: r)).2, pre.length⟩ :: (toks m (pre.length + E + q) (((b :: r).drop E).drop q)).1, (toks m (pre.length + E + q) (((b :: r).drop E).drop q)).2) := by
          simp only [toks, h0, if_false, hlen]; rfl
        let pre1 := pre ++ (b :: r).take E
        have hpre1 : pre1 ++ (b :: r).drop E = bl s := by
          show pre ++ (b :: r).take E ++ (b :: r).drop E = bl s
          rw [List.append_assoc, List.take_append_drop, h]
        have hl1 : pre1.length = pre.length + E := by
          show (pre ++ (b :: r).take E).length = _
          rw [List.length_append, List.length_take]; omega
        let pre' := pre1 ++ ((b :: r).drop E).take q
        have hpre' : pre' ++ ((b :: r).drop E).drop q = bl s := by
          show pre1 ++ ((b :: r).drop E).take q ++ ((b :: r).drop E).drop q = bl s
          rw [List.append_assoc, List.take_append_drop, hpre1]
        have hl' : pre'.length = pre.length + E + q := by
          show (pre1 ++ ((b :: r).drop E).take q).length = _
          rw [List.length_append, List.length_take, hl1]; omega
        have hrest : (((b :: r).drop E).drop q).length ≤ m := by
          rw [List.length_drop, hkd]
          have : (b :: r).length ≤ m + 1 := hm
          omega
        have ih' := ih (((b :: r).drop E).drop q) pre' (acc ++ [tokD ⟨(oneL (b :: r)).1, (oneL (b :: r)).2, pre.length⟩]) hrest (by rw [List.length_append, hl']; simp; omega) hpre' (skipB_drop _)
        rw [hl'] at ih'
        have he : endR (acc ++ [tokD ⟨(oneL (b :: r)).1, (oneL (b :: r)).2, pre.length⟩]) (toks m (pre.length + E + q) (((b :: r).drop E).drop q)) = endR acc (toks (m + 1) pre.length (b :: r)) := by
          rw [htk]
          unfold endR
          simp only []
          split
          · rfl
          · simp only [List.length_append, List.length_cons, List.length_nil, List.map_cons, List.append_assoc, List.cons_append, List.nil_append]
            have : acc.length + (0 + 1) + (toks m (pre.length + E + q) (((b :: r).drop E).drop q)).1.length = acc.length + ((toks m (pre.length + E + q) (((b :: r).drop E).drop q)).1.length + 1) := by omega
            rw [this]
        rw [he] at ih'
        have sk := skip26 hs (x := endR acc (toks (m + 1) pre.length (b :: r))) ((b :: r).drop E).length ((b :: r).drop E) pre1 (Nat.le_refl _) hpre1 (by rw [hl1]; exact ih')
        rw [hl1] at sk
        refine .succ (sk.congr fun n => ?_)
        rw [if_neg h0, L26_8, if_neg Bool.false_ne_true, hsub, hte]
        unfold appF
        rw [if_pos (by simp; omega)]
        rfl
theorem ev26 {s : ByteArray} (hs : s.size ≤ maxLen) : Ev (fun n => F26 n s) ((lexR (bl s)).1.map tokD, (lexR (bl s)).2.1, (lexR (bl s)).2.2) := by
  by_cases hl : 4000 < (bl s).length
  · refine .succ (.of fun n => ?_)
    unfold F26 lexR
    rw [szF_eq, if_pos (by omega), L26_1, if_pos rfl, if_pos hl]
    rfl
  · have hq := skipB_le false (bl s)
    have h := evL26 (s := s) (by omega) hs (bl s).length ((bl s).drop (skipB false (bl s))) ((bl s).take (skipB false (bl s))) [] (by simp) (by simp) (List.take_append_drop _ _) (skipB_drop _)
    have hlen : ((bl s).take (skipB false (bl s))).length = skipB false (bl s) := by simp; omega
    rw [hlen] at h
    have e : endR [] (toks (bl s).length (skipB false (bl s)) ((bl s).drop (skipB false (bl s)))) = ((lexR (bl s)).1.map tokD, (lexR (bl s)).2.1, (lexR (bl s)).2.2) := by
      unfold lexR endR
      rw [if_neg hl]
      generalize toks (bl s).length (skipB false (bl s)) ((bl s).drop (skipB false (bl s))) = z
      obtain ⟨ts, e⟩ := z
      cases e with
      | some e => rfl
      | none =>
        simp only [List.length_nil, Nat.zero_add, List.nil_append]
        split <;> rfl
    rw [e] at h
    have sk := skip26 hs (x := ((lexR (bl s)).1.map tokD, (lexR (bl s)).2.1, (lexR (bl s)).2.2)) (bl s).length (bl s) [] (Nat.le_refl _) rfl (acc := []) (by simpa using h)
    refine .succ (sk.congr fun n => ?_)
    unfold F26
    rw [szF_eq, if_neg (by omega), L26_1, if_neg Bool.false_ne_true]
    rfl
theorem evL27 {s : ByteArray} (hs : (bl s).length ≤ 4000) : ∀ (m : Nat) (rest pre : List UInt8) (acc : List D), rest.length ≤ m → acc.length ≤ pre.length → pre ++ rest = bl s →
    Ev (fun n => L27_2 n s (pre.length : Int) acc) (sw3 (endR acc (toks m pre.length rest))) := by
  have hN : maxLen = 17592186044416 ∨ 4000 < maxLen := .inr (by decide)
  have hM : 4000 < maxLen := by decide
  have nilCase : ∀ (m : Nat) (pre : List UInt8) (acc : List D), acc.length ≤ pre.length → pre ++ [] = bl s → toks m pre.length [] = ([], none) → Ev (fun n => L27_2 n s (pre.length : Int) acc) (sw3 (endR acc (toks m pre.length []))) := by
    intro m pre acc ha h ht
    rw [ht]
    refine .succ (.succ (.succ (.of fun n => ?_)))
    rw [L27_2, szF_eq, ← h, if_neg (by simp), L27_3, if_neg Bool.false_ne_true]
    simp only [lenF, endR, sw3, List.length_nil, Nat.add_zero, List.map_nil, List.append_nil]
    by_cases hl : 1500 < acc.length
    · rw [if_pos (by omega), L27_5, if_pos rfl, if_pos hl]
    · rw [if_neg (by omega), L27_5, if_neg Bool.false_ne_true, if_neg hl]
  intro m
  induction m with
  | zero =>
    intro rest pre acc hm ha h
    have : rest = [] := List.eq_nil_of_length_eq_zero (by omega)
    subst this
    exact nilCase 0 pre acc ha h rfl
  | succ m ih =>
    intro rest pre acc hm ha h
    match rest, hm, h with
    | [], _, h => exact nilCase (m + 1) pre acc ha h rfl
    | b :: r, hm, h =>
      have hlt : pre.length < (bl s).length := by rw [← h]; simp
      have hsum : pre.length + (b :: r).length = (bl s).length := by rw [← h]; simp
      have hsz : (tx (b :: r)).size ≤ maxLen := by rw [bl_len, bl_tx]; omega
      have h49 := ev49 hsz (by rw [bl_tx]; simp)
      rw [bl_tx] at h49
      have hd : (bl s).drop pre.length = b :: r := by rw [← h]; simp
      have open2 : ∀ n, L27_2 (n + 2) s (pre.length : Int) acc = bO2 (F49 n (tx (b :: r))) fun z10 s11 => (if z10 = (0 : Int) then L27_4 n s (pre.length : Int) acc z10 s11 true else L27_4 n s (pre.length : Int) acc z10 s11 false) := fun n => by
        rw [L27_2, szF_eq, if_pos (by omega), L27_3, if_pos rfl, subToF_eq (by omega), hd]
      by_cases h0 : (oneL (b :: r)).1 = 0
      · have ht : toks (m + 1) pre.length (b :: r) = ([], some pre.length) := by simp only [toks, h0, if_true]
        rw [ht]
        refine .succ (.succ (Ev.congr (A := fun n => bO2 (F49 n (tx (b :: r))) fun z10 s11 => (if z10 = (0 : Int) then L27_4 n s (pre.length : Int) acc z10 s11 true else L27_4 n s (pre.length : Int) acc z10 s11 false)) (Ev.bO2 h49 ?_) fun n => (open2 n).symm))
        exact .succ (.of fun n => by rw [if_pos h0, L27_4, if_pos rfl]; rfl)
      · obtain ⟨k1, k2, k3⟩ := oneL_take (b :: r) h0
        let k := (oneL (b :: r)).2.length
        let q := skipB false ((b :: r).drop k)
        have hq : q ≤ ((b :: r).drop k).length := skipB_le _ _
        have hkd : ((b :: r).drop k).length = (b :: r).length - k := by simp
        have ht : toks (m + 1) pre.length (b :: r) = (⟨(oneL (b :: r)).1, (oneL (b :: r)).2, pre.length⟩ :: (toks m (pre.length + k + q) (((b :: r).drop k).drop q)).1, (toks m (pre.length + k + q) (((b :: r).drop k).drop q)).2) := by
          simp only [toks, h0, if_false]; rfl
        let pre' := pre ++ ((b :: r).take k ++ ((b :: r).drop k).take q)
        have hpre' : pre' ++ ((b :: r).drop k).drop q = bl s := by
          show pre ++ ((b :: r).take k ++ ((b :: r).drop k).take q) ++ ((b :: r).drop k).drop q = bl s
          rw [List.append_assoc, List.append_assoc, List.take_append_drop, List.take_append_drop, h]
        have hl' : pre'.length = pre.length + k + q := by
          show (pre ++ ((b :: r).take k ++ ((b :: r).drop k).take q)).length = _
          rw [List.length_append, List.length_append, List.length_take, List.length_take]
          omega
        have hrest : (((b :: r).drop k).drop q).length ≤ m := by
          rw [List.length_drop, hkd]
          have : (b :: r).length ≤ m + 1 := hm
          omega
        have ih' := ih (((b :: r).drop k).drop q) pre' (acc ++ [tokD ⟨(oneL (b :: r)).1, (oneL (b :: r)).2, pre.length⟩]) hrest (by rw [List.length_append, hl']; simp; omega) hpre'
        rw [hl'] at ih'
        have he : endR (acc ++ [tokD ⟨(oneL (b :: r)).1, (oneL (b :: r)).2, pre.length⟩]) (toks m (pre.length + k + q) (((b :: r).drop k).drop q)) = endR acc (toks (m + 1) pre.length (b :: r)) := by
          rw [ht]
          unfold endR
          simp only []
          split
          · rfl
          · simp only [List.length_append, List.length_cons, List.length_nil, List.map_cons, List.append_assoc, List.cons_append, List.nil_append]
            have : acc.length + (0 + 1) + (toks m (pre.length + k + q) (((b :: r).drop k).drop q)).1.length = acc.length + ((toks m (pre.length + k + q) (((b :: r).drop k).drop q)).1.length + 1) := by omega
            rw [this]
        rw [he] at ih'
        have hd2 : (bl s).drop (pre.length + k) = (b :: r).drop k := by rw [← h, List.drop_append]; simp
        have hsz2 : (tx ((b :: r).drop k)).size ≤ maxLen := by rw [bl_len, bl_tx, hkd]; omega
        have h48 := ev48 hsz2
        rw [bl_tx] at h48
        refine .succ (.succ (Ev.congr (A := fun n => bO2 (F49 n (tx (b :: r))) fun z10 s11 => (if z10 = (0 : Int) then L27_4 n s (pre.length : Int) acc z10 s11 true else L27_4 n s (pre.length : Int) acc z10 s11 false)) (Ev.bO2 h49 ?_) fun n => (open2 n).symm))
        refine .succ (Ev.congr (A := fun n => bO1 (F48 n (tx ((b :: r).drop k))) fun z17 => letF (IntKind.wrap .i64 (((pre.length + k : Nat) : Int) + z17)) fun z18 => L27_2 n s z18 (acc ++ [tokD ⟨(oneL (b :: r)).1, (oneL (b :: r)).2, pre.length⟩])) (Ev.bO1 h48 (ih'.congr fun n => ?_)) fun n => ?_)
        · simp only [letF]
          rw [wrapN (x := pre.length + k + q) (by omega) (by show ((pre.length + k : Nat) : Int) + ((q : Nat) : Int) = _; omega)]
        · rw [if_neg h0, L27_4, if_neg Bool.false_ne_true]
          simp only [letL]
          unfold appF
          rw [if_pos (by simp; omega)]
          dsimp only
          rw [szF_eq, bl_tx]
          simp only [letF]
          rw [wrapN (x := pre.length + k) (by omega) (by show (pre.length : Int) + ((k : Nat) : Int) = _; omega), subToF_eq (by omega), hd2]
          rfl
theorem ev27 {s : ByteArray} (hs : s.size ≤ maxLen) : Ev (fun n => F27 n s) ((lexR (bl s)).2.1, (lexR (bl s)).2.2, (lexR (bl s)).1.map tokD) := by
  by_cases hl : 4000 < (bl s).length
  · refine .succ (.of fun n => ?_)
    unfold F27 lexR
    rw [szF_eq, if_pos (by omega), L27_1, if_pos rfl, if_pos hl]
    rfl
  · have hq := skipB_le false (bl s)
    have h := evL27 (s := s) (by omega) (bl s).length ((bl s).drop (skipB false (bl s))) ((bl s).take (skipB false (bl s))) [] (by simp) (by simp) (List.take_append_drop _ _)
    have hlen : ((bl s).take (skipB false (bl s))).length = skipB false (bl s) := by simp; omega
    rw [hlen] at h
    have e : endR [] (toks (bl s).length (skipB false (bl s)) ((bl s).drop (skipB false (bl s)))) = ((lexR (bl s)).1.map tokD, (lexR (bl s)).2.1, (lexR (bl s)).2.2) := by
      unfold lexR endR
      rw [if_neg hl]
      generalize toks (bl s).length (skipB false (bl s)) ((bl s).drop (skipB false (bl s))) = z
      obtain ⟨ts, e⟩ := z
      cases e with
      | some e => rfl
      | none =>
        simp only [List.length_nil, Nat.zero_add, List.nil_append]
        split <;> rfl
    rw [e] at h
    simp only [sw3] at h
    refine .succ (Ev.congr (A := fun n => bO1 (F48 n s) fun z4 => L27_2 n s z4 ([] : List D)) (Ev.bO1 (ev48 hs) h) fun n => ?_)
    unfold F27
    rw [szF_eq, if_neg (by omega), L27_1, if_neg Bool.false_ne_true]


end Go.Proofs.YtjmofeakajdbiaaDoor

set_option linter.unusedVariables false
noncomputable section
namespace Go.Proofs.YtjmofeakajdbiaaDoor
open Go Go.AM

theorem bO3at {α β γ δ : Type} {A : Nat → Option (α × β × γ)} {a : α} {b : β} {c : γ} {k : Nat → α → β → γ → Option δ} {r : δ} (ha : Ev A (a, b, c)) (hk : Ev (fun n => k n a b c) r) : Ev (fun n => Go.AM.bO3 (A n) (k n)) r := by
  obtain ⟨N, hN⟩ := ha
  obtain ⟨M, hM⟩ := hk
  refine ⟨N + M, fun n hn => ?_⟩
  show Go.AM.bO3 (A n) (k n) = some r
  rw [hN n (by omega)]
  exact hM n (by omega)
theorem need_pos {γ : Type} {p : Prop} [Decidable p] (h : p) (x : Option γ) : needF p x = x := if_pos h
theorem getN_some {γ : Type} {L : List D} {i : Nat} {x : D} {k : D → Option γ} (h : L[i]? = some x) : getN L i k = k x := by unfold getN; rw [h]
theorem lexR_len (l : List UInt8) : (lexR l).1.length ≤ 1500 := by
  unfold lexR
  split
  · simp
  · split
    · simp
    · split
      · simp
      · rename_i h; simp only []; omega
def spD (x : Tok) : D := .agg [.int .u8 x.k, .str k_spoilt, .int .i64 (x.at_ : Int)]
def lst (ts : List Tok) (i : Nat) : List D := (ts.take i).map spD ++ (ts.drop i).map tokD
theorem lst_len (ts : List Tok) (i : Nat) : (lst ts i).length = ts.length := by
  unfold lst
  rw [List.length_append, List.length_map, List.length_map, ← List.length_append, List.take_append_drop]
theorem lst_get {ts : List Tok} {i : Nat} (h : i < ts.length) : (lst ts i)[i]? = some (tokD ts[i]) := by
  have hl : ((ts.take i).map spD).length = i := by simp; omega
  unfold lst
  rw [List.getElem?_append_right (by omega), hl, Nat.sub_self, List.drop_eq_getElem_cons h]
  rfl
theorem lst_set {ts : List Tok} {i : Nat} (h : i < ts.length) : (lst ts i).set i (spD ts[i]) = lst ts (i + 1) := by
  have hl : ((ts.take i).map spD).length = i := by simp; omega
  unfold lst
  rw [List.set_append_right _ _ (by omega), hl, Nat.sub_self, List.drop_eq_getElem_cons h, List.map_cons, List.set_cons_zero, List.take_add_one, List.getElem?_eq_getElem h, List.map_append, List.append_assoc]
  rfl
theorem lex_all_law {s : ByteArray} (hs : s.size ≤ maxLen) : Ev (fun n => F5 n s) true := by
  unfold F5
  by_cases h6 : (6000 : Int) < ((bl s).length : Int)
  · simp only [szF_eq, if_pos h6]
    exact .succ (.of fun n => by rw [L5_1, if_pos rfl])
  simp only [szF_eq, if_neg h6]
  refine .succ ?_
  simp only [L5_1, Bool.false_eq_true, if_false]
  have h26 := ev26 hs
  have h27 := ev27 hs
  have hlen := lexR_len (bl s)
  have hM : 4000 < maxLen := by decide
  generalize (lexR (bl s)).1 = ts at h26 h27 hlen
  generalize (lexR (bl s)).2.1 = p at h26 h27
  generalize (lexR (bl s)).2.2 = f at h26 h27
  refine bO3at h26 ?_
  -- a turn
  have turn : ∀ z : Int, z < 2 → Ev (fun n => L5_2 n s (ts.map tokD) p f (IntKind.wrap .i64 (z + 1))) true → Ev (fun n => L5_2 n s (ts.map tokD) p f z) true := by
    intro z hz hnext
    have inner : ∀ i : Nat, i ≤ ts.length → Ev (fun n => L5_5 n s (ts.map tokD) p f z (i : Int) (lst ts i)) true := by
      refine down _ ?_ (fun i hi ih => ?_)
      · refine .succ ?_
        simp only [L5_5, lenF, lst_len, Int.lt_irrefl, if_false]
        refine .succ ?_
        simp only [L5_6, Bool.false_eq_true, if_false, letF]
        exact hnext
      · have g1 := lst_get hi
        have g2 : (ts.map tokD)[i]? = some (tokD ts[i]) := by rw [List.getElem?_map, List.getElem?_eq_getElem hi]; rfl
        have hn : (0 : Int) ≤ (i : Int) ∧ i < (lst ts i).length := ⟨by omega, by rw [lst_len]; exact hi⟩
        refine .succ ?_
        simp only [L5_5, lenF, lst_len, if_pos (show (i : Int) < (ts.length : Int) by omega)]
        refine .succ ?_
        simp only [L5_6, if_true, Int.toNat_natCast, need_pos hn, getN_some g1, getF_nat g2, tokD, ds_t46, ds_t47]
        refine .succ ?_
        simp only [L5_7, Bool.false_eq_true, if_false, Int.toNat_natCast, need_pos hn, getN_some g1, tokD, ds_t46, letF, setF, wrap_succ (N := ts.length) hi (by omega)]
        have := lst_set hi
        simp only [spD] at this
        rw [this]
        exact ih
    refine .succ ?_
    simp only [L5_2, if_pos hz]
    refine .succ ?_
    simp only [L5_3, if_true]
    refine bO3at h27 ?_
    simp only [if_true, lenF, List.length_map]
    refine .succ ?_
    simp only [L5_4, Bool.false_eq_true, if_false]
    have := inner 0 (Nat.zero_le _)
    simpa [lst] using this
  refine turn 0 (by decide) ?_
  rw [show IntKind.i64.wrap (0 + 1) = 1 from rfl]
  refine turn 1 (by decide) ?_
  rw [show IntKind.i64.wrap (1 + 1) = 2 from rfl]
  refine .succ ?_
  simp only [L5_2, Int.lt_irrefl, if_false]
  exact .succ (.of fun n => by rw [L5_3, if_neg Bool.false_ne_true])
theorem lex_all_trip : ∀ xs : List D, Shapes tab [9] xs → Trip Tryd.prog inv 5 (xs.map V1.d) [] (.v (.d (.bool true))) [] [] := by
  intro xs h
  match xs, h with
  | [u], ⟨u1, u2, _⟩ =>
    obtain ⟨s, rfl, hs⟩ := rs9 ⟨u1, u2⟩
    obtain ⟨n, hn⟩ := (lex_all_law hs).run
    exact T5 n hn
end Go.Proofs.YtjmofeakajdbiaaDoor

namespace Go.Proofs.YtjmofeakajdbiaaDoor
open Go Go.ChangeShapes Go.WideShapes Go.ChangeAt Go.RowKit Go.AM

theorem lex_all_reads : ∀ t ∈ [9], Tryd.prog.readableRec t = true ∧ t < Tryd.prog.types.size := by
  have h : ([9].all fun t => Tryd.prog.readableRec t && decide (t < Tryd.prog.types.size)) = true := by kernel_rfl
  intro t ht
  have := List.all_eq_true.1 h t ht
  simpa using this

theorem lex_all_inv {W : World} (h : laidMet Tryd.prog Rows.lexAllRow.laid W) : inv.at W fun _ _ => False := by
  have e : (Rows.lexAllRow.laid.filter fun x => x.1 == "strings.asciiSpace") = [("strings.asciiSpace", Lib.tabData .u8 Lib.asciiSpaceTab)] := by kernel_rfl
  have h2 := laidMet.filter (fun x => x.1 == "strings.asciiSpace") h
  rw [e] at h2
  have ht : Lib.TabIs Tryd.prog W "strings.asciiSpace" .u8 Lib.asciiSpaceTab := by
    exact Lib.tabIs_of_head (g := 0) (t := 87) (e := 5) (n := 256) (by kernel_rfl) (by kernel_rfl) (by kernel_rfl) (by kernel_rfl) (by kernel_rfl) (by kernel_rfl) h2
  refine ⟨ht, fun b hb => ⟨?_, fun _ h => h⟩⟩
  have hb : Tryd.prog.globalNamed "strings.asciiSpace" = some b := hb
  unfold Lib.TabIs World.var? at ht
  rw [hb] at ht
  simp only [Option.bind_some] at ht
  cases hx : W.heap[b]? with
  | none => rw [hx] at ht; simp at ht
  | some o => exact (Array.getElem?_eq_some_iff.1 hx).1

set_option maxRecDepth 100000 in
theorem lex_all_lifted (os : Os) (started : os.Started) (H : Type) (enc : TypeId × Value → H) :
    ReturnsInHanded {} Tryd.checked os 5 .any (fun w args => (Rows.lexAllSpec.pre enc Tryd.prog Tryd.f5 Rows.lexAllRow.domain false w args ∧ laidMetH Tryd.prog Rows.lexAllRow.laid w) ∧ sizedMet enc Tryd.prog Tryd.f5 (OpenSpec.ofChange Rows.lexAllSpec) false w args)
      (Rows.lexAllSpec.post enc Tryd.prog Tryd.f5 false true false false) := by
  refine returnsInHanded_of_change_and (C := Tryd.checked) (X := fun w _ => laidMetH Tryd.prog Rows.lexAllRow.laid w) (fun _ _ _ hh h => h.of_heap hh) (by kernel_rfl) started (by kernel_rfl) Tryd.func5
    (ChangeSpec.witness_shaped (enc := enc) (C := Tryd.checked) (os := os) (X := fun w _ => laidMetH Tryd.prog Rows.lexAllRow.laid w) false (World.laidAll Tryd.prog os Rows.lexAllRow.laid) #[.string ⟨#[]⟩] 8 (World.laidAll_os _ _ _)
      (World.shaped_of_ZipB (by kernel_rfl) (by kernel_rfl)) (by kernel_rfl) (by kernel_rfl) (by kernel_rfl)
      (by rw [MakeChecks.laidMetH_plain _ _ _ (by kernel_rfl)]; exact laidMet_laidAll _ (by kernel_rfl) (by kernel_rfl))) ?_
  intro W base args ds gs before hval0 hW _ _ hL _
  rw [MakeChecks.laidMetH_plain _ _ _ (by kernel_rfl)] at hL
  refine law_calls (ti := tab) (T := [9]) tab_ok (by kernel_rfl) (ts := [9]) (bt := 4) rfl rfl rfl (by kernel_rfl) (by decide) ?_ (by kernel_rfl) lex_all_reads lex_all_trip (lex_all_inv hL) hval0 hW
  intro ds h
  match ds, h with
  | [_], _ => exact ⟨rfl, rfl, rfl⟩
theorem lex_all_row : Rows.LexAllSaid :=
  OpenClaim.holds_of_wide 5 Tryd.f5 rfl rfl rfl rfl rfl rfl rfl ⟨rfl, rfl, rfl, rfl, rfl⟩ rfl rfl rfl rfl rfl (by kernel_rfl) Tryd.func5 (by kernel_rfl)
    (of_decide_eq_true (by kernel_rfl)) (by unfold Func.isWrapper; first | (rw [if_pos (by decide +kernel)]; kernel_rfl) | (rw [if_neg (by decide +kernel)]; exact ⟨rfl, rfl⟩))
    (fun os started H enc _ => lex_all_lifted os started H enc)
theorem lex_all : Rows.LexAllCardSaid :=
  Claim7.holds_tied_plain_at .later [] [.listed, .data] true Rows.lexAllCard.stood.harness false lex_all_row (fun _ h => by cases h) (by kernel_rfl) (fun _ h => by cases h) lexAll_row_tie rfl ⟨rfl, rfl⟩ (by kernel_rfl) rfl
    (fun f fn hf hfn => by
      obtain rfl : f = 5 := Option.some.inj ((show Tryd.prog.funcNamed "weftway/weftwaylaw02.LexAll" = some 5 by kernel_rfl).symm.trans hf) |>.symm
      obtain rfl : fn = Tryd.f5 := (Option.some.inj (Tryd.func5.symm.trans hfn)).symm
      exact ⟨by kernel_rfl, fun j t ht => by
        have hm : t ∈ [9] := by
          have hp : Tryd.f5.params.toList = [9] := rfl
          rw [← hp]; simpa using Array.mem_of_getElem? ht
        have hall : ([9].all fun u => !Tryd.prog.wantsStandIn u) = true := by kernel_rfl
        exact (show Tryd.prog.wantsStandIn t = false by simpa using List.all_eq_true.1 hall t hm)⟩)
    (by kernel_rfl)
end Go.Proofs.YtjmofeakajdbiaaDoor
