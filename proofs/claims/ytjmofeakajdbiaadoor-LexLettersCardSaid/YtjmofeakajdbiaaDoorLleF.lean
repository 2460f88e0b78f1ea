/- LexLetters holds: the numbers and the names that are made of any letters are read as the document says. No condition. (Part 6: YtjmofeakajdbiaaDoorX10, LxR, LxS, LxSh.) -/
import Derived.Lib.ItoaNum
import Derived.Lib.ItoaLen
import Derived.Test.YtjmofeakajdbiaaDoorRows
import Derived.Test.YtjmofeakajdbiaaDoorTie
import Derived.Test.YtjmofeakajdbiaaDoorCards
import Derived.ChangeSame
import Derived.JoinedOf
import Derived.JoinedAt
import Derived.RowKit
import Derived.RowKit2
import Derived.ReadAgain
import Derived.ChangeAlike
import Derived.Lay
import Derived.Handed
import Derived.LaidSub
import Derived.LaidLaws
import Derived.LaidHandle
import Derived.MakeChecks
import Derived.SevenTiedAt
import Derived.Lib.LaidTab
import Derived.Lib.LaidU8
import Derived.Test.YtjmofeakajdbiaaDoorLleE
set_option linter.unusedVariables false
set_option linter.unusedSimpArgs false
/- Printed by lift.py: functional texts of functions, and their contracts. No condition. -/
set_option linter.unusedVariables false
noncomputable section
namespace Go.Proofs.YtjmofeakajdbiaaDoor
open Go Go.AM
def L10_8 : Nat → Bool → ByteArray → (List D) → Int → Int → Bool → Option (Bool)
  | 0, _, _, _, _, _, _ => none
  | n + 1, b27, s34, l49, z50, z51, b53 =>
    (if b53 = true then (if z51 = (20 : Int) then (if z50 = (1 : Int) then some true else some false) else some false) else (if z51 = (0 : Int) then lenF l49 fun z54 => (if z54 = (1 : Int) then getF l49 0 fun x55 => ds_t46 x55 fun z56 s57 z58 => (if s57 = s34 then bO1 (F11 n s34) fun b59 => (if b59 = true then some true else getF l49 0 fun x60 => ds_t46 x60 fun z61 s62 z63 => (if z61 = (3 : Int) then letB (true == b27) fun b64 => some b64 else letB (false == b27) fun b65 => some b65)) else some false) else some false) else some false))
mutual
def L10_6 : Nat → (List D) → Bool → ByteArray → Int → Option (Bool)
  | 0, _, _, _, _ => none
  | n + 1, l1, b27, s34, z35 =>
    lenF l1 fun z36 => (if z35 < z36 then L10_7 n l1 b27 s34 z35 true else L10_7 n l1 b27 s34 z35 false)
def L10_7 : Nat → (List D) → Bool → ByteArray → Int → Bool → Option (Bool)
  | 0, _, _, _, _, _ => none
  | n + 1, l1, b27, s34, z35, b37 =>
    (if b37 = true then getF l1 z35 fun x38 => ds_u8 x38 fun z39 => needF ((63 : Int) ≠ 0) (letF (Int.tmod z39 63) fun z40 => getF l1 z35 fun x41 => ds_u8 x41 fun z42 => needF ((63 : Int) ≠ 0) (letF (Int.tmod z42 63) fun z43 => letF (IntKind.wrap .u8 (z43 + 1)) fun z44 => subF k_abcdefghijklmnopqrstuvwx z40 z44 fun s45 => catF s34 s45 fun s46 => letF (IntKind.wrap .i64 (z35 + 1)) fun z47 => L10_6 n l1 b27 s46 z47)) else catF k___18 s34 fun s48 => bO3 (F27 n s48) fun l49 z50 z51 => szF s34 fun z52 => (if (16 : Int) < z52 then L10_8 n b27 s34 l49 z50 z51 true else L10_8 n b27 s34 l49 z50 z51 false))
end
def L10_5 : Nat → (List D) → Bool → Int → Option (Bool)
  | 0, _, _, _ => none
  | n + 1, l1, b27, z28 =>
    getF l1 0 fun x29 => ds_u8 x29 fun z30 => needF ((26 : Int) ≠ 0) (letF (Int.tmod z30 26) fun z31 => letF (IntKind.wrap .u8 (z28 + z31)) fun z32 => strF ([.int .u8 z32]) fun s33 => L10_6 n l1 b27 s33 (1 : Int))
def L10_4 : Nat → (List D) → Bool → Bool → Option (Bool)
  | 0, _, _, _ => none
  | n + 1, l1, b2, b26 =>
    (if b26 = true then some true else (if b2 = true then L10_5 n l1 true (65 : Int) else L10_5 n l1 false (97 : Int)))
def L10_3 : Nat → (List D) → Bool → Bool → Option (Bool)
  | 0, _, _, _ => none
  | n + 1, l1, b2, b23 =>
    (if b23 = true then some false else lenF l1 fun z24 => (if z24 < (1 : Int) then L10_4 n l1 b2 true else lenF l1 fun z25 => (if (30 : Int) < z25 then L10_4 n l1 b2 true else L10_4 n l1 b2 false)))
mutual
def L10_1 : Nat → (List D) → Bool → Int → ByteArray → Int → Option (Bool)
  | 0, _, _, _, _, _ => none
  | n + 1, l1, b2, z3, s6, z7 =>
    (if (0 : Int) < z7 then L10_2 n l1 b2 z3 s6 z7 true else (if s6 = ByteArray.empty then L10_2 n l1 b2 z3 s6 z7 true else L10_2 n l1 b2 z3 s6 z7 false))
def L10_2 : Nat → (List D) → Bool → Int → ByteArray → Int → Bool → Option (Bool)
  | 0, _, _, _, _, _, _ => none
  | n + 1, l1, b2, z3, s6, z7, b8 =>
    (if b8 = true then needF ((10 : Int) ≠ 0) (letF (Int.tmod z7 10) fun z9 => letF (IntKind.wrap .u64 (48 + z9)) fun z10 => letF (IntKind.wrap .u8 z10) fun z11 => strF ([.int .u8 z11]) fun s12 => catF s12 s6 fun s13 => needF ((10 : Int) ≠ 0) (letF (IntKind.wrap .u64 (Int.tdiv z7 10)) fun z14 => L10_1 n l1 b2 z3 s13 z14)) else bO3 (F27 n s6) fun l15 z16 z17 => (if z3 < (9223372036854775808 : Int) then (if z17 = (0 : Int) then lenF l15 fun z18 => (if z18 = (1 : Int) then getF l15 0 fun x19 => ds_t46 x19 fun z20 s21 z22 => (if z20 = (4 : Int) then (if (9223372036854775808 : Int) ≤ z3 then (if z17 = (20 : Int) then L10_3 n l1 b2 false else L10_3 n l1 b2 true) else L10_3 n l1 b2 false) else L10_3 n l1 b2 true) else L10_3 n l1 b2 true) else L10_3 n l1 b2 true) else (if (9223372036854775808 : Int) ≤ z3 then (if z17 = (20 : Int) then L10_3 n l1 b2 false else L10_3 n l1 b2 true) else L10_3 n l1 b2 false)))
end
def F10 (n : Nat) (l1 : List D) (b2 : Bool) (z3 : Int) : Option (Bool) :=
  bO1 (F28 n) fun b4 => letB (!b4) fun b5 => (if b5 = true then some false else L10_1 n l1 b2 z3 ByteArray.empty z3)
set_option maxRecDepth 100000 in
set_option maxHeartbeats 40000000 in
theorem T10 (n : Nat) : ∀ ⦃l1 : List D⦄ ⦃b2 : Bool⦄ ⦃z3 : Int⦄ ⦃r1 : Bool⦄, F10 n l1 b2 z3 = some r1 →
    Trip Tryd.prog inv 10 [.d (.list false 1 l1), .d (.bool b2), .d (.int .u64 z3)] [] (.v (.d (.bool r1))) [] [] := by
  intro l1 b2 z3 r1 h
  unfold F10 at h
  refine Trip.of tab_ok tab_one fol Tryd.func10 rfl (by kernel_rfl) rfl rfl rfl (fun M hM hI => ?_)
  try cbv
  refine seq_go ?_
  try cbv
  refine seq_go ?_
  try cbv
  refine seq_go ?_
  try cbv
  replace h := bO1_inv h
  obtain ⟨b4, hr, h⟩ := h
  refine call_go rfl rfl ?_
  try cbv
  refine call_pure hM hI (T28 _ hr) rfl ?_
  clear hr
  try cbv
  replace h := letB_inv h
  obtain ⟨b5, hz, h⟩ := h
  refine ⟨b5, not_eq' hz, ?_⟩
  clear hz
  try cbv
  cases b5
  · replace h := ite_f Bool.false_ne_true h
    try cbv
    refine seq_go ?_
    try cbv
    refine seq_go ?_
    try cbv
    refine seq_go ?_
    try cbv
    refine loop_inv (T := Nat × ByteArray × Int) [0, 1, 2, 6, 7, 8] [] 192 (fun t => ⟨[(0, .v (.d (.list false 1 l1))), (1, .v (.d (.bool b2))), (2, .v (.d (.int .u64 z3))), (6, .v (.d (.bool false))), (7, .v (.d (.str t.2.1))), (8, .v (.d (.int .u64 t.2.2)))], [], 192⟩)
      (fun t => t.1 ≤ n ∧ L10_1 t.1 l1 b2 z3 t.2.1 t.2.2 = some r1) (fun t => t.1) (n, (ByteArray.empty, z3)) ⟨Nat.le_refl _, h⟩ (by cbv) ?_
    clear h
    rintro ⟨m1, s6, z7⟩ ⟨hm1, h⟩
    replace hm1 : m1 ≤ n := hm1
    cases m1 with
    | zero => cases (show (none : Option _) = some _ from h)
    | succ m1 =>
      replace h : L10_1 (m1 + 1) l1 b2 z3 s6 z7 = some r1 := h
      rw [L10_1] at h
      try cbv
      refine seq_go ?_
      try cbv
      refine seq_join (T := Nat × Bool) (fun t => ⟨[(0, .v (.d (.list false 1 l1))), (1, .v (.d (.bool b2))), (2, .v (.d (.int .u64 z3))), (6, .v (.d (.bool false))), (7, .v (.d (.str s6))), (8, .v (.d (.int .u64 z7))), (27, .v (.d (.bool t.2)))], [], 384⟩) (fun t => t.1 ≤ m1 ∧ L10_2 t.1 l1 b2 z3 s6 z7 t.2 = some r1) ?_ ?_
      · try cbv
        refine splitL (fun e => ?_) (fun e => ?_)
        · replace h := ite_t e h
          clear e
          try cbv
          exact join_next (m1, true) [0, 1, 2, 6, 7, 8, 27] [] 384 ⟨by omega, h⟩ (by cbv)
        · replace h := ite_f (Int.not_lt.2 e) h
          clear e
          try cbv
          refine splitS (fun e => ?_) (fun e => ?_)
          · replace h := ite_t (bytes_eq.1 e) h
            clear e
            try cbv
            exact join_next (m1, true) [0, 1, 2, 6, 7, 8, 27] [] 384 ⟨by omega, h⟩ (by cbv)
          · replace h := ite_f (bytes_ne.1 e) h
            clear e
            try cbv
            exact join_next (m1, false) [0, 1, 2, 6, 7, 8, 27] [] 384 ⟨by omega, h⟩ (by cbv)
      · clear h
        rintro ⟨m2, b8⟩ ⟨hm2, h⟩
        replace hm2 : m2 ≤ m1 := hm2
        cases m2 with
        | zero => cases (show (none : Option _) = some _ from h)
        | succ m2 =>
          replace h : L10_2 (m2 + 1) l1 b2 z3 s6 z7 b8 = some r1 := h
          rw [L10_2] at h
          try cbv
          cases b8
          · replace h := ite_f Bool.false_ne_true h
            try cbv
            refine seq_go ?_
            try cbv
            replace h := bO3_inv h
            obtain ⟨l15, z16, z17, hr, h⟩ := h
            refine call_go rfl rfl ?_
            try cbv
            refine call_pure hM hI (T27 _ hr) rfl ?_
            clear hr
            try cbv
            refine seq_go ?_
            try cbv
            refine seq_join (T := Nat × Bool) (fun t => ⟨[(0, .v (.d (.list false 1 l1))), (1, .v (.d (.bool b2))), (2, .v (.d (.int .u64 z3))), (6, .v (.d (.bool false))), (7, .v (.d (.str s6))), (8, .v (.d (.int .u64 z7))), (69, .v (.d (.bool t.2)))], [], 1504⟩) (fun t => t.1 ≤ m2 ∧ L10_3 t.1 l1 b2 t.2 = some r1) ?_ ?_
            · try cbv
              refine splitL (fun e => ?_) (fun e => ?_)
              · replace h := ite_t e h
                clear e
                try cbv
                refine splitI (fun e => ?_) (fun e => ?_)
                · replace h := ite_t e h
                  clear e
                  try cbv
                  replace h := lenF_inv M h
                  obtain ⟨z18, hz, h⟩ := h
                  refine ⟨z18, hz, ?_⟩
                  clear hz
                  try cbv
                  refine splitI (fun e => ?_) (fun e => ?_)
                  · replace h := ite_t e h
                    clear e
                    try cbv
                    replace h := getF_inv h
                    obtain ⟨x19, ⟨hx0, hx⟩, h⟩ := h
                    refine ⟨x19, hx0, hx, ?_⟩
                    clear hx0 hx
                    replace h := ds_t46_inv h
                    obtain ⟨z20, s21, z22, rfl, h⟩ := h
                    try cbv
                    refine splitI (fun e => ?_) (fun e => ?_)
                    · replace h := ite_t e h
                      clear e
                      try cbv
                      refine splitLe (fun e => ?_) (fun e => ?_)
                      · replace h := ite_t e h
                        clear e
                        try cbv
                        refine splitI (fun e => ?_) (fun e => ?_)
                        · replace h := ite_t e h
                          clear e
                          try cbv
                          exact join_next (m2, false) [0, 1, 2, 6, 7, 8, 69] [] 1504 ⟨by omega, h⟩ (by cbv)
                        · replace h := ite_f e h
                          clear e
                          try cbv
                          exact join_next (m2, true) [0, 1, 2, 6, 7, 8, 69] [] 1504 ⟨by omega, h⟩ (by cbv)
                      · replace h := ite_f (Int.not_le.2 e) h
                        clear e
                        try cbv
                        exact join_next (m2, false) [0, 1, 2, 6, 7, 8, 69] [] 1504 ⟨by omega, h⟩ (by cbv)
                    · replace h := ite_f e h
                      clear e
                      try cbv
                      exact join_next (m2, true) [0, 1, 2, 6, 7, 8, 69] [] 1504 ⟨by omega, h⟩ (by cbv)
                  · replace h := ite_f e h
                    clear e
                    try cbv
                    exact join_next (m2, true) [0, 1, 2, 6, 7, 8, 69] [] 1504 ⟨by omega, h⟩ (by cbv)
                · replace h := ite_f e h
                  clear e
                  try cbv
                  exact join_next (m2, true) [0, 1, 2, 6, 7, 8, 69] [] 1504 ⟨by omega, h⟩ (by cbv)
              · replace h := ite_f (Int.not_lt.2 e) h
                clear e
                try cbv
                refine splitLe (fun e => ?_) (fun e => ?_)
                · replace h := ite_t e h
                  clear e
                  try cbv
                  refine splitI (fun e => ?_) (fun e => ?_)
                  · replace h := ite_t e h
                    clear e
                    try cbv
                    exact join_next (m2, false) [0, 1, 2, 6, 7, 8, 69] [] 1504 ⟨by omega, h⟩ (by cbv)
                  · replace h := ite_f e h
                    clear e
                    try cbv
                    exact join_next (m2, true) [0, 1, 2, 6, 7, 8, 69] [] 1504 ⟨by omega, h⟩ (by cbv)
                · replace h := ite_f (Int.not_le.2 e) h
                  clear e
                  try cbv
                  exact join_next (m2, false) [0, 1, 2, 6, 7, 8, 69] [] 1504 ⟨by omega, h⟩ (by cbv)
            · clear h
              rintro ⟨m3, b23⟩ ⟨hm3, h⟩
              replace hm3 : m3 ≤ m2 := hm3
              cases m3 with
              | zero => cases (show (none : Option _) = some _ from h)
              | succ m3 =>
                replace h : L10_3 (m3 + 1) l1 b2 b23 = some r1 := h
                rw [L10_3] at h
                try cbv
                cases b23
                · replace h := ite_f Bool.false_ne_true h
                  try cbv
                  refine seq_go ?_
                  try cbv
                  refine seq_join (T := Nat × Bool) (fun t => ⟨[(0, .v (.d (.list false 1 l1))), (1, .v (.d (.bool b2))), (2, .v (.d (.int .u64 z3))), (6, .v (.d (.bool false))), (7, .v (.d (.str s6))), (8, .v (.d (.int .u64 z7))), (77, .v (.d (.bool t.2)))], [], 1760⟩) (fun t => t.1 ≤ m3 ∧ L10_4 t.1 l1 b2 t.2 = some r1) ?_ ?_
                  · try cbv
                    replace h := lenF_inv M h
                    obtain ⟨z24, hz, h⟩ := h
                    refine ⟨z24, hz, ?_⟩
                    clear hz
                    try cbv
                    refine splitL (fun e => ?_) (fun e => ?_)
                    · replace h := ite_t e h
                      clear e
                      try cbv
                      exact join_next (m3, true) [0, 1, 2, 6, 7, 8, 77] [] 1760 ⟨by omega, h⟩ (by cbv)
                    · replace h := ite_f (Int.not_lt.2 e) h
                      clear e
                      try cbv
                      replace h := lenF_inv M h
                      obtain ⟨z25, hz, h⟩ := h
                      refine ⟨z25, hz, ?_⟩
                      clear hz
                      try cbv
                      refine splitL (fun e => ?_) (fun e => ?_)
                      · replace h := ite_t e h
                        clear e
                        try cbv
                        exact join_next (m3, true) [0, 1, 2, 6, 7, 8, 77] [] 1760 ⟨by omega, h⟩ (by cbv)
                      · replace h := ite_f (Int.not_lt.2 e) h
                        clear e
                        try cbv
                        exact join_next (m3, false) [0, 1, 2, 6, 7, 8, 77] [] 1760 ⟨by omega, h⟩ (by cbv)
                  · clear h
                    rintro ⟨m4, b26⟩ ⟨hm4, h⟩
                    replace hm4 : m4 ≤ m3 := hm4
                    cases m4 with
                    | zero => cases (show (none : Option _) = some _ from h)
                    | succ m4 =>
                      replace h : L10_4 (m4 + 1) l1 b2 b26 = some r1 := h
                      rw [L10_4] at h
                      try cbv
                      cases b26
                      · replace h := ite_f Bool.false_ne_true h
                        try cbv
                        refine seq_go ?_
                        try cbv
                        refine seq_go ?_
                        try cbv
                        refine seq_join (T := Nat × Bool × Int) (fun t => ⟨[(0, .v (.d (.list false 1 l1))), (1, .v (.d (.bool t.2.1))), (2, .v (.d (.int .u64 z3))), (6, .v (.d (.bool false))), (7, .v (.d (.str s6))), (8, .v (.d (.int .u64 z7))), (12, .v (.d (.str k_abcdefghijklmnopqrstuvwx))), (13, .v (.d (.int .u8 t.2.2)))], [], 1888⟩) (fun t => t.1 ≤ m4 ∧ L10_5 t.1 l1 t.2.1 t.2.2 = some r1) ?_ ?_
                        · try cbv
                          refine seq_go ?_
                          try cbv
                          cases b2
                          · replace h := ite_f Bool.false_ne_true h
                            try cbv
                            exact join_next (m4, (false, (97 : Int))) [0, 1, 2, 6, 7, 8, 12, 13] [] 1888 ⟨by omega, h⟩ (by cbv)
                          · replace h := ite_t rfl h
                            try cbv
                            exact join_next (m4, (true, (65 : Int))) [0, 1, 2, 6, 7, 8, 12, 13] [] 1888 ⟨by omega, h⟩ (by cbv)
                        · clear h
                          rintro ⟨m5, b27, z28⟩ ⟨hm5, h⟩
                          replace hm5 : m5 ≤ m4 := hm5
                          cases m5 with
                          | zero => cases (show (none : Option _) = some _ from h)
                          | succ m5 =>
                            replace h : L10_5 (m5 + 1) l1 b27 z28 = some r1 := h
                            rw [L10_5] at h
                            try cbv
                            refine seq_go ?_
                            try cbv
                            replace h := getF_inv h
                            obtain ⟨x29, ⟨hx0, hx⟩, h⟩ := h
                            refine ⟨x29, hx0, hx, ?_⟩
                            clear hx0 hx
                            replace h := ds_u8_inv h
                            obtain ⟨z30, rfl, h⟩ := h
                            try cbv
                            replace h := needF_inv h
                            obtain ⟨hn, h⟩ := h
                            replace h := letF_inv h
                            obtain ⟨z31, hz, h⟩ := h
                            refine ⟨z31, hn, hz, ?_⟩
                            clear hn hz
                            try cbv
                            replace h := letF_inv h
                            obtain ⟨z32, hz, h⟩ := h
                            refine ⟨z32, hz, ?_⟩
                            clear hz
                            try cbv
                            refine ⟨false, ?_⟩
                            try cbv
                            refine ⟨true, ?_⟩
                            try cbv
                            replace h := strF_inv h
                            obtain ⟨ns, s33, hz, hy, h⟩ := h
                            refine ⟨ns, (M.lock_iff _).2 hz, s33, hy, ?_⟩
                            clear hz hy ns
                            try cbv
                            refine seq_go ?_
                            try cbv
                            refine seq_go ?_
                            try cbv
                            refine loop_inv (T := Nat × ByteArray × Int) [0, 1, 2, 6, 7, 8, 12, 13, 14, 15] [] 2208 (fun t => ⟨[(0, .v (.d (.list false 1 l1))), (1, .v (.d (.bool b27))), (2, .v (.d (.int .u64 z3))), (6, .v (.d (.bool false))), (7, .v (.d (.str s6))), (8, .v (.d (.int .u64 z7))), (12, .v (.d (.str k_abcdefghijklmnopqrstuvwx))), (13, .v (.d (.int .u8 z28))), (14, .v (.d (.str t.2.1))), (15, .v (.d (.int .i64 t.2.2)))], [], 2208⟩)
                              (fun t => t.1 ≤ m5 ∧ L10_6 t.1 l1 b27 t.2.1 t.2.2 = some r1) (fun t => t.1) (m5, (s33, (1 : Int))) ⟨Nat.le_refl _, h⟩ (by cbv) ?_
                            clear h
                            rintro ⟨m6, s34, z35⟩ ⟨hm6, h⟩
                            replace hm6 : m6 ≤ m5 := hm6
                            cases m6 with
                            | zero => cases (show (none : Option _) = some _ from h)
                            | succ m6 =>
                              replace h : L10_6 (m6 + 1) l1 b27 s34 z35 = some r1 := h
                              rw [L10_6] at h
                              try cbv
                              refine seq_go ?_
                              try cbv
                              refine seq_join (T := Nat × Bool) (fun t => ⟨[(0, .v (.d (.list false 1 l1))), (1, .v (.d (.bool b27))), (2, .v (.d (.int .u64 z3))), (6, .v (.d (.bool false))), (7, .v (.d (.str s6))), (8, .v (.d (.int .u64 z7))), (12, .v (.d (.str k_abcdefghijklmnopqrstuvwx))), (13, .v (.d (.int .u8 z28))), (14, .v (.d (.str s34))), (15, .v (.d (.int .i64 z35))), (90, .v (.d (.bool t.2)))], [], 2336⟩) (fun t => t.1 ≤ m6 ∧ L10_7 t.1 l1 b27 s34 z35 t.2 = some r1) ?_ ?_
                              · try cbv
                                replace h := lenF_inv M h
                                obtain ⟨z36, hz, h⟩ := h
                                refine ⟨z36, hz, ?_⟩
                                clear hz
                                try cbv
                                refine splitL (fun e => ?_) (fun e => ?_)
                                · replace h := ite_t e h
                                  clear e
                                  try cbv
                                  exact join_next (m6, true) [0, 1, 2, 6, 7, 8, 12, 13, 14, 15, 90] [] 2336 ⟨by omega, h⟩ (by cbv)
                                · replace h := ite_f (Int.not_lt.2 e) h
                                  clear e
                                  try cbv
                                  exact join_next (m6, false) [0, 1, 2, 6, 7, 8, 12, 13, 14, 15, 90] [] 2336 ⟨by omega, h⟩ (by cbv)
                              · clear h
                                rintro ⟨m7, b37⟩ ⟨hm7, h⟩
                                replace hm7 : m7 ≤ m6 := hm7
                                cases m7 with
                                | zero => cases (show (none : Option _) = some _ from h)
                                | succ m7 =>
                                  replace h : L10_7 (m7 + 1) l1 b27 s34 z35 b37 = some r1 := h
                                  rw [L10_7] at h
                                  try cbv
                                  cases b37
                                  · replace h := ite_f Bool.false_ne_true h
                                    try cbv
                                    refine seq_go ?_
                                    try cbv
                                    replace h := catF_inv h
                                    obtain ⟨s48, hz, hb, h⟩ := h
                                    refine ⟨s48, hz, hb, ?_⟩
                                    clear hb hz
                                    try cbv
                                    replace h := bO3_inv h
                                    obtain ⟨l49, z50, z51, hr, h⟩ := h
                                    refine call_go rfl rfl ?_
                                    try cbv
                                    refine call_pure hM hI (T27 _ hr) rfl ?_
                                    clear hr
                                    try cbv
                                    refine seq_go ?_
                                    try cbv
                                    refine seq_join (T := Nat × Bool) (fun t => ⟨[(0, .v (.d (.list false 1 l1))), (1, .v (.d (.bool b27))), (2, .v (.d (.int .u64 z3))), (6, .v (.d (.bool false))), (7, .v (.d (.str s6))), (8, .v (.d (.int .u64 z7))), (12, .v (.d (.str k_abcdefghijklmnopqrstuvwx))), (13, .v (.d (.int .u8 z28))), (14, .v (.d (.str s34))), (15, .v (.d (.int .i64 z35))), (16, .v (.d (.list true 3 l49))), (17, .v (.d (.int .i64 z50))), (18, .v (.d (.int .i64 z51))), (117, .v (.d (.bool t.2)))], [], 2752⟩) (fun t => t.1 ≤ m7 ∧ L10_8 t.1 b27 s34 l49 z50 z51 t.2 = some r1) ?_ ?_
                                    · try cbv
                                      replace h := szF_inv M h
                                      obtain ⟨z52, hz, h⟩ := h
                                      refine ⟨z52, hz, ?_⟩
                                      clear hz
                                      try cbv
                                      refine splitL (fun e => ?_) (fun e => ?_)
                                      · replace h := ite_t e h
                                        clear e
                                        try cbv
                                        exact join_next (m7, true) [0, 1, 2, 6, 7, 8, 12, 13, 14, 15, 16, 17, 18, 117] [] 2752 ⟨by omega, h⟩ (by cbv)
                                      · replace h := ite_f (Int.not_lt.2 e) h
                                        clear e
                                        try cbv
                                        exact join_next (m7, false) [0, 1, 2, 6, 7, 8, 12, 13, 14, 15, 16, 17, 18, 117] [] 2752 ⟨by omega, h⟩ (by cbv)
                                    · clear h
                                      rintro ⟨m8, b53⟩ ⟨hm8, h⟩
                                      replace hm8 : m8 ≤ m7 := hm8
                                      cases m8 with
                                      | zero => cases (show (none : Option _) = some _ from h)
                                      | succ m8 =>
                                        replace h : L10_8 (m8 + 1) b27 s34 l49 z50 z51 b53 = some r1 := h
                                        rw [L10_8] at h
                                        try cbv
                                        cases b53
                                        · replace h := ite_f Bool.false_ne_true h
                                          try cbv
                                          refine seq_go ?_
                                          try cbv
                                          refine splitI (fun e => ?_) (fun e => ?_)
                                          · replace h := ite_t e h
                                            clear e
                                            try cbv
                                            replace h := lenF_inv M h
                                            obtain ⟨z54, hz, h⟩ := h
                                            refine ⟨z54, hz, ?_⟩
                                            clear hz
                                            try cbv
                                            refine splitI (fun e => ?_) (fun e => ?_)
                                            · replace h := ite_t e h
                                              clear e
                                              try cbv
                                              replace h := getF_inv h
                                              obtain ⟨x55, ⟨hx0, hx⟩, h⟩ := h
                                              refine ⟨x55, hx0, hx, ?_⟩
                                              clear hx0 hx
                                              replace h := ds_t46_inv h
                                              obtain ⟨z56, s57, z58, rfl, h⟩ := h
                                              try cbv
                                              refine splitS (fun e => ?_) (fun e => ?_)
                                              · replace h := ite_t (bytes_eq.1 e) h
                                                clear e
                                                try cbv
                                                replace h := bO1_inv h
                                                obtain ⟨b59, hr, h⟩ := h
                                                refine call_go rfl rfl ?_
                                                try cbv
                                                refine call_pure hM hI (T11 _ hr) rfl ?_
                                                clear hr
                                                try cbv
                                                cases b59
                                                · replace h := ite_f Bool.false_ne_true h
                                                  try cbv
                                                  replace h := getF_inv h
                                                  obtain ⟨x60, ⟨hx0, hx⟩, h⟩ := h
                                                  refine ⟨x60, hx0, hx, ?_⟩
                                                  clear hx0 hx
                                                  replace h := ds_t46_inv h
                                                  obtain ⟨z61, s62, z63, rfl, h⟩ := h
                                                  try cbv
                                                  refine splitI (fun e => ?_) (fun e => ?_)
                                                  · replace h := ite_t e h
                                                    clear e
                                                    try cbv
                                                    replace h := letB_inv h
                                                    obtain ⟨b64, hz, h⟩ := h
                                                    refine ⟨b64, eqv_eq hz, ?_⟩
                                                    clear hz
                                                    try cbv
                                                    obtain rfl := Option.some.inj h
                                                    refine fin_go ?_
                                                    try cbv
                                                    exact ⟨[], rfl, rfl, trivial, trivial, trivial⟩
                                                  · replace h := ite_f e h
                                                    clear e
                                                    try cbv
                                                    replace h := letB_inv h
                                                    obtain ⟨b65, hz, h⟩ := h
                                                    refine ⟨b65, eqv_eq hz, ?_⟩
                                                    clear hz
                                                    try cbv
                                                    obtain rfl := Option.some.inj h
                                                    refine fin_go ?_
                                                    try cbv
                                                    exact ⟨[], rfl, rfl, trivial, trivial, trivial⟩
                                                · replace h := ite_t rfl h
                                                  try cbv
                                                  obtain rfl := Option.some.inj h
                                                  refine fin_go ?_
                                                  try cbv
                                                  exact ⟨[], rfl, rfl, trivial, trivial, trivial⟩
                                              · replace h := ite_f (bytes_ne.1 e) h
                                                clear e
                                                try cbv
                                                obtain rfl := Option.some.inj h
                                                refine fin_go ?_
                                                try cbv
                                                exact ⟨[], rfl, rfl, trivial, trivial, trivial⟩
                                            · replace h := ite_f e h
                                              clear e
                                              try cbv
                                              obtain rfl := Option.some.inj h
                                              refine fin_go ?_
                                              try cbv
                                              exact ⟨[], rfl, rfl, trivial, trivial, trivial⟩
                                          · replace h := ite_f e h
                                            clear e
                                            try cbv
                                            obtain rfl := Option.some.inj h
                                            refine fin_go ?_
                                            try cbv
                                            exact ⟨[], rfl, rfl, trivial, trivial, trivial⟩
                                        · replace h := ite_t rfl h
                                          try cbv
                                          refine seq_go ?_
                                          try cbv
                                          refine splitI (fun e => ?_) (fun e => ?_)
                                          · replace h := ite_t e h
                                            clear e
                                            try cbv
                                            refine splitI (fun e => ?_) (fun e => ?_)
                                            · replace h := ite_t e h
                                              clear e
                                              try cbv
                                              obtain rfl := Option.some.inj h
                                              refine fin_go ?_
                                              try cbv
                                              exact ⟨[], rfl, rfl, trivial, trivial, trivial⟩
                                            · replace h := ite_f e h
                                              clear e
                                              try cbv
                                              obtain rfl := Option.some.inj h
                                              refine fin_go ?_
                                              try cbv
                                              exact ⟨[], rfl, rfl, trivial, trivial, trivial⟩
                                          · replace h := ite_f e h
                                            clear e
                                            try cbv
                                            obtain rfl := Option.some.inj h
                                            refine fin_go ?_
                                            try cbv
                                            exact ⟨[], rfl, rfl, trivial, trivial, trivial⟩
                                  · replace h := ite_t rfl h
                                    try cbv
                                    refine seq_go ?_
                                    try cbv
                                    replace h := getF_inv h
                                    obtain ⟨x38, ⟨hx0, hx⟩, h⟩ := h
                                    refine ⟨x38, hx0, hx, ?_⟩
                                    clear hx0 hx
                                    replace h := ds_u8_inv h
                                    obtain ⟨z39, rfl, h⟩ := h
                                    try cbv
                                    replace h := needF_inv h
                                    obtain ⟨hn, h⟩ := h
                                    replace h := letF_inv h
                                    obtain ⟨z40, hz, h⟩ := h
                                    refine ⟨z40, hn, hz, ?_⟩
                                    clear hn hz
                                    try cbv
                                    replace h := getF_inv h
                                    obtain ⟨x41, ⟨hx0, hx⟩, h⟩ := h
                                    refine ⟨x41, hx0, hx, ?_⟩
                                    clear hx0 hx
                                    replace h := ds_u8_inv h
                                    obtain ⟨z42, rfl, h⟩ := h
                                    try cbv
                                    replace h := needF_inv h
                                    obtain ⟨hn, h⟩ := h
                                    replace h := letF_inv h
                                    obtain ⟨z43, hz, h⟩ := h
                                    refine ⟨z43, hn, hz, ?_⟩
                                    clear hn hz
                                    try cbv
                                    replace h := letF_inv h
                                    obtain ⟨z44, hz, h⟩ := h
                                    refine ⟨z44, hz, ?_⟩
                                    clear hz
                                    try cbv
                                    replace h := subF_inv M h
                                    obtain ⟨s45, hb, hz, h⟩ := h
                                    refine ⟨s45, hb, hz, ?_⟩
                                    clear hb hz
                                    try cbv
                                    replace h := catF_inv h
                                    obtain ⟨s46, hz, hb, h⟩ := h
                                    refine ⟨s46, hz, hb, ?_⟩
                                    clear hb hz
                                    try cbv
                                    refine drawn ?_ ?_
                                    · show _ = true
                                      kernel_rfl
                                    try cbv
                                    replace h := letF_inv h
                                    obtain ⟨z47, hz, h⟩ := h
                                    refine ⟨z47, hz, ?_⟩
                                    clear hz
                                    try cbv
                                    exact loop_next (m7, (s46, z47)) [0, 1, 2, 6, 7, 8, 12, 13, 14, 15] [] 2208 ⟨by omega, h⟩ (Nat.lt_succ_of_le (by omega)) (by cbv)
                      · replace h := ite_t rfl h
                        try cbv
                        refine seq_go ?_
                        try cbv
                        obtain rfl := Option.some.inj h
                        refine fin_go ?_
                        try cbv
                        exact ⟨[], rfl, rfl, trivial, trivial, trivial⟩
                · replace h := ite_t rfl h
                  try cbv
                  refine seq_go ?_
                  try cbv
                  obtain rfl := Option.some.inj h
                  refine fin_go ?_
                  try cbv
                  exact ⟨[], rfl, rfl, trivial, trivial, trivial⟩
          · replace h := ite_t rfl h
            try cbv
            refine seq_go ?_
            try cbv
            replace h := needF_inv h
            obtain ⟨hn, h⟩ := h
            replace h := letF_inv h
            obtain ⟨z9, hz, h⟩ := h
            refine ⟨z9, hn, hz, ?_⟩
            clear hn hz
            try cbv
            replace h := letF_inv h
            obtain ⟨z10, hz, h⟩ := h
            refine ⟨z10, hz, ?_⟩
            clear hz
            try cbv
            replace h := letF_inv h
            obtain ⟨z11, hz, h⟩ := h
            refine ⟨z11, hz, ?_⟩
            clear hz
            try cbv
            refine ⟨false, ?_⟩
            try cbv
            refine ⟨true, ?_⟩
            try cbv
            replace h := strF_inv h
            obtain ⟨ns, s12, hz, hy, h⟩ := h
            refine ⟨ns, (M.lock_iff _).2 hz, s12, hy, ?_⟩
            clear hz hy ns
            try cbv
            replace h := catF_inv h
            obtain ⟨s13, hz, hb, h⟩ := h
            refine ⟨s13, hz, hb, ?_⟩
            clear hb hz
            try cbv
            replace h := needF_inv h
            obtain ⟨hn, h⟩ := h
            replace h := letF_inv h
            obtain ⟨z14, hz, h⟩ := h
            refine ⟨z14, hn, hz, ?_⟩
            clear hn hz
            try cbv
            exact loop_next (m2, (s13, z14)) [0, 1, 2, 6, 7, 8] [] 192 ⟨by omega, h⟩ (Nat.lt_succ_of_le (by omega)) (by cbv)
  · replace h := ite_t rfl h
    try cbv
    refine seq_go ?_
    try cbv
    obtain rfl := Option.some.inj h
    refine fin_go ?_
    try cbv
    exact ⟨[], rfl, rfl, trivial, trivial, trivial⟩
end Go.Proofs.YtjmofeakajdbiaaDoor
end

/- Chapter 2, the plain law, part R: texts of one token (for LexLetters; under way). No condition. -/
set_option linter.unusedVariables false
noncomputable section
namespace Go.Proofs.YtjmofeakajdbiaaDoor
open Go Go.AM

theorem tw_all {p : UInt8 → Bool} : ∀ {l : List UInt8}, l.all p = true → l.takeWhile p = l
  | [], _ => rfl
  | a :: l, h => by
    rw [List.all_cons, Bool.and_eq_true] at h
    rw [List.takeWhile_cons, h.1]
    simp [tw_all h.2]
theorem skip_zero {b : UInt8} {r : List UInt8} (h : blank b = false) (h2 : b ≠ 47) : skipB false (b :: r) = 0 := by
  rw [skipB, h, if_neg Bool.false_ne_true, if_neg (fun x => h2 x.1)]
/-- A text that is one token. -/
theorem lexR_oneP {b : UInt8} {r : List UInt8} {k : Int} (pre : List UInt8) (hpre : pre = [] ∨ pre = [32]) (hl : r.length ≤ 3000) (hb : blank b = false) (hb2 : b ≠ 47) (hk : k ≠ 0) (h : oneL (b :: r) = (k, b :: r)) :
    lexR (pre ++ b :: r) = ([⟨k, b :: r, pre.length⟩], 0, 0) := by
  have hs : skipB false (pre ++ b :: r) = pre.length := by
    rcases hpre with rfl | rfl
    · exact skip_zero hb hb2
    · have : blank 32 = true := by decide
      rw [List.singleton_append, skipB, if_pos this, skip_zero hb hb2]; rfl
  have hp : pre.length ≤ 1 := by rcases hpre with rfl | rfl <;> simp
  have hlen : (pre ++ b :: r).length = pre.length + r.length + 1 := by simp; omega
  have key : toks (pre ++ b :: r).length pre.length (b :: r) = ([⟨k, b :: r, pre.length⟩], none) := by
    rw [hlen, toks]
    dsimp only
    rw [h]
    dsimp only
    rw [if_neg hk, List.drop_length]
    have h2 : ∀ m p, toks m p [] = ([], none) := fun m p => by cases m <;> rfl
    have h3 : skipB false ([] : List UInt8) = 0 := rfl
    rw [h3, List.drop_zero, h2]
  unfold lexR
  rw [if_neg (by omega), hs, List.drop_left, key]
  rfl
theorem lexR_none {b : UInt8} {r : List UInt8} (pre : List UInt8) (hpre : pre = [] ∨ pre = [32]) (hl : r.length ≤ 3000) (hb : blank b = false) (hb2 : b ≠ 47) (h : (oneL (b :: r)).1 = 0) :
    lexR (pre ++ b :: r) = ([], (pre.length : Int), 20) := by
  have hs : skipB false (pre ++ b :: r) = pre.length := by
    rcases hpre with rfl | rfl
    · exact skip_zero hb hb2
    · have : blank 32 = true := by decide
      rw [List.singleton_append, skipB, if_pos this, skip_zero hb hb2]; rfl
  have hp : pre.length ≤ 1 := by rcases hpre with rfl | rfl <;> simp
  have hlen : (pre ++ b :: r).length = pre.length + r.length + 1 := by simp; omega
  have key : toks (pre ++ b :: r).length pre.length (b :: r) = ([], some pre.length) := by
    rw [hlen, toks]
    dsimp only
    rw [if_pos h]
  unfold lexR
  rw [if_neg (by omega), hs, List.drop_left, key]

/-! ### digits -/
theorem dec_small {u : Nat} (h : u < 10) : Lib.decDigits u = [UInt8.ofNat (48 + u)] := by rw [Lib.decDigits, dif_pos h]
theorem dec_big {u : Nat} (h : ¬ u < 10) : Lib.decDigits u = Lib.decDigits (u / 10) ++ [UInt8.ofNat (48 + u % 10)] := by rw [Lib.decDigits, dif_neg h]
theorem dig_nat {d : Nat} (h : d < 10) : (UInt8.ofNat (48 + d)).toNat = 48 + d := by
  rw [UInt8.toNat_ofNat']; omega
theorem dec_dig : ∀ u : Nat, (Lib.decDigits u).all dig = true := by
  intro u
  induction u using Nat.strongRecOn with
  | _ u ih =>
    have one : ∀ d, d < 10 → dig (UInt8.ofNat (48 + d)) = true := by
      intro d hd
      unfold dig inZ
      rw [dig_nat hd]
      simp; omega
    by_cases c : u < 10
    · rw [dec_small c]; simp only [List.all_cons, List.all_nil, one u c, Bool.and_self]
    · rw [dec_big c, List.all_append, ih (u / 10) (by omega)]; simp only [List.all_cons, List.all_nil, one (u % 10) (by omega), Bool.and_self]
theorem dec_val : ∀ u : Nat, dvalF 0 (Lib.decDigits u) = u := by
  intro u
  induction u using Nat.strongRecOn with
  | _ u ih =>
    by_cases c : u < 10
    · rw [dec_small c]; simp only [dvalF, List.foldl_cons, List.foldl_nil, dig_nat c]; omega
    · have h := ih (u / 10) (by omega)
      unfold dvalF at h ⊢
      rw [dec_big c, List.foldl_append, h]
      simp only [List.foldl_cons, List.foldl_nil, dig_nat (show u % 10 < 10 by omega)]; omega
theorem dec_ne (u : Nat) : ∃ b r, Lib.decDigits u = b :: r := by
  by_cases c : u < 10
  · rw [dec_small c]; exact ⟨_, _, rfl⟩
  · rw [dec_big c]
    cases Lib.decDigits (u / 10) with
    | nil => exact ⟨_, _, rfl⟩
    | cons x l => exact ⟨_, _, rfl⟩
theorem strF1 {γ : Type} (z : Int) (k : ByteArray → Option γ) : strF [.int .u8 z] k = k ⟨#[UInt8.ofNat z.toNat]⟩ := id rfl

theorem wu8 {z : Int} (h : 0 ≤ z ∧ z < 256) : IntKind.u8.wrap z = z := by rw [IntKind.wrap_u8]; omega
theorem wu64 {z : Int} (h : 0 ≤ z ∧ z < 18446744073709551616) : IntKind.u64.wrap z = z := by rw [IntKind.wrap_u64]; omega
/-- The digits' loop. -/
theorem evDig (l1 : List D) (b2 : Bool) (z3 : Int) (r : Bool) : ∀ (u : Nat) (s6 : ByteArray), (u : Int) < 18446744073709551616 → (0 < u ∨ s6 = ByteArray.empty) → (bl s6).length + (Lib.decDigits u).length ≤ 1000 →
    Ev (fun n => L10_2 n l1 b2 z3 (tx (Lib.decDigits u ++ bl s6)) 0 false) r → Ev (fun n => L10_1 n l1 b2 z3 s6 (u : Int)) r := by
  intro u
  induction u using Nat.strongRecOn with
  | _ u ih =>
    intro s6 hu h0 hl hr
    have e1 : Int.tmod (u : Int) 10 = ((u % 10 : Nat) : Int) := by rw [Int.tmod_eq_emod_of_nonneg (by omega)]; omega
    have e2 : Int.tdiv (u : Int) 10 = ((u / 10 : Nat) : Int) := by rw [Int.tdiv_eq_ediv_of_nonneg (by omega)]; omega
    have w1 : IntKind.u64.wrap (48 + ((u % 10 : Nat) : Int)) = 48 + ((u % 10 : Nat) : Int) := wu64 (by omega)
    have w2 : IntKind.u8.wrap (48 + ((u % 10 : Nat) : Int)) = 48 + ((u % 10 : Nat) : Int) := wu8 (by omega)
    have w3 : IntKind.u64.wrap ((u / 10 : Nat) : Int) = ((u / 10 : Nat) : Int) := wu64 (by omega)
    have t1 : ((48 : Int) + ((u % 10 : Nat) : Int)).toNat = 48 + u % 10 := by omega
    have go : Ev (fun n => L10_2 n l1 b2 z3 s6 (u : Int) true) r := by
      have q : ∀ k : ByteArray → Option Bool, catF ⟨#[UInt8.ofNat (48 + u % 10)]⟩ s6 k = k (⟨#[UInt8.ofNat (48 + u % 10)]⟩ ++ s6) := fun k => catF_le (by
        have : (bl ⟨#[UInt8.ofNat (48 + u % 10)]⟩).length = 1 := rfl
        omega)
      have hb : bl (⟨#[UInt8.ofNat (48 + u % 10)]⟩ ++ s6) = UInt8.ofNat (48 + u % 10) :: bl s6 := by rw [bl_app]; rfl
      refine .succ ?_
      simp only [L10_2, if_true, needF, if_pos (show (10 : Int) ≠ 0 by decide), letF, e1, w1, w2, strF1, t1, q, e2, w3]
      by_cases c : u < 10
      · have hz : u / 10 = 0 := by omega
        rw [hz]
        refine .succ ?_
        have hne : ¬ (⟨#[UInt8.ofNat (48 + u % 10)]⟩ ++ s6 : ByteArray) = ByteArray.empty := by
          intro h
          have := congrArg bl h
          rw [hb] at this
          cases this
        simp only [L10_1, if_neg (show ¬ (0 : Int) < ((0 : Nat) : Int) by omega), if_neg hne]
        rw [dec_small c] at hr
        have e : tx ([UInt8.ofNat (48 + u)] ++ bl s6) = ⟨#[UInt8.ofNat (48 + u % 10)]⟩ ++ s6 := by
          apply bl_inj
          rw [bl_tx, hb, show u % 10 = u by omega]; rfl
        rw [e] at hr
        exact hr
      · refine ih (u / 10) (by omega) _ (by omega) (.inl (by omega)) ?_ ?_
        · have := congrArg List.length (dec_big c)
          rw [List.length_append, List.length_cons, List.length_nil] at this
          rw [hb, List.length_cons]; omega
        · rw [hb]
          rw [dec_big c, List.append_assoc] at hr
          exact hr
    refine .succ ?_
    by_cases c : (0 : Int) < (u : Int)
    · simp only [L10_1, if_pos c]; exact go
    · simp only [L10_1, if_neg c, if_pos (show s6 = ByteArray.empty by rcases h0 with h0 | h0; omega; exact h0)]; exact go

theorem dig_char {b : UInt8} (h : dig b = true) : blank b = false ∧ b ≠ 47 ∧ letter b = false := by
  unfold dig inZ at h
  simp only [Bool.and_eq_true, decide_eq_true_eq] at h
  refine ⟨?_, ?_, ?_⟩
  · cases hb : blank b with
    | false => rfl
    | true =>
      unfold blank at hb
      simp only [Bool.or_eq_true, beq_iff_eq] at hb
      rcases hb with ((rfl | rfl) | rfl) | rfl <;> exact absurd h (by decide)
  · rintro rfl; exact absurd h (by decide)
  · unfold letter inZ
    have h1 : ¬ (97 : Int) ≤ (b.toNat : Int) := by omega
    have h2 : ¬ (65 : Int) ≤ (b.toNat : Int) := by omega
    simp [h1, h2]
/-- The digits of a number, read by the lexer. -/
theorem lexR_dec (u : Nat) (hl : (Lib.decDigits u).length ≤ 3000) : lexR (Lib.decDigits u) = if u < 9223372036854775808 then ([⟨4, Lib.decDigits u, 0⟩], 0, 0) else ([], 0, 20) := by
  obtain ⟨b, r, e⟩ := dec_ne u
  have hd := dec_dig u
  have hv := dec_val u
  rw [e] at hd hv hl ⊢
  have hb : dig b = true := by rw [List.all_cons, Bool.and_eq_true] at hd; exact hd.1
  obtain ⟨c1, c2, c3⟩ := dig_char hb
  rw [List.length_cons] at hl
  have hone : oneL (b :: r) = if u < 9223372036854775808 then (4, b :: r) else (0, []) := by
    unfold oneL
    dsimp only
    rw [c3, hb, tw_all hd, if_neg Bool.false_ne_true, if_pos rfl]
    unfold numOK
    rw [hv]
    by_cases c : u < 9223372036854775808 <;> simp [c]
  by_cases c : u < 9223372036854775808
  · rw [if_pos c] at hone ⊢
    exact lexR_oneP [] (.inl rfl) (by omega) c1 c2 (by decide) hone
  · rw [if_neg c] at hone ⊢
    exact lexR_none [] (.inl rfl) (by omega) c1 c2 (by rw [hone])
theorem evHalf (l1 : List D) (b2 : Bool) {u : Nat} (hu : (u : Int) < 18446744073709551616) (hl : (Lib.decDigits u).length ≤ 1000) {r : Bool} (h : Ev (fun n => L10_3 n l1 b2 false) r) : Ev (fun n => F10 n l1 b2 (u : Int)) r := by
  have hM : 4000 < maxLen := by decide
  unfold F10
  refine Ev.bO1 ev28 ?_
  simp only [letB, Bool.not_true, Bool.false_eq_true, if_false]
  have he : bl ByteArray.empty = [] := rfl
  refine evDig l1 b2 (u : Int) r u ByteArray.empty hu (.inr rfl) (by rw [he, List.length_nil]; omega) ?_
  rw [he, List.append_nil]
  refine .succ ?_
  simp only [L10_2, Bool.false_eq_true, if_false]
  refine Ev.bO3 (ev27 (by rw [bl_len, bl_tx]; omega)) ?_
  rw [bl_tx, lexR_dec u (by omega)]
  by_cases c : u < 9223372036854775808
  · have g : ∀ k : D → Option Bool, getF [tokD ⟨4, Lib.decDigits u, 0⟩] (0 : Int) k = k (tokD ⟨4, Lib.decDigits u, 0⟩) := fun k => getF_nat (i := 0) rfl
    simp only [if_pos c, if_pos (show (u : Int) < 9223372036854775808 by omega), if_true, List.map_cons, List.map_nil, lenF, List.length_cons, List.length_nil, g, tokD, ds_t46, if_neg (show ¬ (9223372036854775808 : Int) ≤ (u : Int) by omega)]
    exact h
  · simp only [if_neg c, if_neg (show ¬ (u : Int) < 9223372036854775808 by omega), if_pos (show (9223372036854775808 : Int) ≤ (u : Int) by omega), if_true]
    exact h
end Go.Proofs.YtjmofeakajdbiaaDoor
end

/- Chapter 2, the plain law, part S: names; LexLetters' contract. No condition. -/
set_option linter.unusedVariables false
noncomputable section
namespace Go.Proofs.YtjmofeakajdbiaaDoor
open Go Go.AM

theorem words16 : (wordsL.all fun w => decide ((bl w).length ≤ 16)) = true := by kernel_rfl
theorem word_long {s : ByteArray} (h : 16 < (bl s).length) : word s = false := by
  refine word_no fun hm => ?_
  have := List.all_eq_true.1 words16 s hm
  simp at this
  omega
theorem alpha_part : (bl k_abcdefghijklmnopqrstuvwx).all pB = true := by kernel_rfl
theorem alpha_len : (bl k_abcdefghijklmnopqrstuvwx).length = 63 := rfl

theorem evName {l1 : List D} (hl : ListS tab 5 l1) (h30 : l1.length ≤ 30) (b27 : Bool) {c0 : UInt8} (hc : inZ (if b27 then 65 else 97) (if b27 then 90 else 122) (c0.toNat : Int) = true) :
    ∀ i, i ≤ l1.length → ∀ rest : List UInt8, rest.all pB = true → rest.length + 1 = i → Ev (fun n => L10_6 n l1 b27 (tx (c0 :: rest)) (i : Int)) true := by
  have hM : 4000 < maxLen := by decide
  have hlet : letter c0 = true := by unfold letter; cases b27 <;> simp_all
  have hpb : pB c0 = true := by unfold letter at hlet; unfold pB partZ; simp only [Bool.or_eq_true] at hlet ⊢; rcases hlet with h | h <;> simp [h]
  have hbl : blank c0 = false ∧ c0 ≠ 47 := by
    unfold letter inZ at hlet
    simp only [Bool.or_eq_true, decide_eq_true_eq] at hlet
    refine ⟨?_, ?_⟩
    · cases hb : blank c0 with
      | false => rfl
      | true =>
        unfold blank at hb
        simp only [Bool.or_eq_true, beq_iff_eq] at hb
        rcases hb with ((rfl | rfl) | rfl) | rfl <;> exact absurd hlet (by decide)
    · rintro rfl; exact absurd hlet (by decide)
  refine down l1.length (fun rest hr hn => ?_) (fun i hi ih rest hr hn => ?_)
  · refine .succ ?_
    simp only [L10_6, lenF, Int.lt_irrefl, if_false]
    have hk : bl k___18 = [32] := rfl
    have hb : bl (k___18 ++ tx (c0 :: rest)) = [32] ++ c0 :: rest := by rw [bl_app, hk, bl_tx]
    have q : ∀ k : ByteArray → Option Bool, catF k___18 (tx (c0 :: rest)) k = k (k___18 ++ tx (c0 :: rest)) := fun k => catF_le (by rw [hk, bl_tx]; simp only [List.length_cons, List.length_nil]; omega)
    refine .succ ?_
    simp only [L10_7, Bool.false_eq_true, if_false, q]
    refine Ev.bO3 (ev27 (by rw [bl_len, hb]; simp only [List.length_append, List.length_cons, List.length_nil]; omega)) ?_
    rw [hb]
    simp only [szF_eq, bl_tx, List.length_cons]
    have hall : (c0 :: rest).all pB = true := by rw [List.all_cons, hpb, hr]; rfl
    have hone : oneL (c0 :: rest) = (kindW (c0 :: rest), c0 :: rest) := by
      unfold oneL
      dsimp only
      rw [if_pos hlet, tw_all hall]
    have hnm : ∀ lo hi, nm lo hi (tx (c0 :: rest)) = (decide ((c0 :: rest).length ≤ 16) && inZ lo hi (c0.toNat : Int) && (c0 :: rest).all pB && !word (tx (c0 :: rest))) := by
      intro lo hi
      unfold nm
      rw [bl_tx]
    by_cases c : 16 < rest.length + 1
    · have hw : word (tx (c0 :: rest)) = false := word_long (by rw [bl_tx]; exact c)
      have hk0 : kindW (c0 :: rest) = 0 := by
        unfold kindW
        rw [hw, hnm, hnm]
        rw [decide_eq_false (show ¬ (c0 :: rest).length ≤ 16 by rw [List.length_cons]; omega)]
        rfl
      rw [lexR_none [32] (.inr rfl) (by omega) hbl.1 hbl.2 (by rw [hone]; exact hk0)]
      simp only [if_pos (show (16 : Int) < ((rest.length + 1 : Nat) : Int) by omega), List.map_nil]
      refine .succ ?_
      simp only [L10_8, if_true]
      exact .ret
    · have hk3 : kindW (c0 :: rest) ≠ 0 ∧ (word (tx (c0 :: rest)) = false → (kindW (c0 :: rest) = 3 ↔ b27 = true)) := by
        have hle : (c0 :: rest).length ≤ 16 := by rw [List.length_cons]; omega
        unfold kindW
        rw [hnm, hnm, hall, decide_eq_true hle]
        cases hw : word (tx (c0 :: rest)) with
        | true => exact ⟨by simp, fun h => by cases h⟩
        | false =>
          cases b27 with
          | false =>
            have h1 : inZ 97 122 (c0.toNat : Int) = true := hc
            rw [h1]; exact ⟨by simp, fun _ => by simp⟩
          | true =>
            have h1 : inZ 65 90 (c0.toNat : Int) = true := hc
            have h2 : inZ 97 122 (c0.toNat : Int) = false := by
              unfold inZ at h1 ⊢
              simp only [decide_eq_true_eq] at h1
              simp; omega
            rw [h1, h2]; exact ⟨by simp, fun _ => by simp⟩
      rw [lexR_oneP [32] (.inr rfl) (by omega) hbl.1 hbl.2 hk3.1 hone]
      simp only [if_neg (show ¬ (16 : Int) < ((rest.length + 1 : Nat) : Int) by omega), List.map_cons, List.map_nil]
      have g : ∀ k : D → Option Bool, getF [tokD ⟨kindW (c0 :: rest), c0 :: rest, [(32 : UInt8)].length⟩] (0 : Int) k = k (tokD ⟨kindW (c0 :: rest), c0 :: rest, [(32 : UInt8)].length⟩) := fun k => getF_nat (i := 0) rfl
      refine .succ ?_
      simp only [L10_8, Bool.false_eq_true, if_false, if_true, lenF, List.length_cons, List.length_nil]
      simp only [List.length_cons, List.length_nil, tokD] at g
      simp only [if_pos (show ((0 + 1 : Nat) : Int) = 1 from rfl), tokD]
      simp only [g, ds_t46, if_true]
      refine Ev.bO1 (ev11 _) ?_
      cases hw : word (tx (c0 :: rest)) with
      | true => simp only [if_true]; exact .ret
      | false =>
        simp only [Bool.false_eq_true, if_false]
        have h3 := hk3.2 hw
        by_cases k3 : kindW (c0 :: rest) = 3
        · have : b27 = true := h3.1 k3
          simp only [if_pos k3, this, letB]; exact .ret
        · have : b27 = false := by
            cases hb : b27
            · rfl
            · exact absurd (h3.2 hb) k3
          simp only [if_neg k3, this, letB]; exact .ret
  · obtain ⟨x, hx, _, hr5⟩ := hl.get hi
    obtain ⟨z, rfl, hz⟩ := rs5 hr5
    have hz := u8_range hz
    have hw := wrap_succ hi hl.1
    obtain ⟨j, hj⟩ : ∃ j : Nat, Int.tmod z 63 = (j : Int) := ⟨(Int.tmod z 63).toNat, by have := Int.tmod_nonneg 63 hz.1; omega⟩
    have hj2 : j < 63 := by have := Int.tmod_lt_of_pos z (show (0 : Int) < 63 by omega); omega
    have w1 : IntKind.u8.wrap ((j : Int) + 1) = ((j + 1 : Nat) : Int) := by rw [wu8 (by omega)]; omega
    have hsub : ∀ k : ByteArray → Option Bool, subF k_abcdefghijklmnopqrstuvwx (j : Int) ((j + 1 : Nat) : Int) k = k (tx (((bl k_abcdefghijklmnopqrstuvwx).take (j + 1)).drop j)) := fun k => subF_eq (by omega) (by rw [alpha_len]; omega)
    have hlen1 : (((bl k_abcdefghijklmnopqrstuvwx).take (j + 1)).drop j).length = 1 := by rw [List.length_drop, List.length_take, alpha_len]; omega
    have hall1 : (((bl k_abcdefghijklmnopqrstuvwx).take (j + 1)).drop j).all pB = true := by
      rw [List.all_eq_true]
      intro y hy
      exact List.all_eq_true.1 alpha_part y (List.mem_of_mem_take (List.mem_of_mem_drop hy))
    generalize ((bl k_abcdefghijklmnopqrstuvwx).take (j + 1)).drop j = y at *
    have q : ∀ k : ByteArray → Option Bool, catF (tx (c0 :: rest)) (tx y) k = k (tx (c0 :: (rest ++ y))) := fun k => by
      rw [catF_le (by rw [bl_tx, bl_tx, List.length_cons]; omega)]
      have e : tx (c0 :: rest) ++ tx y = tx (c0 :: (rest ++ y)) := bl_inj (by rw [bl_app, bl_tx, bl_tx, bl_tx, List.cons_append])
      rw [e]
    refine .succ ?_
    simp only [L10_6, lenF, if_pos (ilt hi)]
    refine .succ ?_
    simp only [L10_7, if_true, getF_nat hx, ds_u8, needF, if_pos (show (63 : Int) ≠ 0 by decide), letF, hj, w1, hsub, q, hw]
    exact ih (rest ++ y) (by rw [List.all_append, hr, hall1]; rfl) (by rw [List.length_append, hlen1]; omega)

theorem lex_letters_law {l1 : List D} (hl : ListS tab 5 l1) (b2 : Bool) {u : Nat} (hu : (u : Int) < 18446744073709551616) : Ev (fun n => F10 n l1 b2 (u : Int)) true := by
  have hd : (Lib.decDigits u).length ≤ 1000 := by
    rw [Lib.decDigits_length]
    have := Lib.nDigits_le20 u (by omega)
    omega
  refine evHalf l1 b2 hu hd ?_
  have stop : Ev (fun n => L10_4 n l1 b2 true) true := .succ (by simp only [L10_4, if_true]; exact .ret)
  refine .succ ?_
  simp only [L10_3, Bool.false_eq_true, if_false, lenF]
  by_cases c1 : (l1.length : Int) < 1
  · simp only [if_pos c1]; exact stop
  by_cases c2 : (30 : Int) < (l1.length : Int)
  · simp only [if_neg c1, if_pos c2]; exact stop
  simp only [if_neg c1, if_neg c2]
  refine .succ ?_
  simp only [L10_4, Bool.false_eq_true, if_false]
  obtain ⟨x, hx, _, hr5⟩ := hl.get (show 0 < l1.length by omega)
  obtain ⟨z, rfl, hz⟩ := rs5 hr5
  have hz := u8_range hz
  have g : ∀ k : D → Option Bool, getF l1 (0 : Int) k = k (.int .u8 z) := fun k => getF_nat (i := 0) hx
  have g1 := Int.tmod_nonneg 26 hz.1
  have g2 := Int.tmod_lt_of_pos z (show (0 : Int) < 26 by omega)
  obtain ⟨j, hj⟩ : ∃ j : Nat, Int.tmod z 26 = (j : Int) := ⟨(Int.tmod z 26).toNat, by omega⟩
  have fin : ∀ (b : Bool) (a : Nat), a = (if b then 65 else 97) → Ev (fun n => L10_5 n l1 b (a : Int)) true := by
    intro b a ha
    have haj : a ≤ 97 := by cases b <;> simp at ha <;> omega
    have w : IntKind.u8.wrap ((a : Int) + (j : Int)) = ((a + j : Nat) : Int) := by rw [wu8 (by omega)]; omega
    refine .succ ?_
    simp only [L10_5, g, ds_u8, needF, if_pos (show (26 : Int) ≠ 0 by decide), letF, hj, w, strF1, Int.toNat_natCast]
    refine evName hl (by omega) b (c0 := UInt8.ofNat (a + j)) ?_ 1 (by omega) [] rfl rfl
    have : (UInt8.ofNat (a + j)).toNat = a + j := by rw [UInt8.toNat_ofNat']; omega
    rw [this]
    unfold inZ
    cases b <;> simp at ha ⊢ <;> omega
  cases b2
  · exact fin false 97 rfl
  · exact fin true 65 rfl
theorem lex_letters_trip : ∀ xs : List D, Shapes tab [49, 4, 51] xs → Trip Tryd.prog inv 10 (xs.map V1.d) [] (.v (.d (.bool true))) [] [] := by
  intro xs h
  match xs, h with
  | [u, v, w], ⟨u1, u2, v1, v2, w1, w2, _⟩ =>
    have hu : RowS tab 49 u := ⟨u1, u2⟩
    obtain ⟨l, e0, hl⟩ := (hu.flat1 (y := tyD tab 49) (by kernel_rfl) rfl).listS (x := tyD tab 49) (y := tyD tab 5) (by kernel_rfl) rfl (by kernel_rfl)
    obtain rfl : u = .list false 1 l := e0
    have hv : RowS tab 4 v := ⟨v1, v2⟩
    obtain ⟨b, rfl⟩ := (hv.flat1 (y := tyD tab 4) (by kernel_rfl) rfl).boolS (x := tyD tab 4) (by kernel_rfl) rfl
    have hw : RowS tab 51 w := ⟨w1, w2⟩
    obtain ⟨z, rfl, hz⟩ := (hw.flat1 (y := tyD tab 51) (by kernel_rfl) rfl).intS (x := tyD tab 51) (by kernel_rfl) rfl
    have hz2 : 0 ≤ z ∧ z < 18446744073709551616 := by
      simp [Lit.wf, IntKind.min, IntKind.max, IntKind.signed, IntKind.bits] at hz
      omega
    obtain ⟨u, rfl⟩ : ∃ u : Nat, z = u := ⟨z.toNat, by omega⟩
    obtain ⟨n, hn⟩ := (lex_letters_law hl b hz2.2).run
    exact T10 n hn
end Go.Proofs.YtjmofeakajdbiaaDoor
end

/- LexLetters holds: the numbers and the names that are made of any letters are read as the document says. No condition. -/
namespace Go.Proofs.YtjmofeakajdbiaaDoor
open Go Go.ChangeShapes Go.WideShapes Go.ChangeAt Go.RowKit Go.AM

theorem lex_letters_reads : ∀ t ∈ [49, 4, 51], Tryd.prog.readableRec t = true ∧ t < Tryd.prog.types.size := by
  have h : ([49, 4, 51].all fun t => Tryd.prog.readableRec t && decide (t < Tryd.prog.types.size)) = true := by kernel_rfl
  intro t ht
  have := List.all_eq_true.1 h t ht
  simpa using this

/-- What the row knows of the library's table. -/
theorem lex_letters_inv {W : World} (h : laidMet Tryd.prog Rows.lexLettersRow.laid W) : inv.at W fun _ _ => False := by
  have e : (Rows.lexLettersRow.laid.filter fun x => x.1 == "strings.asciiSpace") = [("strings.asciiSpace", Lib.tabData .u8 Lib.asciiSpaceTab)] := by kernel_rfl
  have h2 := laidMet.filter (fun x => x.1 == "strings.asciiSpace") h
  rw [e] at h2
  have ht : Lib.TabIs Tryd.prog W "strings.asciiSpace" .u8 Lib.asciiSpaceTab := by
    exact Lib.tabIs_of_head (g := 0) (t := 87) (e := 5) (n := 256) (by kernel_rfl) (by kernel_rfl) (by kernel_rfl) (by kernel_rfl) (by kernel_rfl) (by kernel_rfl) h2
  refine ⟨ht, fun b hb => ⟨?_, fun _ h => h⟩⟩
  have hb : Tryd.prog.globalNamed "strings.asciiSpace" = some b := hb
  unfold Lib.TabIs World.var? at ht
  rw [hb] at ht
  simp only [Option.bind_some] at ht
  cases hx : W.heap[b]? with
  | none => rw [hx] at ht; simp at ht
  | some o => exact (Array.getElem?_eq_some_iff.1 hx).1

set_option maxRecDepth 100000 in
theorem lex_letters_lifted (os : Os) (started : os.Started) (H : Type) (enc : TypeId × Value → H) :
    ReturnsInHanded {} Tryd.checked os 10 .any (fun w args => (Rows.lexLettersSpec.pre enc Tryd.prog Tryd.f10 Rows.lexLettersRow.domain false w args ∧ laidMetH Tryd.prog Rows.lexLettersRow.laid w) ∧ sizedMet enc Tryd.prog Tryd.f10 (OpenSpec.ofChange Rows.lexLettersSpec) false w args)
      (Rows.lexLettersSpec.post enc Tryd.prog Tryd.f10 false true false false) := by
  refine returnsInHanded_of_change_and (C := Tryd.checked) (X := fun w _ => laidMetH Tryd.prog Rows.lexLettersRow.laid w) (fun _ _ _ hh h => h.of_heap hh) (by kernel_rfl) started (by kernel_rfl) Tryd.func10
    (ChangeSpec.witness_shaped (enc := enc) (C := Tryd.checked) (os := os) (X := fun w _ => laidMetH Tryd.prog Rows.lexLettersRow.laid w) false (World.laidAll Tryd.prog os Rows.lexLettersRow.laid) #[.slice none 0 0, .bool false, .int .u64 0] 8 (World.laidAll_os _ _ _)
      (World.shaped_of_ZipB (by kernel_rfl) (by kernel_rfl)) (by kernel_rfl) (by kernel_rfl) (by kernel_rfl)
      (by rw [MakeChecks.laidMetH_plain _ _ _ (by kernel_rfl)]; exact laidMet_laidAll _ (by kernel_rfl) (by kernel_rfl))) ?_
  intro W base args ds gs before hval0 hW _ _ hL _
  rw [MakeChecks.laidMetH_plain _ _ _ (by kernel_rfl)] at hL
  refine law_calls (ti := tab) (T := [4, 5, 49, 51]) tab_ok (by kernel_rfl) (ts := [49, 4, 51]) (bt := 4) rfl rfl rfl (by kernel_rfl) (by decide) ?_ (by kernel_rfl) lex_letters_reads lex_letters_trip (lex_letters_inv hL) hval0 hW
  intro ds h
  match ds, h with
  | [_, _, _], _ => exact ⟨rfl, rfl, rfl⟩
theorem lex_letters_row : Rows.LexLettersSaid :=
  OpenClaim.holds_of_wide 10 Tryd.f10 rfl rfl rfl rfl rfl rfl rfl ⟨rfl, rfl, rfl, rfl, rfl⟩ rfl rfl rfl rfl rfl (by kernel_rfl) Tryd.func10 (by kernel_rfl)
    (of_decide_eq_true (by kernel_rfl)) (by unfold Func.isWrapper; first | (rw [if_pos (by decide +kernel)]; kernel_rfl) | (rw [if_neg (by decide +kernel)]; exact ⟨rfl, rfl⟩))
    (fun os started H enc _ => lex_letters_lifted os started H enc)
theorem lex_letters : Rows.LexLettersCardSaid :=
  Claim7.holds_tied_plain_at .later [] [.listed, .data] true Rows.lexLettersCard.stood.harness false lex_letters_row (fun _ h => by cases h) (by kernel_rfl) (fun _ h => by cases h) lexLetters_row_tie rfl ⟨rfl, rfl⟩ (by kernel_rfl) rfl
    (fun f fn hf hfn => by
      obtain rfl : f = 10 := Option.some.inj ((show Tryd.prog.funcNamed "weftway/weftwaylaw02.LexLetters" = some 10 by kernel_rfl).symm.trans hf) |>.symm
      obtain rfl : fn = Tryd.f10 := (Option.some.inj (Tryd.func10.symm.trans hfn)).symm
      exact ⟨by kernel_rfl, fun j t ht => by
        have hm : t ∈ [49, 4, 51] := by
          have hp : Tryd.f10.params.toList = [49, 4, 51] := rfl
          rw [← hp]; simpa using Array.mem_of_getElem? ht
        have hall : ([49, 4, 51].all fun u => !Tryd.prog.wantsStandIn u) = true := by kernel_rfl
        exact (show Tryd.prog.wantsStandIn t = false by simpa using List.all_eq_true.1 hall t hm)⟩)
    (by kernel_rfl)
end Go.Proofs.YtjmofeakajdbiaaDoor
