/- Part of a proof. No condition. (Part 4: YtjmofeakajdbiaaDoorXDs, YtjmofeakajdbiaaDoorX30, YtjmofeakajdbiaaDoorX11, YtjmofeakajdbiaaDoorX12, LxA, YtjmofeakajdbiaaDoorX32, YtjmofeakajdbiaaDoorX34, YtjmofeakajdbiaaDoorX67, YtjmofeakajdbiaaDoorX52, YtjmofeakajdbiaaDoorX51, YtjmofeakajdbiaaDoorX31, YtjmofeakajdbiaaDoorX13, YtjmofeakajdbiaaDoor.) -/
import Derived.Test.YtjmofeakajdbiaaDoorLpaC
set_option linter.unusedVariables false
set_option linter.unusedSimpArgs false
set_option linter.unusedVariables false
noncomputable section
namespace Go.Proofs.YtjmofeakajdbiaaDoor
open Go Go.AM
def k_let_if_else_while_match_ : ByteArray := ⟨#[108, 101, 116, 32, 105, 102, 32, 101, 108, 115, 101, 32, 119, 104, 105, 108, 101, 32, 109, 97, 116, 99, 104, 32, 115, 99, 111, 112, 101, 32, 115, 112, 97, 119, 110, 32, 108, 111, 99, 107, 32, 97, 115, 32, 99, 104, 97, 110, 32, 100, 114, 111, 112, 32, 102, 110, 32, 115, 116, 114, 117, 99, 116, 32, 101, 110, 117, 109, 32, 116, 114, 117, 101, 32, 102, 97, 108, 115, 101, 32, 97, 110, 100, 32, 111, 114, 32, 110, 111, 116, 32, 105, 110, 116, 32, 98, 111, 111, 108, 32, 117, 110, 105, 116, 32, 109, 117, 116, 32, 98, 111, 120, 32, 117, 110, 98, 111, 120, 32, 99, 101, 108, 108, 32, 103, 101, 116, 32, 115, 101, 116, 32, 114, 99, 32, 97, 114, 99, 32, 99, 108, 111, 110, 101, 32, 109, 117, 116, 101, 120, 32, 111, 112, 101, 110, 32, 97, 116, 111, 109, 105, 99, 32, 108, 111, 97, 100, 32, 115, 116, 111, 114, 101, 32, 102, 101, 116, 99, 104, 32, 115, 101, 110, 100, 32, 114, 101, 99, 118, 32, 66, 111, 120, 32, 67, 101, 108, 108, 32, 82, 99, 32, 65, 114, 99, 32, 77, 117, 116, 101, 120, 32, 65, 116, 111, 109, 105, 99, 32, 83, 101, 110, 100, 101, 114, 32, 82, 101, 99, 101, 105, 118, 101, 114]⟩
def ds_str {γ : Type} (x : D) (k : ByteArray → Option γ) : Option γ := match x with | .str a0 => k a0 | _ => none
theorem ds_str_inv {γ : Type} {x : D} {k : ByteArray → Option γ} {r : γ} (h : ds_str x k = some r) : ∃ a0, x = .str a0 ∧ k a0 = some r := by
  unfold ds_str at h
  split at h
  · exact ⟨_, rfl, h⟩
  · cases h
def ds_i64 {γ : Type} (x : D) (k : Int → Option γ) : Option γ := match x with | .int .i64 a0 => k a0 | _ => none
theorem ds_i64_inv {γ : Type} {x : D} {k : Int → Option γ} {r : γ} (h : ds_i64 x k = some r) : ∃ a0, x = .int .i64 a0 ∧ k a0 = some r := by
  unfold ds_i64 at h
  split at h
  · exact ⟨_, rfl, h⟩
  · cases h
def k_let : ByteArray := ⟨#[108, 101, 116]⟩
def k_if : ByteArray := ⟨#[105, 102]⟩
def k_else : ByteArray := ⟨#[101, 108, 115, 101]⟩
def k_while : ByteArray := ⟨#[119, 104, 105, 108, 101]⟩
def k_match : ByteArray := ⟨#[109, 97, 116, 99, 104]⟩
def k_scope : ByteArray := ⟨#[115, 99, 111, 112, 101]⟩
def k_spawn : ByteArray := ⟨#[115, 112, 97, 119, 110]⟩
def k_lock : ByteArray := ⟨#[108, 111, 99, 107]⟩
def k_as : ByteArray := ⟨#[97, 115]⟩
def k_chan : ByteArray := ⟨#[99, 104, 97, 110]⟩
def k_drop : ByteArray := ⟨#[100, 114, 111, 112]⟩
def k_fn : ByteArray := ⟨#[102, 110]⟩
def k_struct : ByteArray := ⟨#[115, 116, 114, 117, 99, 116]⟩
def k_enum : ByteArray := ⟨#[101, 110, 117, 109]⟩
def k_true : ByteArray := ⟨#[116, 114, 117, 101]⟩
def k_false : ByteArray := ⟨#[102, 97, 108, 115, 101]⟩
def k_and : ByteArray := ⟨#[97, 110, 100]⟩
def k_or : ByteArray := ⟨#[111, 114]⟩
def k_not : ByteArray := ⟨#[110, 111, 116]⟩
def k_int : ByteArray := ⟨#[105, 110, 116]⟩
def k_bool : ByteArray := ⟨#[98, 111, 111, 108]⟩
def k_unit : ByteArray := ⟨#[117, 110, 105, 116]⟩
def k_mut : ByteArray := ⟨#[109, 117, 116]⟩
def k_box : ByteArray := ⟨#[98, 111, 120]⟩
def k_unbox : ByteArray := ⟨#[117, 110, 98, 111, 120]⟩
def k_cell : ByteArray := ⟨#[99, 101, 108, 108]⟩
def k_get : ByteArray := ⟨#[103, 101, 116]⟩
def k_set : ByteArray := ⟨#[115, 101, 116]⟩
def k_rc : ByteArray := ⟨#[114, 99]⟩
def k_arc : ByteArray := ⟨#[97, 114, 99]⟩
def k_clone : ByteArray := ⟨#[99, 108, 111, 110, 101]⟩
def k_mutex : ByteArray := ⟨#[109, 117, 116, 101, 120]⟩
def k_open : ByteArray := ⟨#[111, 112, 101, 110]⟩
def k_atomic : ByteArray := ⟨#[97, 116, 111, 109, 105, 99]⟩
def k_load : ByteArray := ⟨#[108, 111, 97, 100]⟩
def k_store : ByteArray := ⟨#[115, 116, 111, 114, 101]⟩
def k_fetch : ByteArray := ⟨#[102, 101, 116, 99, 104]⟩
def k_send : ByteArray := ⟨#[115, 101, 110, 100]⟩
def k_recv : ByteArray := ⟨#[114, 101, 99, 118]⟩
def k_Box : ByteArray := ⟨#[66, 111, 120]⟩
def k_Cell : ByteArray := ⟨#[67, 101, 108, 108]⟩
def k_Rc : ByteArray := ⟨#[82, 99]⟩
def k_Arc : ByteArray := ⟨#[65, 114, 99]⟩
def k_Mutex : ByteArray := ⟨#[77, 117, 116, 101, 120]⟩
def k_Atomic : ByteArray := ⟨#[65, 116, 111, 109, 105, 99]⟩
def k_Sender : ByteArray := ⟨#[83, 101, 110, 100, 101, 114]⟩
def k_Receiver : ByteArray := ⟨#[82, 101, 99, 101, 105, 118, 101, 114]⟩
def ds_t25 {γ : Type} (x : D) (k : Int → ByteArray → List D → Option γ) : Option γ := match x with | .agg [.int .u8 a0, .str a1, .list true 3 a2] => k a0 a1 a2 | _ => none
theorem ds_t25_inv {γ : Type} {x : D} {k : Int → ByteArray → List D → Option γ} {r : γ} (h : ds_t25 x k = some r) : ∃ a0 a1 a2, x = .agg [.int .u8 a0, .str a1, .list true 3 a2] ∧ k a0 a1 a2 = some r := by
  unfold ds_t25 at h
  split at h
  · exact ⟨_, _, _, rfl, h⟩
  · cases h
def ds_t31 {γ : Type} (x : D) (k : Int → Int → ByteArray → ByteArray → ByteArray → List D → List D → Int → Option γ) : Option γ := match x with | .agg [.int .u8 a0, .int .i64 a1, .str a2, .str a3, .str a4, .list false 1 a5, .list true 8 a6, .int .i64 a7] => k a0 a1 a2 a3 a4 a5 a6 a7 | _ => none
theorem ds_t31_inv {γ : Type} {x : D} {k : Int → Int → ByteArray → ByteArray → ByteArray → List D → List D → Int → Option γ} {r : γ} (h : ds_t31 x k = some r) : ∃ a0 a1 a2 a3 a4 a5 a6 a7, x = .agg [.int .u8 a0, .int .i64 a1, .str a2, .str a3, .str a4, .list false 1 a5, .list true 8 a6, .int .i64 a7] ∧ k a0 a1 a2 a3 a4 a5 a6 a7 = some r := by
  unfold ds_t31 at h
  split at h
  · exact ⟨_, _, _, _, _, _, _, _, rfl, h⟩
  · cases h
def k__ : ByteArray := ⟨#[42]⟩
def k_i0 : ByteArray := ⟨#[105, 48]⟩
def k_b0 : ByteArray := ⟨#[98, 48]⟩
def k_0 : ByteArray := ⟨#[48]⟩
def k_p0 : ByteArray := ⟨#[112, 48]⟩
def k_1 : ByteArray := ⟨#[49]⟩
def k_2 : ByteArray := ⟨#[50]⟩
def k_n6 : ByteArray := ⟨#[110, 54]⟩
def k_tf6 : ByteArray := ⟨#[116, 102, 54]⟩
def k_tv9 : ByteArray := ⟨#[116, 118, 57]⟩
def k_p1 : ByteArray := ⟨#[112, 49]⟩
end Go.Proofs.YtjmofeakajdbiaaDoor
end

set_option linter.unusedVariables false
noncomputable section
namespace Go.Proofs.YtjmofeakajdbiaaDoor
open Go Go.AM
mutual
def L30_1 : Nat → (List D) → Int → Int → (List D) → Option (List D)
  | 0, _, _, _, _ => none
  | n + 1, l1, z2, z3, l4 =>
    (if z3 < z2 then L30_2 n l1 z2 z3 l4 true else L30_2 n l1 z2 z3 l4 false)
def L30_2 : Nat → (List D) → Int → Int → (List D) → Bool → Option (List D)
  | 0, _, _, _, _, _ => none
  | n + 1, l1, z2, z3, l4, b5 =>
    (if b5 = true then getF l1 z3 fun x6 => ds_str x6 fun s7 => letF (IntKind.wrap .i64 (z3 + 1)) fun z8 => putF (.str s7) [.int .i64 z8] l4 fun l9 => letF (IntKind.wrap .i64 (z3 + 1)) fun z10 => L30_1 n l1 z2 z10 l9 else some l4)
end
def F30 (n : Nat) : Option (List D) :=
  bO1 (F50 n k_let_if_else_while_match_) fun l1 => lenF l1 fun z2 => L30_1 n l1 z2 (0 : Int) ([] : List D)
set_option maxRecDepth 100000 in
set_option maxHeartbeats 40000000 in
theorem T30 (n : Nat) : ∀ ⦃r1 : List D⦄, F30 n = some r1 →
    Trip Tryd.prog inv 30 [] [] (.v (.c (.ow (.loc 0)))) [] [.tree (.fmap false) true 2 r1 none] := by
  intro r1 h
  unfold F30 at h
  refine Trip.of tab_ok tab_one fol Tryd.func30 rfl (by kernel_rfl) rfl rfl rfl (fun M hM hI => ?_)
  try cbv
  refine seq_go ?_
  try cbv
  refine seq_go ?_
  try cbv
  refine seq_go ?_
  try cbv
  refine seq_go ?_
  try cbv
  replace h := bO1_inv h
  obtain ⟨l1, hr, h⟩ := h
  refine call_go rfl rfl ?_
  try cbv
  refine call_pure hM hI (T50 _ hr) rfl ?_
  clear hr
  try cbv
  replace h := lenF_inv M h
  obtain ⟨z2, hz, h⟩ := h
  refine ⟨z2, hz, ?_⟩
  clear hz
  try cbv
  refine loop_invG (T := Nat × Int × List D) [] [] [0, 1, 5, 6, 7] [.loc 32] 192 (fun t => ⟨[(0, .v (.c (.nilm))), (1, .v (.c (.ow (.loc 32)))), (5, .v (.d (.list false 1 l1))), (6, .v (.d (.int .i64 z2))), (7, .v (.d (.int .i64 t.2.1)))], [(.loc 32, .tree (.fmap false) true 2 t.2.2 none)], 192⟩)
    (fun t => t.1 ≤ n ∧ L30_1 t.1 l1 z2 t.2.1 t.2.2 = some r1) (fun t => t.1) (n, ((0 : Int), ([] : List D))) ⟨Nat.le_refl _, h⟩ (by cbv) ?_
  clear h
  rintro ⟨m1, z3, l4⟩ ⟨hm1, h⟩
  replace hm1 : m1 ≤ n := hm1
  cases m1 with
  | zero =>
    replace h : L30_1 0 l1 z2 z3 l4 = some r1 := h
    rw [L30_1] at h
    cases h
  | succ m1 =>
    replace h : L30_1 (m1 + 1) l1 z2 z3 l4 = some r1 := h
    rw [L30_1] at h
    try cbv
    refine seq_join (T := Nat × Bool) (fun t => ⟨[(0, .v (.c (.nilm))), (1, .v (.c (.ow (.loc 32)))), (5, .v (.d (.list false 1 l1))), (6, .v (.d (.int .i64 z2))), (7, .v (.d (.int .i64 z3))), (8, .v (.d (.bool t.2)))], [(.loc 32, .tree (.fmap false) true 2 l4 none)], 224⟩) (fun t => t.1 ≤ m1 ∧ L30_2 t.1 l1 z2 z3 l4 t.2 = some r1) ?_ ?_
    · try cbv
      refine splitL (fun e => ?_) (fun e => ?_)
      · replace h := ite_t e h
        clear e
        try cbv
        exact join_next (m1, true) [0, 1, 5, 6, 7, 8] [.loc 32] 224 ⟨by omega, h⟩ (by cbv)
      · replace h := ite_f (Int.not_lt.2 e) h
        clear e
        try cbv
        exact join_next (m1, false) [0, 1, 5, 6, 7, 8] [.loc 32] 224 ⟨by omega, h⟩ (by cbv)
    · clear h
      rintro ⟨m2, b5⟩ ⟨hm2, h⟩
      replace hm2 : m2 ≤ m1 := hm2
      cases m2 with
      | zero =>
        replace h : L30_2 0 l1 z2 z3 l4 b5 = some r1 := h
        rw [L30_2] at h
        cases h
      | succ m2 =>
        replace h : L30_2 (m2 + 1) l1 z2 z3 l4 b5 = some r1 := h
        rw [L30_2] at h
        try cbv
        refine seq_go ?_
        try cbv
        cases b5
        · replace h := ite_f Bool.false_ne_true h
          try cbv
          refine seq_go ?_
          try cbv
          obtain rfl := Option.some.inj h
          refine fin_go ?_
          try cbv
          exact ⟨[.loc 32], rfl, rfl, trivial, ⟨rfl, trivial⟩, trivial⟩
        · replace h := ite_t rfl h
          try cbv
          refine seq_go ?_
          try cbv
          refine seq_go ?_
          try cbv
          replace h := getF_inv h
          obtain ⟨x6, ⟨hx0, hx⟩, h⟩ := h
          refine ⟨x6, hx0, hx, ?_⟩
          clear hx0 hx
          replace h := ds_str_inv h
          obtain ⟨s7, rfl, h⟩ := h
          try cbv
          replace h := letF_inv h
          obtain ⟨z8, hz, h⟩ := h
          refine ⟨z8, hz, ?_⟩
          clear hz
          try cbv
          replace h := putF_inv h
          obtain ⟨l9, hz, h⟩ := h
          refine ⟨l9, (M.lock_iff _).2 hz, ?_⟩
          clear hz
          try cbv
          replace h := letF_inv h
          obtain ⟨z10, hz, h⟩ := h
          refine ⟨z10, hz, ?_⟩
          clear hz
          try cbv
          refine loop_nextG (m2, (z10, l9)) [] [] [0, 1, 5, 6, 7] [.loc 32] 192 ⟨by omega, h⟩ (Nat.lt_succ_of_le (by omega)) ?_
          try cbv
end Go.Proofs.YtjmofeakajdbiaaDoor
end

set_option linter.unusedVariables false
noncomputable section
namespace Go.Proofs.YtjmofeakajdbiaaDoor
open Go Go.AM
def F11 (n : Nat) (s1 : ByteArray) : Option (Bool) :=
  bO1 (F30 n) fun l2 => (findF false (.str s1) l2 (fun x3 => ds_i64 x3 fun z4 => (if (0 : Int) < z4 then some true else some false)) (some false))
set_option maxRecDepth 100000 in
set_option maxHeartbeats 40000000 in
theorem T11 (n : Nat) : ∀ ⦃s1 : ByteArray⦄ ⦃r1 : Bool⦄, F11 n s1 = some r1 →
    Trip Tryd.prog inv 11 [.d (.str s1)] [] (.v (.d (.bool r1))) [] [] := by
  intro s1 r1 h
  unfold F11 at h
  refine Trip.of tab_ok tab_one fol Tryd.func11 rfl (by kernel_rfl) rfl rfl rfl (fun M hM hI => ?_)
  try cbv
  refine seq_go ?_
  try cbv
  refine seq_go ?_
  try cbv
  replace h := bO1_inv h
  obtain ⟨l2, hr, h⟩ := h
  refine call_go rfl rfl ?_
  try cbv
  refine call_with hM hI [] (T30 _ hr) rfl (by simp) trivial trivial (by simp) ?_
  clear hr
  try cbv
  replace h := findF_inv h
  rcases h with ⟨x3, hz, h⟩ | ⟨hz, h⟩
  · replace h := ds_i64_inv h
    obtain ⟨z4, rfl, h⟩ := h
    refine ⟨some _, (M.lock_iff _).2 hz, ?_⟩
    clear hz
    try cbv
    refine splitL (fun e => ?_) (fun e => ?_)
    · replace h := ite_t e h
      clear e
      try cbv
      obtain rfl := Option.some.inj h
      refine fin_go ?_
      try cbv
      exact ⟨[], rfl, rfl, trivial, trivial, trivial⟩
    · replace h := ite_f (Int.not_lt.2 e) h
      clear e
      try cbv
      obtain rfl := Option.some.inj h
      refine fin_go ?_
      try cbv
      exact ⟨[], rfl, rfl, trivial, trivial, trivial⟩
  · refine ⟨none, (M.lock_iff _).2 hz, ?_⟩
    clear hz
    try cbv
    refine splitL_f (by decide) ?_
    try cbv
    obtain rfl := Option.some.inj h
    refine fin_go ?_
    try cbv
    exact ⟨[], rfl, rfl, trivial, trivial, trivial⟩
end Go.Proofs.YtjmofeakajdbiaaDoor
end

set_option linter.unusedVariables false
noncomputable section
namespace Go.Proofs.YtjmofeakajdbiaaDoor
open Go Go.AM
mutual
def L12_1 : Nat → ByteArray → Int → Option (Bool)
  | 0, _, _ => none
  | n + 1, s1, z2 =>
    (if z2 < (47 : Int) then L12_2 n s1 z2 true else L12_2 n s1 z2 false)
def L12_2 : Nat → ByteArray → Int → Bool → Option (Bool)
  | 0, _, _, _ => none
  | n + 1, s1, z2, b3 =>
    (if b3 = true then getF ([.str k_let, .str k_if, .str k_else, .str k_while, .str k_match, .str k_scope, .str k_spawn, .str k_lock, .str k_as, .str k_chan, .str k_drop, .str k_fn, .str k_struct, .str k_enum, .str k_true, .str k_false, .str k_and, .str k_or, .str k_not, .str k_int, .str k_bool, .str k_unit, .str k_mut, .str k_box, .str k_unbox, .str k_cell, .str k_get, .str k_set, .str k_rc, .str k_arc, .str k_clone, .str k_mutex, .str k_open, .str k_atomic, .str k_load, .str k_store, .str k_fetch, .str k_send, .str k_recv, .str k_Box, .str k_Cell, .str k_Rc, .str k_Arc, .str k_Mutex, .str k_Atomic, .str k_Sender, .str k_Receiver]) z2 fun x4 => ds_str x4 fun s5 => (if s5 = s1 then L12_3 n s1 z2 true else L12_3 n s1 z2 false) else some false)
def L12_3 : Nat → ByteArray → Int → Bool → Option (Bool)
  | 0, _, _, _ => none
  | n + 1, s1, z2, b6 =>
    (if b6 = true then some true else letF (IntKind.wrap .i64 (z2 + 1)) fun z7 => L12_1 n s1 z7)
end
def F12 (n : Nat) (s1 : ByteArray) : Option (Bool) :=
  L12_1 n s1 (0 : Int)
set_option maxRecDepth 100000 in
set_option maxHeartbeats 40000000 in
theorem T12 (n : Nat) : ∀ ⦃s1 : ByteArray⦄ ⦃r1 : Bool⦄, F12 n s1 = some r1 →
    Trip Tryd.prog inv 12 [.d (.str s1)] [] (.v (.d (.bool r1))) [] [] := by
  intro s1 r1 h
  unfold F12 at h
  refine Trip.of tab_ok tab_one fol Tryd.func12 rfl (by kernel_rfl) rfl rfl rfl (fun M hM hI => ?_)
  try cbv
  refine seq_go ?_
  try cbv
  refine seq_go ?_
  try cbv
  refine ⟨false, ?_⟩
  try cbv
  refine ⟨true, ?_⟩
  try cbv
  refine seq_go ?_
  try cbv
  refine seq_go ?_
  try cbv
  refine loop_inv (T := Nat × Int) [0, 2, 3, 4] [] 128 (fun t => ⟨[(0, .v (.d (.str s1))), (2, .v (.d (.bool false))), (3, .v (.c (.tl false 1 ([.str k_let, .str k_if, .str k_else, .str k_while, .str k_match, .str k_scope, .str k_spawn, .str k_lock, .str k_as, .str k_chan, .str k_drop, .str k_fn, .str k_struct, .str k_enum, .str k_true, .str k_false, .str k_and, .str k_or, .str k_not, .str k_int, .str k_bool, .str k_unit, .str k_mut, .str k_box, .str k_unbox, .str k_cell, .str k_get, .str k_set, .str k_rc, .str k_arc, .str k_clone, .str k_mutex, .str k_open, .str k_atomic, .str k_load, .str k_store, .str k_fetch, .str k_send, .str k_recv, .str k_Box, .str k_Cell, .str k_Rc, .str k_Arc, .str k_Mutex, .str k_Atomic, .str k_Sender, .str k_Receiver])))), (4, .v (.d (.int .i64 t.2)))], [], 128⟩)
    (fun t => t.1 ≤ n ∧ L12_1 t.1 s1 t.2 = some r1) (fun t => t.1) (n, (0 : Int)) ⟨Nat.le_refl _, h⟩ (by cbv) ?_
  clear h
  rintro ⟨m1, z2⟩ ⟨hm1, h⟩
  replace hm1 : m1 ≤ n := hm1
  cases m1 with
  | zero =>
    replace h : L12_1 0 s1 z2 = some r1 := h
    rw [L12_1] at h
    cases h
  | succ m1 =>
    replace h : L12_1 (m1 + 1) s1 z2 = some r1 := h
    rw [L12_1] at h
    try cbv
    refine seq_go ?_
    try cbv
    refine seq_join (T := Nat × Bool) (fun t => ⟨[(0, .v (.d (.str s1))), (2, .v (.d (.bool false))), (3, .v (.c (.tl false 1 ([.str k_let, .str k_if, .str k_else, .str k_while, .str k_match, .str k_scope, .str k_spawn, .str k_lock, .str k_as, .str k_chan, .str k_drop, .str k_fn, .str k_struct, .str k_enum, .str k_true, .str k_false, .str k_and, .str k_or, .str k_not, .str k_int, .str k_bool, .str k_unit, .str k_mut, .str k_box, .str k_unbox, .str k_cell, .str k_get, .str k_set, .str k_rc, .str k_arc, .str k_clone, .str k_mutex, .str k_open, .str k_atomic, .str k_load, .str k_store, .str k_fetch, .str k_send, .str k_recv, .str k_Box, .str k_Cell, .str k_Rc, .str k_Arc, .str k_Mutex, .str k_Atomic, .str k_Sender, .str k_Receiver])))), (4, .v (.d (.int .i64 z2))), (9, .v (.d (.bool t.2)))], [], 256⟩) (fun t => t.1 ≤ m1 ∧ L12_2 t.1 s1 z2 t.2 = some r1) ?_ ?_
    · try cbv
      refine ⟨47, (M.lenI_eq _).trans rfl, ?_⟩
      try cbv
      refine splitL (fun e => ?_) (fun e => ?_)
      · replace h := ite_t e h
        clear e
        try cbv
        exact join_next (m1, true) [0, 2, 3, 4, 9] [] 256 ⟨by omega, h⟩ (by cbv)
      · replace h := ite_f (Int.not_lt.2 e) h
        clear e
        try cbv
        exact join_next (m1, false) [0, 2, 3, 4, 9] [] 256 ⟨by omega, h⟩ (by cbv)
    · clear h
      rintro ⟨m2, b3⟩ ⟨hm2, h⟩
      replace hm2 : m2 ≤ m1 := hm2
      cases m2 with
      | zero =>
        replace h : L12_2 0 s1 z2 b3 = some r1 := h
        rw [L12_2] at h
        cases h
      | succ m2 =>
        replace h : L12_2 (m2 + 1) s1 z2 b3 = some r1 := h
        rw [L12_2] at h
        try cbv
        cases b3
        · replace h := ite_f Bool.false_ne_true h
          try cbv
          refine seq_go ?_
          try cbv
          obtain rfl := Option.some.inj h
          refine fin_go ?_
          try cbv
          exact ⟨[], rfl, rfl, trivial, trivial, trivial⟩
        · replace h := ite_t rfl h
          try cbv
          refine seq_go ?_
          try cbv
          refine seq_join (T := Nat × Bool) (fun t => ⟨[(0, .v (.d (.str s1))), (2, .v (.d (.bool false))), (3, .v (.c (.tl false 1 ([.str k_let, .str k_if, .str k_else, .str k_while, .str k_match, .str k_scope, .str k_spawn, .str k_lock, .str k_as, .str k_chan, .str k_drop, .str k_fn, .str k_struct, .str k_enum, .str k_true, .str k_false, .str k_and, .str k_or, .str k_not, .str k_int, .str k_bool, .str k_unit, .str k_mut, .str k_box, .str k_unbox, .str k_cell, .str k_get, .str k_set, .str k_rc, .str k_arc, .str k_clone, .str k_mutex, .str k_open, .str k_atomic, .str k_load, .str k_store, .str k_fetch, .str k_send, .str k_recv, .str k_Box, .str k_Cell, .str k_Rc, .str k_Arc, .str k_Mutex, .str k_Atomic, .str k_Sender, .str k_Receiver])))), (4, .v (.d (.int .i64 z2))), (17, .v (.d (.bool t.2)))], [], 448⟩) (fun t => t.1 ≤ m2 ∧ L12_3 t.1 s1 z2 t.2 = some r1) ?_ ?_
          · try cbv
            replace h := getF_inv h
            obtain ⟨x4, ⟨hx0, hx⟩, h⟩ := h
            refine ⟨x4, hx0, hx, ?_⟩
            clear hx0 hx
            replace h := ds_str_inv h
            obtain ⟨s5, rfl, h⟩ := h
            try cbv
            refine splitS (fun e => ?_) (fun e => ?_)
            · replace h := ite_t (bytes_eq.1 e) h
              clear e
              try cbv
              exact join_next (m2, true) [0, 2, 3, 4, 17] [] 448 ⟨by omega, h⟩ (by cbv)
            · replace h := ite_f (bytes_ne.1 e) h
              clear e
              try cbv
              exact join_next (m2, false) [0, 2, 3, 4, 17] [] 448 ⟨by omega, h⟩ (by cbv)
          · clear h
            rintro ⟨m3, b6⟩ ⟨hm3, h⟩
            replace hm3 : m3 ≤ m2 := hm3
            cases m3 with
            | zero =>
              replace h : L12_3 0 s1 z2 b6 = some r1 := h
              rw [L12_3] at h
              cases h
            | succ m3 =>
              replace h : L12_3 (m3 + 1) s1 z2 b6 = some r1 := h
              rw [L12_3] at h
              try cbv
              cases b6
              · replace h := ite_f Bool.false_ne_true h
                try cbv
                replace h := letF_inv h
                obtain ⟨z7, hz, h⟩ := h
                refine ⟨z7, hz, ?_⟩
                clear hz
                try cbv
                exact loop_next (m3, z7) [0, 2, 3, 4] [] 128 ⟨by omega, h⟩ (Nat.lt_succ_of_le (by omega)) (by cbv)
              · replace h := ite_t rfl h
                try cbv
                refine seq_go ?_
                try cbv
                obtain rfl := Option.some.inj h
                refine fin_go ?_
                try cbv
                exact ⟨[], rfl, rfl, trivial, trivial, trivial⟩
end Go.Proofs.YtjmofeakajdbiaaDoor
end

set_option linter.unusedVariables false
noncomputable section
namespace Go.Proofs.YtjmofeakajdbiaaDoor
open Go Go.AM

def bl (s : ByteArray) : List UInt8 := s.data.toList
theorem bl_len (s : ByteArray) : s.size = (bl s).length := (Array.length_toList (xs := s.data)).symm
theorem bl_inj {s t : ByteArray} (h : bl s = bl t) : s = t := by
  cases s; cases t
  simp only [bl] at h
  rw [Array.toList_inj.1 h]
theorem atF_get {γ : Type} {s : ByteArray} {i : Nat} {b : UInt8} {k : Int → Option γ} (h : (bl s)[i]? = some b) : atF s (i : Int) k = k (b.toNat : Int) := by
  have hlt : i < s.size := by rw [bl_len]; exact (List.getElem?_eq_some_iff.1 h).1
  have hb : s[i] = b := by
    have := (List.getElem?_eq_some_iff.1 h).2
    rw [← this]
    simp [bl]
    rfl
  have h1 : s[(i : Int).toNat]? = some b := by
    rw [Int.toNat_natCast, getElem?_pos s i hlt, hb]
  unfold atF
  rw [if_pos (Int.natCast_nonneg i), h1]
  rfl
theorem szF_eq {γ : Type} {s : ByteArray} {k : Int → Option γ} : szF s k = k ((bl s).length : Int) := by
  unfold szF
  rw [bl_len]
def wordsL : List ByteArray := [k_let, k_if, k_else, k_while, k_match, k_scope, k_spawn, k_lock, k_as, k_chan, k_drop, k_fn, k_struct, k_enum, k_true, k_false, k_and, k_or, k_not, k_int, k_bool, k_unit, k_mut, k_box, k_unbox, k_cell, k_get, k_set, k_rc, k_arc, k_clone, k_mutex, k_open, k_atomic, k_load, k_store, k_fetch, k_send, k_recv, k_Box, k_Cell, k_Rc, k_Arc, k_Mutex, k_Atomic, k_Sender, k_Receiver]
def word (s : ByteArray) : Bool := wordsL.any fun w => decide (bl w = bl s)
theorem word_iff {s : ByteArray} : word s = true ↔ s ∈ wordsL := by
  unfold word
  rw [List.any_eq_true]
  constructor
  · rintro ⟨w, hw, h⟩
    rw [← bl_inj (of_decide_eq_true h)]; exact hw
  · intro h
    exact ⟨s, h, decide_eq_true rfl⟩
theorem word_no {s : ByteArray} (h : s ∉ wordsL) : word s = false := by
  cases hw : word s
  · rfl
  · exact absurd (word_iff.1 hw) h

theorem beq_bytes {a b : ByteArray} : (a == b) = true ↔ a = b := by
  rw [beq_toListBytes]
  constructor
  · intro h
    have h := eq_of_beq h
    rw [ByteArray.toList_eq, ByteArray.toList_eq] at h
    exact bl_inj h
  · rintro rfl
    exact beq_self_eq_true _

inductive WRows : List ByteArray → List D → Prop where
  | nil : WRows [] []
  | cons {w : ByteArray} {z : Int} {ws : List ByteArray} {rows : List D} (hz : 0 < z) (h : WRows ws rows) : WRows (w :: ws) (.agg [.str w, .int .i64 z] :: rows)
theorem WRows.find {s : ByteArray} : ∀ {ws : List ByteArray} {rows : List D}, WRows ws rows → (s ∉ ws ∧ findR false (.str s) rows = some none) ∨ ∃ z, s ∈ ws ∧ 0 < z ∧ findR false (.str s) rows = some (some (.int .i64 z))
  | _, _, .nil => .inl ⟨by simp, rfl⟩
  | _, _, .cons (w := w) (z := z) (ws := ws) (rows := rows) hz h => by
    cases hb : (s == w) with
    | true =>
      have := beq_bytes.1 hb
      subst this
      exact .inr ⟨z, by simp, hz, by simp [findR, eqK, hb, rowOf]⟩
    | false =>
      have hne : s ≠ w := fun e => by rw [beq_bytes.2 e] at hb; cases hb
      rcases h.find (s := s) with ⟨h1, h2⟩ | ⟨z', h1, h2, h3⟩
      · exact .inl ⟨by simp [hne, h1], by simp [findR, eqK, hb, h2]⟩
      · exact .inr ⟨z', by simp [h1], h2, by simp [findR, eqK, hb, h3]⟩
theorem WRows.put {s : ByteArray} {z : Int} (hz : 0 < z) : ∀ {ws : List ByteArray} {rows : List D}, WRows ws rows → ∃ ws' rows', putR (.str s) [.int .i64 z] rows = some rows' ∧ WRows ws' rows' ∧ ∀ t, t ∈ ws' ↔ t = s ∨ t ∈ ws
  | _, _, .nil => ⟨[s], _, rfl, .cons hz .nil, by simp⟩
  | _, _, .cons (w := w) (z := z') (ws := ws) (rows := rows) hz' h => by
    cases hb : (s == w) with
    | true =>
      have := beq_bytes.1 hb
      subst this
      exact ⟨s :: ws, .agg [.str s, .int .i64 z] :: rows, by simp [putR, eqK, hb], .cons hz h, by intro t; simp⟩
    | false =>
      obtain ⟨ws', rows', h1, h2, h3⟩ := h.put (s := s) hz
      refine ⟨w :: ws', .agg [.str w, .int .i64 z'] :: rows', by simp [putR, eqK, hb, h1], .cons hz' h2, fun t => ?_⟩
      simp only [List.mem_cons, h3]
      constructor
      · rintro (h | h | h) <;> simp [h]
      · rintro (h | h | h) <;> simp [h]

theorem fields_words : fieldsD k_let_if_else_while_match_ = wordsL.map D.str := by kernel_rfl
theorem ev50 : Ev (fun n => F50 n k_let_if_else_while_match_) (wordsL.map D.str) := Ev.of fun n => by
  rw [← fields_words]
  unfold F50
  have h1 : Nat.ble (k_let_if_else_while_match_).size 1000 = true := by kernel_rfl
  have h1 := Nat.le_of_ble_eq_true h1
  have h2 : (Lib.fields (k_let_if_else_while_match_).data.toList).length = 47 := by kernel_rfl
  rw [if_pos (by rw [h2]; exact ⟨by omega, by kernel_rfl, by decide⟩)]
theorem wordsL_len : wordsL.length = 47 := rfl

theorem ev30 : ∃ ws rows, Ev (fun n => F30 n) rows ∧ WRows ws rows ∧ ∀ t, t ∈ ws ↔ t ∈ wordsL := by
  have main : ∀ i : Nat, i ≤ 47 → ∀ ws rows, WRows ws rows → ∃ ws' rows', Ev (fun n => L30_1 n (wordsL.map D.str) 47 (i : Int) rows) rows' ∧ WRows ws' rows' ∧ ∀ t, t ∈ ws' ↔ t ∈ wordsL.drop i ∨ t ∈ ws := by
    refine down 47 ?_ ?_
    · intro ws rows h
      refine ⟨ws, rows, .succ (.succ (.of fun n => ?_)), h, fun t => ?_⟩
      · rw [L30_1, if_neg (by omega), L30_2, if_neg Bool.false_ne_true]
      · rw [List.drop_eq_nil_of_le (by rw [wordsL_len]; omega)]
        simp
    · intro i hi ih ws rows h
      have hlt : i < wordsL.length := by rw [wordsL_len]; exact hi
      obtain ⟨ws1, rows1, h1, h2, h3⟩ := h.put (s := wordsL[i]) (z := ((i + 1 : Nat) : Int)) (by omega)
      obtain ⟨ws2, rows2, h4, h5, h6⟩ := ih ws1 rows1 h2
      refine ⟨ws2, rows2, .succ (.succ (h4.congr fun n => ?_)), h5, fun t => ?_⟩
      · have hw : (wordsL.map D.str)[i]? = some (.str wordsL[i]) := by simp [hlt]
        rw [L30_1, if_pos (by omega), L30_2, if_pos rfl, getF_nat hw]
        simp only [ds_str, letF, wrap_succ (N := 47) hi (by decide)]
        unfold putF
        rw [h1]
      · rw [h6, h3, List.drop_eq_getElem_cons hlt]
        simp only [List.mem_cons]
        constructor
        · rintro (h | h | h) <;> simp [h]
        · rintro ((h | h) | h) <;> simp [h]
  obtain ⟨ws, rows, h1, h2, h3⟩ := main 0 (by omega) [] [] .nil
  refine ⟨ws, rows, ?_, h2, by simpa using h3⟩
  unfold F30
  refine Ev.bO1 ev50 (h1.congr fun n => ?_)
  unfold lenF
  rfl

theorem ev11 (s : ByteArray) : Ev (fun n => F11 n s) (word s) := by
  obtain ⟨ws, rows, h1, h2, h3⟩ := ev30
  unfold F11
  refine Ev.bO1 h1 (Ev.of fun n => ?_)
  unfold findF
  rcases h2.find (s := s) with ⟨h4, h5⟩ | ⟨z, h4, h5, h6⟩
  · rw [h5]
    have : s ∉ wordsL := fun h => h4 ((h3 s).2 h)
    rw [word_no this]
  · rw [h6]
    have : s ∈ wordsL := (h3 s).1 h4
    rw [word_iff.2 this]
    simp [ds_i64, h5]
theorem ev12 (s : ByteArray) : Ev (fun n => F12 n s) (word s) := by
  have main : ∀ i : Nat, i ≤ 47 → Ev (fun n => L12_1 n s (i : Int)) ((wordsL.drop i).any fun w => decide (bl w = bl s)) := by
    refine down 47 ?_ ?_
    · refine .succ (.succ (.of fun n => ?_))
      rw [L12_1, if_neg (by omega), L12_2, if_neg Bool.false_ne_true, List.drop_eq_nil_of_le (by rw [wordsL_len]; omega)]
      rfl
    · intro i hi ih
      have hlt : i < wordsL.length := by rw [wordsL_len]; exact hi
      have hw : (wordsL.map D.str)[i]? = some (.str wordsL[i]) := by simp [hlt]
      have hw : ([.str k_let, .str k_if, .str k_else, .str k_while, .str k_match, .str k_scope, .str k_spawn, .str k_lock, .str k_as, .str k_chan, .str k_drop, .str k_fn, .str k_struct, .str k_enum, .str k_true, .str k_false, .str k_and, .str k_or, .str k_not, .str k_int, .str k_bool, .str k_unit, .str k_mut, .str k_box, .str k_unbox, .str k_cell, .str k_get, .str k_set, .str k_rc, .str k_arc, .str k_clone, .str k_mutex, .str k_open, .str k_atomic, .str k_load, .str k_store, .str k_fetch, .str k_send, .str k_recv, .str k_Box, .str k_Cell, .str k_Rc, .str k_Arc, .str k_Mutex, .str k_Atomic, .str k_Sender, .str k_Receiver] : List D)[i]? = some (.str wordsL[i]) := hw
      rw [List.drop_eq_getElem_cons hlt, List.any_cons]
      by_cases he : wordsL[i] = s
      · refine .succ (.succ (.succ (.of fun n => ?_)))
        rw [L12_1, if_pos (by omega), L12_2, if_pos rfl, getF_nat hw]
        simp only [ds_str]
        rw [if_pos he, L12_3, if_pos rfl, decide_eq_true (congrArg bl he)]
        rfl
      · rw [decide_eq_false (fun e => he (bl_inj e)), Bool.false_or]
        refine .succ (.succ (.succ (ih.congr fun n => ?_)))
        rw [L12_1, if_pos (by omega), L12_2, if_pos rfl, getF_nat hw]
        simp only [ds_str]
        rw [if_neg he, L12_3, if_neg Bool.false_ne_true]
        simp only [letF, wrap_succ (N := 47) hi (by decide)]
  have := main 0 (by omega)
  unfold F12 word
  exact this
end Go.Proofs.YtjmofeakajdbiaaDoor

set_option linter.unusedVariables false
noncomputable section
namespace Go.Proofs.YtjmofeakajdbiaaDoor
open Go Go.AM
def F32 (n : Nat) (z1 : Int) : Option (Bool) :=
  (if (97 : Int) ≤ z1 then (if z1 ≤ (122 : Int) then some true else some false) else some false)
set_option maxRecDepth 100000 in
set_option maxHeartbeats 40000000 in
theorem T32 (n : Nat) : ∀ ⦃z1 : Int⦄ ⦃r1 : Bool⦄, F32 n z1 = some r1 →
    Trip Tryd.prog inv 32 [.d (.int .u8 z1)] [] (.v (.d (.bool r1))) [] [] := by
  intro z1 r1 h
  unfold F32 at h
  refine Trip.of tab_ok tab_one fol Tryd.func32 rfl (by kernel_rfl) rfl rfl rfl (fun M hM hI => ?_)
  try cbv
  refine seq_go ?_
  try cbv
  refine seq_go ?_
  try cbv
  refine splitLe (fun e => ?_) (fun e => ?_)
  · replace h := ite_t e h
    clear e
    try cbv
    refine splitLe (fun e => ?_) (fun e => ?_)
    · replace h := ite_t e h
      clear e
      try cbv
      obtain rfl := Option.some.inj h
      refine fin_go ?_
      try cbv
      exact ⟨[], rfl, rfl, trivial, trivial, trivial⟩
    · replace h := ite_f (Int.not_le.2 e) h
      clear e
      try cbv
      obtain rfl := Option.some.inj h
      refine fin_go ?_
      try cbv
      exact ⟨[], rfl, rfl, trivial, trivial, trivial⟩
  · replace h := ite_f (Int.not_le.2 e) h
    clear e
    try cbv
    obtain rfl := Option.some.inj h
    refine fin_go ?_
    try cbv
    exact ⟨[], rfl, rfl, trivial, trivial, trivial⟩
end Go.Proofs.YtjmofeakajdbiaaDoor
end

set_option linter.unusedVariables false
noncomputable section
namespace Go.Proofs.YtjmofeakajdbiaaDoor
open Go Go.AM
def F34 (n : Nat) (z1 : Int) : Option (Bool) :=
  (if (65 : Int) ≤ z1 then (if z1 ≤ (90 : Int) then some true else some false) else some false)
set_option maxRecDepth 100000 in
set_option maxHeartbeats 40000000 in
theorem T34 (n : Nat) : ∀ ⦃z1 : Int⦄ ⦃r1 : Bool⦄, F34 n z1 = some r1 →
    Trip Tryd.prog inv 34 [.d (.int .u8 z1)] [] (.v (.d (.bool r1))) [] [] := by
  intro z1 r1 h
  unfold F34 at h
  refine Trip.of tab_ok tab_one fol Tryd.func34 rfl (by kernel_rfl) rfl rfl rfl (fun M hM hI => ?_)
  try cbv
  refine seq_go ?_
  try cbv
  refine seq_go ?_
  try cbv
  refine splitLe (fun e => ?_) (fun e => ?_)
  · replace h := ite_t e h
    clear e
    try cbv
    refine splitLe (fun e => ?_) (fun e => ?_)
    · replace h := ite_t e h
      clear e
      try cbv
      obtain rfl := Option.some.inj h
      refine fin_go ?_
      try cbv
      exact ⟨[], rfl, rfl, trivial, trivial, trivial⟩
    · replace h := ite_f (Int.not_le.2 e) h
      clear e
      try cbv
      obtain rfl := Option.some.inj h
      refine fin_go ?_
      try cbv
      exact ⟨[], rfl, rfl, trivial, trivial, trivial⟩
  · replace h := ite_f (Int.not_le.2 e) h
    clear e
    try cbv
    obtain rfl := Option.some.inj h
    refine fin_go ?_
    try cbv
    exact ⟨[], rfl, rfl, trivial, trivial, trivial⟩
end Go.Proofs.YtjmofeakajdbiaaDoor
end

set_option linter.unusedVariables false
noncomputable section
namespace Go.Proofs.YtjmofeakajdbiaaDoor
open Go Go.AM
def F67 (n : Nat) (z1 : Int) : Option (Bool) :=
  (if (48 : Int) ≤ z1 then (if z1 ≤ (57 : Int) then some true else some false) else some false)
set_option maxRecDepth 100000 in
set_option maxHeartbeats 40000000 in
theorem T67 (n : Nat) : ∀ ⦃z1 : Int⦄ ⦃r1 : Bool⦄, F67 n z1 = some r1 →
    Trip Tryd.prog inv 67 [.d (.int .u8 z1)] [] (.v (.d (.bool r1))) [] [] := by
  intro z1 r1 h
  unfold F67 at h
  refine Trip.of tab_ok tab_one fol Tryd.func67 rfl (by kernel_rfl) rfl rfl rfl (fun M hM hI => ?_)
  try cbv
  refine seq_go ?_
  try cbv
  refine seq_go ?_
  try cbv
  refine splitLe (fun e => ?_) (fun e => ?_)
  · replace h := ite_t e h
    clear e
    try cbv
    refine splitLe (fun e => ?_) (fun e => ?_)
    · replace h := ite_t e h
      clear e
      try cbv
      obtain rfl := Option.some.inj h
      refine fin_go ?_
      try cbv
      exact ⟨[], rfl, rfl, trivial, trivial, trivial⟩
    · replace h := ite_f (Int.not_le.2 e) h
      clear e
      try cbv
      obtain rfl := Option.some.inj h
      refine fin_go ?_
      try cbv
      exact ⟨[], rfl, rfl, trivial, trivial, trivial⟩
  · replace h := ite_f (Int.not_le.2 e) h
    clear e
    try cbv
    obtain rfl := Option.some.inj h
    refine fin_go ?_
    try cbv
    exact ⟨[], rfl, rfl, trivial, trivial, trivial⟩
end Go.Proofs.YtjmofeakajdbiaaDoor
end

set_option linter.unusedVariables false
noncomputable section
namespace Go.Proofs.YtjmofeakajdbiaaDoor
open Go Go.AM
def F52 (n : Nat) (z1 : Int) : Option (Bool) :=
  bO1 (F32 n z1) fun b2 => (if b2 = true then some true else bO1 (F34 n z1) fun b3 => (if b3 = true then some true else bO1 (F67 n z1) fun b4 => (if b4 = true then some true else (if z1 = (95 : Int) then some true else some false))))
set_option maxRecDepth 100000 in
set_option maxHeartbeats 40000000 in
theorem T52 (n : Nat) : ∀ ⦃z1 : Int⦄ ⦃r1 : Bool⦄, F52 n z1 = some r1 →
    Trip Tryd.prog inv 52 [.d (.int .u8 z1)] [] (.v (.d (.bool r1))) [] [] := by
  intro z1 r1 h
  unfold F52 at h
  refine Trip.of tab_ok tab_one fol Tryd.func52 rfl (by kernel_rfl) rfl rfl rfl (fun M hM hI => ?_)
  try cbv
  refine seq_go ?_
  try cbv
  refine seq_go ?_
  try cbv
  replace h := bO1_inv h
  obtain ⟨b2, hr, h⟩ := h
  refine call_go rfl rfl ?_
  try cbv
  refine call_pure hM hI (T32 _ hr) rfl ?_
  clear hr
  try cbv
  cases b2
  · replace h := ite_f Bool.false_ne_true h
    try cbv
    replace h := bO1_inv h
    obtain ⟨b3, hr, h⟩ := h
    refine call_go rfl rfl ?_
    try cbv
    refine call_pure hM hI (T34 _ hr) rfl ?_
    clear hr
    try cbv
    cases b3
    · replace h := ite_f Bool.false_ne_true h
      try cbv
      replace h := bO1_inv h
      obtain ⟨b4, hr, h⟩ := h
      refine call_go rfl rfl ?_
      try cbv
      refine call_pure hM hI (T67 _ hr) rfl ?_
      clear hr
      try cbv
      cases b4
      · replace h := ite_f Bool.false_ne_true h
        try cbv
        refine splitI (fun e => ?_) (fun e => ?_)
        · replace h := ite_t e h
          clear e
          try cbv
          obtain rfl := Option.some.inj h
          refine fin_go ?_
          try cbv
          exact ⟨[], rfl, rfl, trivial, trivial, trivial⟩
        · replace h := ite_f e h
          clear e
          try cbv
          obtain rfl := Option.some.inj h
          refine fin_go ?_
          try cbv
          exact ⟨[], rfl, rfl, trivial, trivial, trivial⟩
      · replace h := ite_t rfl h
        try cbv
        obtain rfl := Option.some.inj h
        refine fin_go ?_
        try cbv
        exact ⟨[], rfl, rfl, trivial, trivial, trivial⟩
    · replace h := ite_t rfl h
      try cbv
      obtain rfl := Option.some.inj h
      refine fin_go ?_
      try cbv
      exact ⟨[], rfl, rfl, trivial, trivial, trivial⟩
  · replace h := ite_t rfl h
    try cbv
    obtain rfl := Option.some.inj h
    refine fin_go ?_
    try cbv
    exact ⟨[], rfl, rfl, trivial, trivial, trivial⟩
end Go.Proofs.YtjmofeakajdbiaaDoor
end

set_option linter.unusedVariables false
noncomputable section
namespace Go.Proofs.YtjmofeakajdbiaaDoor
open Go Go.AM
mutual
def L51_1 : Nat → ByteArray → Int → Option (Int)
  | 0, _, _ => none
  | n + 1, s1, z2 =>
    szF s1 fun z3 => (if z2 < z3 then atF s1 z2 fun z4 => bO1 (F52 n z4) fun b5 => L51_2 n s1 z2 b5 else L51_2 n s1 z2 false)
def L51_2 : Nat → ByteArray → Int → Bool → Option (Int)
  | 0, _, _, _ => none
  | n + 1, s1, z2, b6 =>
    (if b6 = true then letF (IntKind.wrap .i64 (z2 + 1)) fun z7 => L51_1 n s1 z7 else some z2)
end
def F51 (n : Nat) (s1 : ByteArray) : Option (Int) :=
  L51_1 n s1 (0 : Int)
set_option maxRecDepth 100000 in
set_option maxHeartbeats 40000000 in
theorem T51 (n : Nat) : ∀ ⦃s1 : ByteArray⦄ ⦃r1 : Int⦄, F51 n s1 = some r1 →
    Trip Tryd.prog inv 51 [.d (.str s1), .c (.fn 52 [])] [] (.v (.d (.int .i64 r1))) [] [] := by
  intro s1 r1 h
  unfold F51 at h
  refine Trip.of tab_ok tab_one fol Tryd.func51 rfl (by kernel_rfl) rfl rfl rfl (fun M hM hI => ?_)
  try cbv
  refine seq_go ?_
  try cbv
  refine seq_go ?_
  try cbv
  refine seq_go ?_
  try cbv
  refine loop_inv (T := Nat × Int) [0, 1, 4, 5] [] 64 (fun t => ⟨[(0, .v (.d (.str s1))), (1, .v (.c (.fn 52 []))), (4, .v (.d (.int .i64 0))), (5, .v (.d (.int .i64 t.2)))], [], 64⟩)
    (fun t => t.1 ≤ n ∧ L51_1 t.1 s1 t.2 = some r1) (fun t => t.1) (n, (0 : Int)) ⟨Nat.le_refl _, h⟩ (by cbv) ?_
  clear h
  rintro ⟨m1, z2⟩ ⟨hm1, h⟩
  replace hm1 : m1 ≤ n := hm1
  cases m1 with
  | zero =>
    replace h : L51_1 0 s1 z2 = some r1 := h
    rw [L51_1] at h
    cases h
  | succ m1 =>
    replace h : L51_1 (m1 + 1) s1 z2 = some r1 := h
    rw [L51_1] at h
    try cbv
    refine seq_go ?_
    try cbv
    refine seq_join (T := Nat × Bool) (fun t => ⟨[(0, .v (.d (.str s1))), (1, .v (.c (.fn 52 []))), (4, .v (.d (.int .i64 0))), (5, .v (.d (.int .i64 z2))), (16, .v (.d (.bool t.2)))], [], 416⟩) (fun t => t.1 ≤ m1 ∧ L51_2 t.1 s1 z2 t.2 = some r1) ?_ ?_
    · try cbv
      replace h := szF_inv M h
      obtain ⟨z3, hz, h⟩ := h
      refine ⟨z3, hz, ?_⟩
      clear hz
      try cbv
      refine splitL (fun e => ?_) (fun e => ?_)
      · replace h := ite_t e h
        clear e
        try cbv
        replace h := atF_inv h
        obtain ⟨z4, hz, h⟩ := h
        refine ⟨z4, hz, ?_⟩
        clear hz
        try cbv
        replace h := bO1_inv h
        obtain ⟨b5, hr, h⟩ := h
        refine call_go rfl rfl ?_
        try cbv
        refine call_pure hM hI (T52 _ hr) rfl ?_
        clear hr
        try cbv
        exact join_next (m1, b5) [0, 1, 4, 5, 16] [] 416 ⟨by omega, h⟩ (by cbv)
      · replace h := ite_f (Int.not_lt.2 e) h
        clear e
        try cbv
        exact join_next (m1, false) [0, 1, 4, 5, 16] [] 416 ⟨by omega, h⟩ (by cbv)
    · clear h
      rintro ⟨m2, b6⟩ ⟨hm2, h⟩
      replace hm2 : m2 ≤ m1 := hm2
      cases m2 with
      | zero =>
        replace h : L51_2 0 s1 z2 b6 = some r1 := h
        rw [L51_2] at h
        cases h
      | succ m2 =>
        replace h : L51_2 (m2 + 1) s1 z2 b6 = some r1 := h
        rw [L51_2] at h
        try cbv
        cases b6
        · replace h := ite_f Bool.false_ne_true h
          try cbv
          refine seq_go ?_
          try cbv
          obtain rfl := Option.some.inj h
          refine fin_go ?_
          try cbv
          exact ⟨[], rfl, rfl, trivial, trivial, trivial⟩
        · replace h := ite_t rfl h
          try cbv
          replace h := letF_inv h
          obtain ⟨z7, hz, h⟩ := h
          refine ⟨z7, hz, ?_⟩
          clear hz
          try cbv
          exact loop_next (m2, z7) [0, 1, 4, 5] [] 64 ⟨by omega, h⟩ (Nat.lt_succ_of_le (by omega)) (by cbv)
end Go.Proofs.YtjmofeakajdbiaaDoor
end

set_option linter.unusedVariables false
noncomputable section
namespace Go.Proofs.YtjmofeakajdbiaaDoor
open Go Go.AM
def F31 (n : Nat) (s1 : ByteArray) : Option (Bool) :=
  (if s1 = ByteArray.empty then some false else szF s1 fun z2 => (if z2 ≤ (16 : Int) then atF s1 (0 : Int) fun z3 => bO1 (F32 n z3) fun b4 => (if b4 = true then bO1 (F51 n s1) fun z5 => szF s1 fun z6 => (if z5 = z6 then bO1 (F11 n s1) fun b7 => letB (!b7) fun b8 => some b8 else some false) else some false) else some false))
set_option maxRecDepth 100000 in
set_option maxHeartbeats 40000000 in
theorem T31 (n : Nat) : ∀ ⦃s1 : ByteArray⦄ ⦃r1 : Bool⦄, F31 n s1 = some r1 →
    Trip Tryd.prog inv 31 [.d (.str s1), .c (.fn 32 [])] [] (.v (.d (.bool r1))) [] [] := by
  intro s1 r1 h
  unfold F31 at h
  refine Trip.of tab_ok tab_one fol Tryd.func31 rfl (by kernel_rfl) rfl rfl rfl (fun M hM hI => ?_)
  try cbv
  refine seq_go ?_
  try cbv
  refine seq_go ?_
  try cbv
  refine splitS (fun e => ?_) (fun e => ?_)
  · replace h := ite_t (bytes_eq.1 e) h
    clear e
    try cbv
    obtain rfl := Option.some.inj h
    refine fin_go ?_
    try cbv
    exact ⟨[], rfl, rfl, trivial, trivial, trivial⟩
  · replace h := ite_f (bytes_ne.1 e) h
    clear e
    try cbv
    replace h := szF_inv M h
    obtain ⟨z2, hz, h⟩ := h
    refine ⟨z2, hz, ?_⟩
    clear hz
    try cbv
    refine splitLe (fun e => ?_) (fun e => ?_)
    · replace h := ite_t e h
      clear e
      try cbv
      replace h := atF_inv h
      obtain ⟨z3, hz, h⟩ := h
      refine ⟨z3, hz, ?_⟩
      clear hz
      try cbv
      replace h := bO1_inv h
      obtain ⟨b4, hr, h⟩ := h
      refine call_go rfl rfl ?_
      try cbv
      refine call_pure hM hI (T32 _ hr) rfl ?_
      clear hr
      try cbv
      cases b4
      · replace h := ite_f Bool.false_ne_true h
        try cbv
        obtain rfl := Option.some.inj h
        refine fin_go ?_
        try cbv
        exact ⟨[], rfl, rfl, trivial, trivial, trivial⟩
      · replace h := ite_t rfl h
        try cbv
        replace h := bO1_inv h
        obtain ⟨z5, hr, h⟩ := h
        refine call_go rfl rfl ?_
        try cbv
        refine call_pure hM hI (T51 _ hr) rfl ?_
        clear hr
        try cbv
        replace h := szF_inv M h
        obtain ⟨z6, hz, h⟩ := h
        refine ⟨z6, hz, ?_⟩
        clear hz
        try cbv
        refine splitI (fun e => ?_) (fun e => ?_)
        · replace h := ite_t e h
          clear e
          try cbv
          replace h := bO1_inv h
          obtain ⟨b7, hr, h⟩ := h
          refine call_go rfl rfl ?_
          try cbv
          refine call_pure hM hI (T11 _ hr) rfl ?_
          clear hr
          try cbv
          replace h := letB_inv h
          obtain ⟨b8, hz, h⟩ := h
          refine ⟨b8, not_eq' hz, ?_⟩
          clear hz
          try cbv
          obtain rfl := Option.some.inj h
          refine fin_go ?_
          try cbv
          exact ⟨[], rfl, rfl, trivial, trivial, trivial⟩
        · replace h := ite_f e h
          clear e
          try cbv
          obtain rfl := Option.some.inj h
          refine fin_go ?_
          try cbv
          exact ⟨[], rfl, rfl, trivial, trivial, trivial⟩
    · replace h := ite_f (Int.not_le.2 e) h
      clear e
      try cbv
      obtain rfl := Option.some.inj h
      refine fin_go ?_
      try cbv
      exact ⟨[], rfl, rfl, trivial, trivial, trivial⟩
end Go.Proofs.YtjmofeakajdbiaaDoor
end

set_option linter.unusedVariables false
noncomputable section
namespace Go.Proofs.YtjmofeakajdbiaaDoor
open Go Go.AM
def F13 (n : Nat) (s1 : ByteArray) : Option (Bool) :=
  bO1 (F31 n s1) fun b2 => some b2
set_option maxRecDepth 100000 in
set_option maxHeartbeats 40000000 in
theorem T13 (n : Nat) : ∀ ⦃s1 : ByteArray⦄ ⦃r1 : Bool⦄, F13 n s1 = some r1 →
    Trip Tryd.prog inv 13 [.d (.str s1)] [] (.v (.d (.bool r1))) [] [] := by
  intro s1 r1 h
  unfold F13 at h
  refine Trip.of tab_ok tab_one fol Tryd.func13 rfl (by kernel_rfl) rfl rfl rfl (fun M hM hI => ?_)
  try cbv
  refine seq_go ?_
  try cbv
  refine seq_go ?_
  try cbv
  replace h := bO1_inv h
  obtain ⟨b2, hr, h⟩ := h
  refine call_go rfl rfl ?_
  try cbv
  refine call_pure hM hI (T31 _ hr) rfl ?_
  clear hr
  try cbv
  obtain rfl := Option.some.inj h
  refine fin_go ?_
  try cbv
  exact ⟨[], rfl, rfl, trivial, trivial, trivial⟩
end Go.Proofs.YtjmofeakajdbiaaDoor
end

set_option linter.unusedVariables false
noncomputable section
namespace Go.Proofs.YtjmofeakajdbiaaDoor
open Go Go.AM
def F53 (n : Nat) (z1 : Int) : Option (Bool) :=
  (if (97 : Int) ≤ z1 then (if z1 ≤ (122 : Int) then some true else (if (65 : Int) ≤ z1 then (if z1 ≤ (90 : Int) then some true else (if (48 : Int) ≤ z1 then (if z1 ≤ (57 : Int) then some true else (if z1 = (95 : Int) then some true else some false)) else (if z1 = (95 : Int) then some true else some false))) else (if (48 : Int) ≤ z1 then (if z1 ≤ (57 : Int) then some true else (if z1 = (95 : Int) then some true else some false)) else (if z1 = (95 : Int) then some true else some false)))) else (if (65 : Int) ≤ z1 then (if z1 ≤ (90 : Int) then some true else (if (48 : Int) ≤ z1 then (if z1 ≤ (57 : Int) then some true else (if z1 = (95 : Int) then some true else some false)) else (if z1 = (95 : Int) then some true else some false))) else (if (48 : Int) ≤ z1 then (if z1 ≤ (57 : Int) then some true else (if z1 = (95 : Int) then some true else some false)) else (if z1 = (95 : Int) then some true else some false))))
set_option maxRecDepth 100000 in
set_option maxHeartbeats 40000000 in
theorem T53 (n : Nat) : ∀ ⦃z1 : Int⦄ ⦃r1 : Bool⦄, F53 n z1 = some r1 →
    Trip Tryd.prog inv 53 [.d (.int .u8 z1)] [] (.v (.d (.bool r1))) [] [] := by
  intro z1 r1 h
  unfold F53 at h
  refine Trip.of tab_ok tab_one fol Tryd.func53 rfl (by kernel_rfl) rfl rfl rfl (fun M hM hI => ?_)
  try cbv
  refine seq_go ?_
  try cbv
  refine seq_go ?_
  try cbv
  refine splitLe (fun e => ?_) (fun e => ?_)
  · replace h := ite_t e h
    clear e
    try cbv
    refine splitLe (fun e => ?_) (fun e => ?_)
    · replace h := ite_t e h
      clear e
      try cbv
      obtain rfl := Option.some.inj h
      refine fin_go ?_
      try cbv
      exact ⟨[], rfl, rfl, trivial, trivial, trivial⟩
    · replace h := ite_f (Int.not_le.2 e) h
      clear e
      try cbv
      refine splitLe (fun e => ?_) (fun e => ?_)
      · replace h := ite_t e h
        clear e
        try cbv
        refine splitLe (fun e => ?_) (fun e => ?_)
        · replace h := ite_t e h
          clear e
          try cbv
          obtain rfl := Option.some.inj h
          refine fin_go ?_
          try cbv
          exact ⟨[], rfl, rfl, trivial, trivial, trivial⟩
        · replace h := ite_f (Int.not_le.2 e) h
          clear e
          try cbv
          refine splitLe (fun e => ?_) (fun e => ?_)
          · replace h := ite_t e h
            clear e
            try cbv
            refine splitLe (fun e => ?_) (fun e => ?_)
            · replace h := ite_t e h
              clear e
              try cbv
              obtain rfl := Option.some.inj h
              refine fin_go ?_
              try cbv
              exact ⟨[], rfl, rfl, trivial, trivial, trivial⟩
            · replace h := ite_f (Int.not_le.2 e) h
              clear e
              try cbv
              refine splitI (fun e => ?_) (fun e => ?_)
              · replace h := ite_t e h
                clear e
                try cbv
                obtain rfl := Option.some.inj h
                refine fin_go ?_
                try cbv
                exact ⟨[], rfl, rfl, trivial, trivial, trivial⟩
              · replace h := ite_f e h
                clear e
                try cbv
                obtain rfl := Option.some.inj h
                refine fin_go ?_
                try cbv
                exact ⟨[], rfl, rfl, trivial, trivial, trivial⟩
          · replace h := ite_f (Int.not_le.2 e) h
            clear e
            try cbv
            refine splitI (fun e => ?_) (fun e => ?_)
            · replace h := ite_t e h
              clear e
              try cbv
              obtain rfl := Option.some.inj h
              refine fin_go ?_
              try cbv
              exact ⟨[], rfl, rfl, trivial, trivial, trivial⟩
            · replace h := ite_f e h
              clear e
              try cbv
              obtain rfl := Option.some.inj h
              refine fin_go ?_
              try cbv
              exact ⟨[], rfl, rfl, trivial, trivial, trivial⟩
      · replace h := ite_f (Int.not_le.2 e) h
        clear e
        try cbv
        refine splitLe (fun e => ?_) (fun e => ?_)
        · replace h := ite_t e h
          clear e
          try cbv
          refine splitLe (fun e => ?_) (fun e => ?_)
          · replace h := ite_t e h
            clear e
            try cbv
            obtain rfl := Option.some.inj h
            refine fin_go ?_
            try cbv
            exact ⟨[], rfl, rfl, trivial, trivial, trivial⟩
          · replace h := ite_f (Int.not_le.2 e) h
            clear e
            try cbv
            refine splitI (fun e => ?_) (fun e => ?_)
            · replace h := ite_t e h
              clear e
              try cbv
              obtain rfl := Option.some.inj h
              refine fin_go ?_
              try cbv
              exact ⟨[], rfl, rfl, trivial, trivial, trivial⟩
            · replace h := ite_f e h
              clear e
              try cbv
              obtain rfl := Option.some.inj h
              refine fin_go ?_
              try cbv
              exact ⟨[], rfl, rfl, trivial, trivial, trivial⟩
        · replace h := ite_f (Int.not_le.2 e) h
          clear e
          try cbv
          refine splitI (fun e => ?_) (fun e => ?_)
          · replace h := ite_t e h
            clear e
            try cbv
            obtain rfl := Option.some.inj h
            refine fin_go ?_
            try cbv
            exact ⟨[], rfl, rfl, trivial, trivial, trivial⟩
          · replace h := ite_f e h
            clear e
            try cbv
            obtain rfl := Option.some.inj h
            refine fin_go ?_
            try cbv
            exact ⟨[], rfl, rfl, trivial, trivial, trivial⟩
  · replace h := ite_f (Int.not_le.2 e) h
    clear e
    try cbv
    refine splitLe (fun e => ?_) (fun e => ?_)
    · replace h := ite_t e h
      clear e
      try cbv
      refine splitLe (fun e => ?_) (fun e => ?_)
      · replace h := ite_t e h
        clear e
        try cbv
        obtain rfl := Option.some.inj h
        refine fin_go ?_
        try cbv
        exact ⟨[], rfl, rfl, trivial, trivial, trivial⟩
      · replace h := ite_f (Int.not_le.2 e) h
        clear e
        try cbv
        refine splitLe (fun e => ?_) (fun e => ?_)
        · replace h := ite_t e h
          clear e
          try cbv
          refine splitLe (fun e => ?_) (fun e => ?_)
          · replace h := ite_t e h
            clear e
            try cbv
            obtain rfl := Option.some.inj h
            refine fin_go ?_
            try cbv
            exact ⟨[], rfl, rfl, trivial, trivial, trivial⟩
          · replace h := ite_f (Int.not_le.2 e) h
            clear e
            try cbv
            refine splitI (fun e => ?_) (fun e => ?_)
            · replace h := ite_t e h
              clear e
              try cbv
              obtain rfl := Option.some.inj h
              refine fin_go ?_
              try cbv
              exact ⟨[], rfl, rfl, trivial, trivial, trivial⟩
            · replace h := ite_f e h
              clear e
              try cbv
              obtain rfl := Option.some.inj h
              refine fin_go ?_
              try cbv
              exact ⟨[], rfl, rfl, trivial, trivial, trivial⟩
        · replace h := ite_f (Int.not_le.2 e) h
          clear e
          try cbv
          refine splitI (fun e => ?_) (fun e => ?_)
          · replace h := ite_t e h
            clear e
            try cbv
            obtain rfl := Option.some.inj h
            refine fin_go ?_
            try cbv
            exact ⟨[], rfl, rfl, trivial, trivial, trivial⟩
          · replace h := ite_f e h
            clear e
            try cbv
            obtain rfl := Option.some.inj h
            refine fin_go ?_
            try cbv
            exact ⟨[], rfl, rfl, trivial, trivial, trivial⟩
    · replace h := ite_f (Int.not_le.2 e) h
      clear e
      try cbv
      refine splitLe (fun e => ?_) (fun e => ?_)
      · replace h := ite_t e h
        clear e
        try cbv
        refine splitLe (fun e => ?_) (fun e => ?_)
        · replace h := ite_t e h
          clear e
          try cbv
          obtain rfl := Option.some.inj h
          refine fin_go ?_
          try cbv
          exact ⟨[], rfl, rfl, trivial, trivial, trivial⟩
        · replace h := ite_f (Int.not_le.2 e) h
          clear e
          try cbv
          refine splitI (fun e => ?_) (fun e => ?_)
          · replace h := ite_t e h
            clear e
            try cbv
            obtain rfl := Option.some.inj h
            refine fin_go ?_
            try cbv
            exact ⟨[], rfl, rfl, trivial, trivial, trivial⟩
          · replace h := ite_f e h
            clear e
            try cbv
            obtain rfl := Option.some.inj h
            refine fin_go ?_
            try cbv
            exact ⟨[], rfl, rfl, trivial, trivial, trivial⟩
      · replace h := ite_f (Int.not_le.2 e) h
        clear e
        try cbv
        refine splitI (fun e => ?_) (fun e => ?_)
        · replace h := ite_t e h
          clear e
          try cbv
          obtain rfl := Option.some.inj h
          refine fin_go ?_
          try cbv
          exact ⟨[], rfl, rfl, trivial, trivial, trivial⟩
        · replace h := ite_f e h
          clear e
          try cbv
          obtain rfl := Option.some.inj h
          refine fin_go ?_
          try cbv
          exact ⟨[], rfl, rfl, trivial, trivial, trivial⟩
end Go.Proofs.YtjmofeakajdbiaaDoor
end

set_option linter.unusedVariables false
noncomputable section
namespace Go.Proofs.YtjmofeakajdbiaaDoor
open Go Go.AM
mutual
def L33_2 : Nat → ByteArray → Int → Option (Bool)
  | 0, _, _ => none
  | n + 1, s1, z9 =>
    szF s1 fun z10 => (if z9 < z10 then L33_3 n s1 z9 true else L33_3 n s1 z9 false)
def L33_3 : Nat → ByteArray → Int → Bool → Option (Bool)
  | 0, _, _, _ => none
  | n + 1, s1, z9, b11 =>
    (if b11 = true then atF s1 z9 fun z12 => bO1 (F53 n z12) fun b13 => letB (!b13) fun b14 => (if b14 = true then some false else letF (IntKind.wrap .i64 (z9 + 1)) fun z15 => L33_2 n s1 z15) else some true)
end
def L33_1 : Nat → ByteArray → Bool → Option (Bool)
  | 0, _, _ => none
  | n + 1, s1, b8 =>
    (if b8 = true then some false else L33_2 n s1 (0 : Int))
def F33 (n : Nat) (s1 : ByteArray) (z2 : Int) (z3 : Int) : Option (Bool) :=
  (if s1 = ByteArray.empty then L33_1 n s1 true else szF s1 fun z4 => (if (16 : Int) < z4 then L33_1 n s1 true else atF s1 (0 : Int) fun z5 => (if z5 < z2 then L33_1 n s1 true else atF s1 (0 : Int) fun z6 => (if z3 < z6 then L33_1 n s1 true else bO1 (F12 n s1) fun b7 => L33_1 n s1 b7))))
set_option maxRecDepth 100000 in
set_option maxHeartbeats 40000000 in
theorem T33 (n : Nat) : ∀ ⦃s1 : ByteArray⦄ ⦃z2 : Int⦄ ⦃z3 : Int⦄ ⦃r1 : Bool⦄, F33 n s1 z2 z3 = some r1 →
    Trip Tryd.prog inv 33 [.d (.str s1), .d (.int .u8 z2), .d (.int .u8 z3)] [] (.v (.d (.bool r1))) [] [] := by
  intro s1 z2 z3 r1 h
  unfold F33 at h
  refine Trip.of tab_ok tab_one fol Tryd.func33 rfl (by kernel_rfl) rfl rfl rfl (fun M hM hI => ?_)
  try cbv
  refine seq_go ?_
  try cbv
  refine seq_go ?_
  try cbv
  refine seq_join (T := Nat × Bool) (fun t => ⟨[(0, .v (.d (.str s1))), (6, .v (.d (.bool false))), (30, .v (.d (.bool t.2)))], [], 768⟩) (fun t => t.1 ≤ n ∧ L33_1 t.1 s1 t.2 = some r1) ?_ ?_
  · try cbv
    refine splitS (fun e => ?_) (fun e => ?_)
    · replace h := ite_t (bytes_eq.1 e) h
      clear e
      try cbv
      exact join_next (n, true) [0, 6, 30] [] 768 ⟨by omega, h⟩ (by cbv)
    · replace h := ite_f (bytes_ne.1 e) h
      clear e
      try cbv
      replace h := szF_inv M h
      obtain ⟨z4, hz, h⟩ := h
      refine ⟨z4, hz, ?_⟩
      clear hz
      try cbv
      refine splitL (fun e => ?_) (fun e => ?_)
      · replace h := ite_t e h
        clear e
        try cbv
        exact join_next (n, true) [0, 6, 30] [] 768 ⟨by omega, h⟩ (by cbv)
      · replace h := ite_f (Int.not_lt.2 e) h
        clear e
        try cbv
        replace h := atF_inv h
        obtain ⟨z5, hz, h⟩ := h
        refine ⟨z5, hz, ?_⟩
        clear hz
        try cbv
        refine splitL (fun e => ?_) (fun e => ?_)
        · replace h := ite_t e h
          clear e
          try cbv
          exact join_next (n, true) [0, 6, 30] [] 768 ⟨by omega, h⟩ (by cbv)
        · replace h := ite_f (Int.not_lt.2 e) h
          clear e
          try cbv
          replace h := atF_inv h
          obtain ⟨z6, hz, h⟩ := h
          refine ⟨z6, hz, ?_⟩
          clear hz
          try cbv
          refine splitL (fun e => ?_) (fun e => ?_)
          · replace h := ite_t e h
            clear e
            try cbv
            exact join_next (n, true) [0, 6, 30] [] 768 ⟨by omega, h⟩ (by cbv)
          · replace h := ite_f (Int.not_lt.2 e) h
            clear e
            try cbv
            replace h := bO1_inv h
            obtain ⟨b7, hr, h⟩ := h
            refine call_go rfl rfl ?_
            try cbv
            refine call_pure hM hI (T12 _ hr) rfl ?_
            clear hr
            try cbv
            exact join_next (n, b7) [0, 6, 30] [] 768 ⟨by omega, h⟩ (by cbv)
  · clear h
    rintro ⟨m1, b8⟩ ⟨hm1, h⟩
    replace hm1 : m1 ≤ n := hm1
    cases m1 with
    | zero =>
      replace h : L33_1 0 s1 b8 = some r1 := h
      rw [L33_1] at h
      cases h
    | succ m1 =>
      replace h : L33_1 (m1 + 1) s1 b8 = some r1 := h
      rw [L33_1] at h
      try cbv
      cases b8
      · replace h := ite_f Bool.false_ne_true h
        try cbv
        refine seq_go ?_
        try cbv
        refine seq_go ?_
        try cbv
        refine loop_inv (T := Nat × Int) [0, 6, 7] [] 800 (fun t => ⟨[(0, .v (.d (.str s1))), (6, .v (.d (.bool false))), (7, .v (.d (.int .i64 t.2)))], [], 800⟩)
          (fun t => t.1 ≤ m1 ∧ L33_2 t.1 s1 t.2 = some r1) (fun t => t.1) (m1, (0 : Int)) ⟨Nat.le_refl _, h⟩ (by cbv) ?_
        clear h
        rintro ⟨m2, z9⟩ ⟨hm2, h⟩
        replace hm2 : m2 ≤ m1 := hm2
        cases m2 with
        | zero =>
          replace h : L33_2 0 s1 z9 = some r1 := h
          rw [L33_2] at h
          cases h
        | succ m2 =>
          replace h : L33_2 (m2 + 1) s1 z9 = some r1 := h
          rw [L33_2] at h
          try cbv
          refine seq_go ?_
          try cbv
          refine seq_join (T := Nat × Bool) (fun t => ⟨[(0, .v (.d (.str s1))), (6, .v (.d (.bool false))), (7, .v (.d (.int .i64 z9))), (34, .v (.d (.bool t.2)))], [], 928⟩) (fun t => t.1 ≤ m2 ∧ L33_3 t.1 s1 z9 t.2 = some r1) ?_ ?_
          · try cbv
            replace h := szF_inv M h
            obtain ⟨z10, hz, h⟩ := h
            refine ⟨z10, hz, ?_⟩
            clear hz
            try cbv
            refine splitL (fun e => ?_) (fun e => ?_)
            · replace h := ite_t e h
              clear e
              try cbv
              exact join_next (m2, true) [0, 6, 7, 34] [] 928 ⟨by omega, h⟩ (by cbv)
            · replace h := ite_f (Int.not_lt.2 e) h
              clear e
              try cbv
              exact join_next (m2, false) [0, 6, 7, 34] [] 928 ⟨by omega, h⟩ (by cbv)
          · clear h
            rintro ⟨m3, b11⟩ ⟨hm3, h⟩
            replace hm3 : m3 ≤ m2 := hm3
            cases m3 with
            | zero =>
              replace h : L33_3 0 s1 z9 b11 = some r1 := h
              rw [L33_3] at h
              cases h
            | succ m3 =>
              replace h : L33_3 (m3 + 1) s1 z9 b11 = some r1 := h
              rw [L33_3] at h
              try cbv
              cases b11
              · replace h := ite_f Bool.false_ne_true h
                try cbv
                refine seq_go ?_
                try cbv
                obtain rfl := Option.some.inj h
                refine fin_go ?_
                try cbv
                exact ⟨[], rfl, rfl, trivial, trivial, trivial⟩
              · replace h := ite_t rfl h
                try cbv
                refine seq_go ?_
                try cbv
                refine seq_go ?_
                try cbv
                replace h := atF_inv h
                obtain ⟨z12, hz, h⟩ := h
                refine ⟨z12, hz, ?_⟩
                clear hz
                try cbv
                replace h := bO1_inv h
                obtain ⟨b13, hr, h⟩ := h
                refine call_go rfl rfl ?_
                try cbv
                refine call_pure hM hI (T53 _ hr) rfl ?_
                clear hr
                try cbv
                replace h := letB_inv h
                obtain ⟨b14, hz, h⟩ := h
                refine ⟨b14, not_eq' hz, ?_⟩
                clear hz
                try cbv
                cases b14
                · replace h := ite_f Bool.false_ne_true h
                  try cbv
                  replace h := letF_inv h
                  obtain ⟨z15, hz, h⟩ := h
                  refine ⟨z15, hz, ?_⟩
                  clear hz
                  try cbv
                  exact loop_next (m3, z15) [0, 6, 7] [] 800 ⟨by omega, h⟩ (Nat.lt_succ_of_le (by omega)) (by cbv)
                · replace h := ite_t rfl h
                  try cbv
                  refine seq_go ?_
                  try cbv
                  obtain rfl := Option.some.inj h
                  refine fin_go ?_
                  try cbv
                  exact ⟨[], rfl, rfl, trivial, trivial, trivial⟩
      · replace h := ite_t rfl h
        try cbv
        refine seq_go ?_
        try cbv
        obtain rfl := Option.some.inj h
        refine fin_go ?_
        try cbv
        exact ⟨[], rfl, rfl, trivial, trivial, trivial⟩
end Go.Proofs.YtjmofeakajdbiaaDoor
end

set_option linter.unusedVariables false
noncomputable section
namespace Go.Proofs.YtjmofeakajdbiaaDoor
open Go Go.AM
def F14 (n : Nat) (s1 : ByteArray) : Option (Bool) :=
  bO1 (F33 n s1 (97 : Int) (122 : Int)) fun b2 => some b2
set_option maxRecDepth 100000 in
set_option maxHeartbeats 40000000 in
theorem T14 (n : Nat) : ∀ ⦃s1 : ByteArray⦄ ⦃r1 : Bool⦄, F14 n s1 = some r1 →
    Trip Tryd.prog inv 14 [.d (.str s1)] [] (.v (.d (.bool r1))) [] [] := by
  intro s1 r1 h
  unfold F14 at h
  refine Trip.of tab_ok tab_one fol Tryd.func14 rfl (by kernel_rfl) rfl rfl rfl (fun M hM hI => ?_)
  try cbv
  refine seq_go ?_
  try cbv
  refine seq_go ?_
  try cbv
  replace h := bO1_inv h
  obtain ⟨b2, hr, h⟩ := h
  refine call_go rfl rfl ?_
  try cbv
  refine call_pure hM hI (T33 _ hr) rfl ?_
  clear hr
  try cbv
  obtain rfl := Option.some.inj h
  refine fin_go ?_
  try cbv
  exact ⟨[], rfl, rfl, trivial, trivial, trivial⟩
end Go.Proofs.YtjmofeakajdbiaaDoor
end

set_option linter.unusedVariables false
noncomputable section
namespace Go.Proofs.YtjmofeakajdbiaaDoor
open Go Go.AM
def F31x1 (n : Nat) (s1 : ByteArray) : Option (Bool) :=
  (if s1 = ByteArray.empty then some false else szF s1 fun z2 => (if z2 ≤ (16 : Int) then atF s1 (0 : Int) fun z3 => bO1 (F34 n z3) fun b4 => (if b4 = true then bO1 (F51 n s1) fun z5 => szF s1 fun z6 => (if z5 = z6 then bO1 (F11 n s1) fun b7 => letB (!b7) fun b8 => some b8 else some false) else some false) else some false))
set_option maxRecDepth 100000 in
set_option maxHeartbeats 40000000 in
theorem T31x1 (n : Nat) : ∀ ⦃s1 : ByteArray⦄ ⦃r1 : Bool⦄, F31x1 n s1 = some r1 →
    Trip Tryd.prog inv 31 [.d (.str s1), .c (.fn 34 [])] [] (.v (.d (.bool r1))) [] [] := by
  intro s1 r1 h
  unfold F31x1 at h
  refine Trip.of tab_ok tab_one fol Tryd.func31 rfl (by kernel_rfl) rfl rfl rfl (fun M hM hI => ?_)
  try cbv
  refine seq_go ?_
  try cbv
  refine seq_go ?_
  try cbv
  refine splitS (fun e => ?_) (fun e => ?_)
  · replace h := ite_t (bytes_eq.1 e) h
    clear e
    try cbv
    obtain rfl := Option.some.inj h
    refine fin_go ?_
    try cbv
    exact ⟨[], rfl, rfl, trivial, trivial, trivial⟩
  · replace h := ite_f (bytes_ne.1 e) h
    clear e
    try cbv
    replace h := szF_inv M h
    obtain ⟨z2, hz, h⟩ := h
    refine ⟨z2, hz, ?_⟩
    clear hz
    try cbv
    refine splitLe (fun e => ?_) (fun e => ?_)
    · replace h := ite_t e h
      clear e
      try cbv
      replace h := atF_inv h
      obtain ⟨z3, hz, h⟩ := h
      refine ⟨z3, hz, ?_⟩
      clear hz
      try cbv
      replace h := bO1_inv h
      obtain ⟨b4, hr, h⟩ := h
      refine call_go rfl rfl ?_
      try cbv
      refine call_pure hM hI (T34 _ hr) rfl ?_
      clear hr
      try cbv
      cases b4
      · replace h := ite_f Bool.false_ne_true h
        try cbv
        obtain rfl := Option.some.inj h
        refine fin_go ?_
        try cbv
        exact ⟨[], rfl, rfl, trivial, trivial, trivial⟩
      · replace h := ite_t rfl h
        try cbv
        replace h := bO1_inv h
        obtain ⟨z5, hr, h⟩ := h
        refine call_go rfl rfl ?_
        try cbv
        refine call_pure hM hI (T51 _ hr) rfl ?_
        clear hr
        try cbv
        replace h := szF_inv M h
        obtain ⟨z6, hz, h⟩ := h
        refine ⟨z6, hz, ?_⟩
        clear hz
        try cbv
        refine splitI (fun e => ?_) (fun e => ?_)
        · replace h := ite_t e h
          clear e
          try cbv
          replace h := bO1_inv h
          obtain ⟨b7, hr, h⟩ := h
          refine call_go rfl rfl ?_
          try cbv
          refine call_pure hM hI (T11 _ hr) rfl ?_
          clear hr
          try cbv
          replace h := letB_inv h
          obtain ⟨b8, hz, h⟩ := h
          refine ⟨b8, not_eq' hz, ?_⟩
          clear hz
          try cbv
          obtain rfl := Option.some.inj h
          refine fin_go ?_
          try cbv
          exact ⟨[], rfl, rfl, trivial, trivial, trivial⟩
        · replace h := ite_f e h
          clear e
          try cbv
          obtain rfl := Option.some.inj h
          refine fin_go ?_
          try cbv
          exact ⟨[], rfl, rfl, trivial, trivial, trivial⟩
    · replace h := ite_f (Int.not_le.2 e) h
      clear e
      try cbv
      obtain rfl := Option.some.inj h
      refine fin_go ?_
      try cbv
      exact ⟨[], rfl, rfl, trivial, trivial, trivial⟩
end Go.Proofs.YtjmofeakajdbiaaDoor
end

set_option linter.unusedVariables false
noncomputable section
namespace Go.Proofs.YtjmofeakajdbiaaDoor
open Go Go.AM
def F15 (n : Nat) (s1 : ByteArray) : Option (Bool) :=
  bO1 (F31x1 n s1) fun b2 => some b2
set_option maxRecDepth 100000 in
set_option maxHeartbeats 40000000 in
theorem T15 (n : Nat) : ∀ ⦃s1 : ByteArray⦄ ⦃r1 : Bool⦄, F15 n s1 = some r1 →
    Trip Tryd.prog inv 15 [.d (.str s1)] [] (.v (.d (.bool r1))) [] [] := by
  intro s1 r1 h
  unfold F15 at h
  refine Trip.of tab_ok tab_one fol Tryd.func15 rfl (by kernel_rfl) rfl rfl rfl (fun M hM hI => ?_)
  try cbv
  refine seq_go ?_
  try cbv
  refine seq_go ?_
  try cbv
  replace h := bO1_inv h
  obtain ⟨b2, hr, h⟩ := h
  refine call_go rfl rfl ?_
  try cbv
  refine call_pure hM hI (T31x1 _ hr) rfl ?_
  clear hr
  try cbv
  obtain rfl := Option.some.inj h
  refine fin_go ?_
  try cbv
  exact ⟨[], rfl, rfl, trivial, trivial, trivial⟩
end Go.Proofs.YtjmofeakajdbiaaDoor
end

set_option linter.unusedVariables false
noncomputable section
namespace Go.Proofs.YtjmofeakajdbiaaDoor
open Go Go.AM
def F16 (n : Nat) (s1 : ByteArray) : Option (Bool) :=
  bO1 (F33 n s1 (65 : Int) (90 : Int)) fun b2 => some b2
set_option maxRecDepth 100000 in
set_option maxHeartbeats 40000000 in
theorem T16 (n : Nat) : ∀ ⦃s1 : ByteArray⦄ ⦃r1 : Bool⦄, F16 n s1 = some r1 →
    Trip Tryd.prog inv 16 [.d (.str s1)] [] (.v (.d (.bool r1))) [] [] := by
  intro s1 r1 h
  unfold F16 at h
  refine Trip.of tab_ok tab_one fol Tryd.func16 rfl (by kernel_rfl) rfl rfl rfl (fun M hM hI => ?_)
  try cbv
  refine seq_go ?_
  try cbv
  refine seq_go ?_
  try cbv
  replace h := bO1_inv h
  obtain ⟨b2, hr, h⟩ := h
  refine call_go rfl rfl ?_
  try cbv
  refine call_pure hM hI (T33 _ hr) rfl ?_
  clear hr
  try cbv
  obtain rfl := Option.some.inj h
  refine fin_go ?_
  try cbv
  exact ⟨[], rfl, rfl, trivial, trivial, trivial⟩
end Go.Proofs.YtjmofeakajdbiaaDoor
end

set_option linter.unusedVariables false
noncomputable section
namespace Go.Proofs.YtjmofeakajdbiaaDoor
open Go Go.AM

def inZ (lo hi z : Int) : Bool := decide (lo ≤ z ∧ z ≤ hi)
def partZ (z : Int) : Bool := inZ 97 122 z || inZ 65 90 z || inZ 48 57 z || decide (z = 95)
def pB (b : UInt8) : Bool := partZ (b.toNat : Int)
theorem f32 (n : Nat) (z : Int) : F32 n z = some (inZ 97 122 z) := by
  unfold F32 inZ
  grind
theorem f34 (n : Nat) (z : Int) : F34 n z = some (inZ 65 90 z) := by
  unfold F34 inZ
  grind
theorem f67 (n : Nat) (z : Int) : F67 n z = some (inZ 48 57 z) := by
  unfold F67 inZ
  grind
theorem f52 (n : Nat) (z : Int) : F52 n z = some (partZ z) := by
  unfold F52 partZ
  rw [f32, f34, f67]
  simp only [bO1]
  cases inZ 97 122 z <;> cases inZ 65 90 z <;> cases inZ 48 57 z <;> grind
theorem f53 (n : Nat) (z : Int) : F53 n z = some (partZ z) := by
  unfold F53 partZ inZ
  grind

theorem pre_get {α : Type} {l pre rest : List α} {b : α} (h : pre ++ b :: rest = l) : l[pre.length]? = some b := by
  rw [← h, List.getElem?_append_right (Nat.le_refl _)]
  simp

theorem evL51 {s : ByteArray} (hs : s.size ≤ maxLen) : ∀ (rest pre : List UInt8), pre ++ rest = bl s → Ev (fun n => L51_1 n s (pre.length : Int)) (((pre.length + (rest.takeWhile pB).length : Nat) : Int))
  | [], pre, h => by
    refine .succ (.succ (.of fun n => ?_))
    rw [L51_1, szF_eq, ← h, if_neg (by simp), L51_2, if_neg Bool.false_ne_true]
    simp
  | b :: rest, pre, h => by
    have hlt : pre.length < (bl s).length := by rw [← h]; simp
    have hb := pre_get h
    cases hp : pB b with
    | false =>
      refine .succ (.succ (.of fun n => ?_))
      rw [L51_1, szF_eq, if_pos (by omega), atF_get hb, f52]
      simp only [bO1]
      rw [show partZ (b.toNat : Int) = false from hp, L51_2, if_neg Bool.false_ne_true]
      simp [hp]
    | true =>
      have ih := evL51 hs rest (pre ++ [b]) (by simpa using h)
      have e : (pre ++ [b]).length + (rest.takeWhile pB).length = pre.length + ((b :: rest).takeWhile pB).length := by
        simp [hp]; omega
      rw [e] at ih
      refine .succ (.succ (ih.congr fun n => ?_))
      rw [L51_1, szF_eq, if_pos (by omega), atF_get hb, f52]
      simp only [bO1]
      rw [show partZ (b.toNat : Int) = true from hp, L51_2, if_pos rfl]
      simp only [letF]
      rw [wrap_succ (N := (bl s).length) hlt (by rw [← bl_len]; exact hs)]
      simp
theorem ev51 {s : ByteArray} (hs : s.size ≤ maxLen) : Ev (fun n => F51 n s) (((bl s).takeWhile pB).length : Int) := by
  have := evL51 hs (bl s) [] rfl
  unfold F51
  simpa using this

def nm (lo hi : Int) (s : ByteArray) : Bool :=
  match bl s with
  | [] => false
  | b :: r => decide ((b :: r).length ≤ 16) && inZ lo hi (b.toNat : Int) && (b :: r).all pB && !word s
theorem takeWhile_all {α : Type} {p : α → Bool} : ∀ {l : List α}, ((l.takeWhile p).length = l.length) ↔ l.all p = true
  | [] => by simp
  | x :: l => by
    cases h : p x
    · simp [h]
    · simp [h, takeWhile_all (l := l)]
theorem empty_iff {s : ByteArray} : s = ByteArray.empty ↔ bl s = [] := by
  constructor
  · rintro rfl; rfl
  · intro h; exact bl_inj h
theorem ev_nm {G : Nat → Int → Option Bool} {lo hi : Int} (hG : ∀ n z, G n z = some (inZ lo hi z)) {s : ByteArray} (hs : s.size ≤ maxLen) :
    Ev (fun n => (if s = ByteArray.empty then some false else szF s fun z2 => (if z2 ≤ (16 : Int) then atF s (0 : Int) fun z3 => bO1 (G n z3) fun b4 => (if b4 = true then bO1 (F51 n s) fun z5 => szF s fun z6 => (if z5 = z6 then bO1 (F11 n s) fun b7 => letB (!b7) fun b8 => some b8 else some false) else some false) else some false))) (nm lo hi s) := by
  cases h : bl s with
  | nil =>
    have hr : nm lo hi s = false := by unfold nm; rw [h]
    rw [hr]
    exact .of fun n => by rw [if_pos (empty_iff.2 h)]
  | cons b r =>
    have hr : nm lo hi s = (decide ((b :: r).length ≤ 16) && inZ lo hi (b.toNat : Int) && (b :: r).all pB && !word s) := by unfold nm; rw [h]
    rw [hr]
    clear hr
    have hne : s ≠ ByteArray.empty := fun e => by rw [empty_iff.1 e] at h; cases h
    have hb : (bl s)[0]? = some b := by rw [h]; rfl
    by_cases hl : (b :: r).length ≤ 16
    · cases hz : inZ lo hi (b.toNat : Int) with
      | false =>
        refine .of fun n => ?_
        rw [if_neg hne, szF_eq, h, if_pos (by omega), show (0 : Int) = ((0 : Nat) : Int) from rfl, atF_get hb, hG, hz]
        simp [bO1]
      | true =>
        have step : ∀ r', Ev (fun n => bO1 (F51 n s) fun z5 => szF s fun z6 => (if z5 = z6 then bO1 (F11 n s) fun b7 => letB (!b7) fun b8 => some b8 else some false)) r' →
            Ev (fun n => (if s = ByteArray.empty then some false else szF s fun z2 => (if z2 ≤ (16 : Int) then atF s (0 : Int) fun z3 => bO1 (G n z3) fun b4 => (if b4 = true then bO1 (F51 n s) fun z5 => szF s fun z6 => (if z5 = z6 then bO1 (F11 n s) fun b7 => letB (!b7) fun b8 => some b8 else some false) else some false) else some false))) r' := fun r' hr => hr.congr fun n => by
          rw [if_neg hne, szF_eq (s := s) (k := fun z2 => if z2 ≤ (16 : Int) then _ else _), h, if_pos (by omega), show (0 : Int) = ((0 : Nat) : Int) from rfl, atF_get hb, hG, hz]
          simp [bO1]
        refine step _ (Ev.bO1 (ev51 hs) ?_)
        cases ha : (b :: r).all pB with
        | false =>
          refine .of fun n => ?_
          rw [szF_eq, if_neg]
          · simp
          · intro e
            have : ((bl s).takeWhile pB).length = (bl s).length := by omega
            rw [takeWhile_all, h, ha] at this
            cases this
        | true =>
          refine Ev.congr (A := fun n => bO1 (F11 n s) fun b7 => letB (!b7) fun b8 => some b8) ?_ fun n => ?_
          · refine Ev.bO1 (ev11 s) (.of fun n => ?_)
            simp only [letB, decide_eq_true hl, Bool.true_and]
          · rw [szF_eq, if_pos]
            have := takeWhile_all.2 (h ▸ ha : (bl s).all pB = true)
            omega
    · refine .of fun n => ?_
      rw [if_neg hne, szF_eq, h, if_neg (by omega), decide_eq_false hl]
      rfl
theorem ev31 {s : ByteArray} (hs : s.size ≤ maxLen) : Ev (fun n => F31 n s) (nm 97 122 s) := ev_nm f32 hs
theorem ev31x1 {s : ByteArray} (hs : s.size ≤ maxLen) : Ev (fun n => F31x1 n s) (nm 65 90 s) := ev_nm f34 hs
theorem ev13 {s : ByteArray} (hs : s.size ≤ maxLen) : Ev (fun n => F13 n s) (nm 97 122 s) := Ev.bO1 (ev31 hs) .ret
theorem ev15 {s : ByteArray} (hs : s.size ≤ maxLen) : Ev (fun n => F15 n s) (nm 65 90 s) := Ev.bO1 (ev31x1 hs) .ret

theorem evL33 {s : ByteArray} (hs : s.size ≤ maxLen) : ∀ (rest pre : List UInt8), pre ++ rest = bl s → Ev (fun n => L33_2 n s (pre.length : Int)) (rest.all pB)
  | [], pre, h => by
    refine .succ (.succ (.of fun n => ?_))
    rw [L33_2, szF_eq, ← h, if_neg (by simp), L33_3, if_neg Bool.false_ne_true]
    simp
  | b :: rest, pre, h => by
    have hlt : pre.length < (bl s).length := by rw [← h]; simp
    have hb := pre_get h
    cases hp : pB b with
    | false =>
      refine .succ (.succ (.of fun n => ?_))
      rw [L33_2, szF_eq, if_pos (by omega), L33_3, if_pos rfl, atF_get hb, f53]
      simp only [bO1, letB]
      rw [show partZ (b.toNat : Int) = false from hp]
      simp [hp]
    | true =>
      have ih := evL33 hs rest (pre ++ [b]) (by simpa using h)
      refine .succ (.succ (Ev.congr (r := (b :: rest).all pB) (by simpa [hp] using ih) fun n => ?_))
      rw [L33_2, szF_eq, if_pos (by omega), L33_3, if_pos rfl, atF_get hb, f53]
      simp only [bO1, letB]
      rw [show partZ (b.toNat : Int) = true from hp]
      simp only [letF, Bool.not_true, Bool.false_eq_true, if_false]
      rw [wrap_succ (N := (bl s).length) hlt (by rw [← bl_len]; exact hs)]
      simp
theorem ev33 {s : ByteArray} (hs : s.size ≤ maxLen) (lo hi : Int) : Ev (fun n => F33 n s lo hi) (nm lo hi s) := by
  have t : ∀ n, L33_1 (n + 1) s true = some false := fun n => by rw [L33_1, if_pos rfl]
  cases h : bl s with
  | nil =>
    have hr : nm lo hi s = false := by unfold nm; rw [h]
    rw [hr]
    exact .succ (.of fun n => by unfold F33; rw [if_pos (empty_iff.2 h), t])
  | cons b r =>
    have hr : nm lo hi s = (decide ((b :: r).length ≤ 16) && inZ lo hi (b.toNat : Int) && (b :: r).all pB && !word s) := by unfold nm; rw [h]
    rw [hr]
    clear hr
    have hne : s ≠ ByteArray.empty := fun e => by rw [empty_iff.1 e] at h; cases h
    have hb : (bl s)[0]? = some b := by rw [h]; rfl
    have z0 : (0 : Int) = ((0 : Nat) : Int) := rfl
    by_cases hl : (b :: r).length ≤ 16
    · by_cases h1 : (b.toNat : Int) < lo
      · refine .succ (.of fun n => ?_)
        unfold F33
        rw [if_neg hne, szF_eq, h, if_neg (by omega), z0, atF_get hb, if_pos h1, t]
        simp [inZ, show ¬ lo ≤ (b.toNat : Int) by omega]
      · by_cases h2 : hi < (b.toNat : Int)
        · refine .succ (.of fun n => ?_)
          unfold F33
          rw [if_neg hne, szF_eq, h, if_neg (by omega), z0, atF_get hb, if_neg h1, atF_get hb, if_pos h2, t]
          simp [inZ, show ¬ (b.toNat : Int) ≤ hi by omega]
        · have hin : inZ lo hi (b.toNat : Int) = true := by simp [inZ]; omega
          refine Ev.congr (A := fun n => bO1 (F12 n s) fun b7 => L33_1 n s b7) (Ev.bO1 (ev12 s) ?_) fun n => ?_
          · cases hw : word s with
            | true => exact .succ (.of fun n => by rw [t]; simp)
            | false =>
              refine .succ ?_
              have h9 : Ev (fun n => L33_2 n s ((0 : Nat) : Int)) ((bl s).all pB) := evL33 hs (bl s) [] rfl
              have h8 : Ev (fun n => L33_1 (n + 1) s false) ((bl s).all pB) := h9.congr fun n => by rw [L33_1, if_neg Bool.false_ne_true]; rfl
              rw [h] at h8
              rw [decide_eq_true hl, hin, Bool.true_and, Bool.true_and, Bool.not_false, Bool.and_true]
              exact h8
          · unfold F33
            rw [if_neg hne, szF_eq, h, if_neg (by omega), z0, atF_get hb, if_neg h1, atF_get hb, if_neg h2]
    · refine .succ (.of fun n => ?_)
      unfold F33
      rw [if_neg hne, szF_eq, h, if_pos (by omega), t, decide_eq_false hl]
      rfl
theorem ev14 {s : ByteArray} (hs : s.size ≤ maxLen) : Ev (fun n => F14 n s) (nm 97 122 s) := Ev.bO1 (ev33 hs 97 122) .ret
theorem ev16 {s : ByteArray} (hs : s.size ≤ maxLen) : Ev (fun n => F16 n s) (nm 65 90 s) := Ev.bO1 (ev33 hs 65 90) .ret
end Go.Proofs.YtjmofeakajdbiaaDoor

set_option linter.unusedVariables false
noncomputable section
namespace Go.Proofs.YtjmofeakajdbiaaDoor
open Go Go.AM
def L54_1 : Nat → ByteArray → Int → Bool → Option (Int)
  | 0, _, _, _ => none
  | n + 1, s1, z2, b5 =>
    (if b5 = true then some (-1 : Int) else letF (IntKind.wrap .i64 (z2 - 5)) fun z6 => szF s1 fun z7 => letF (IntKind.wrap .i64 (z6 - z7)) fun z8 => some z8)
def F54 (n : Nat) (s1 : ByteArray) (z2 : Int) : Option (Int) :=
  (if z2 < (5 : Int) then L54_1 n s1 z2 true else szF s1 fun z3 => letF (IntKind.wrap .i64 (z2 - 5)) fun z4 => (if z4 < z3 then L54_1 n s1 z2 true else L54_1 n s1 z2 false))
set_option maxRecDepth 100000 in
set_option maxHeartbeats 40000000 in
theorem T54 (n : Nat) : ∀ ⦃s1 : ByteArray⦄ ⦃z2 : Int⦄ ⦃r1 : Int⦄, F54 n s1 z2 = some r1 →
    Trip Tryd.prog inv 54 [.c (.ptr (.ext 0) 0), .d (.str s1)] [.cells [.d (.int .i64 z2)]] (.t []) [.cells [.d (.int .i64 r1)]] [] := by
  intro s1 z2 r1 h
  unfold F54 at h
  refine Trip.of tab_ok tab_one fol Tryd.func54 rfl (by kernel_rfl) rfl rfl rfl (fun M hM hI => ?_)
  try cbv
  refine seq_go ?_
  try cbv
  refine seq_join (T := Nat × Bool) (fun t => ⟨[(0, .v (.c (.ptr (.ext 0) 0))), (1, .v (.d (.str s1))), (18, .v (.d (.bool t.2)))], [(.ext 0, .cells [.d (.int .i64 z2)])], 480⟩) (fun t => t.1 ≤ n ∧ L54_1 t.1 s1 z2 t.2 = some r1) ?_ ?_
  · try cbv
    refine splitL (fun e => ?_) (fun e => ?_)
    · replace h := ite_t e h
      clear e
      try cbv
      exact join_next (n, true) [0, 1, 18] [.ext 0] 480 ⟨by omega, h⟩ (by cbv)
    · replace h := ite_f (Int.not_lt.2 e) h
      clear e
      try cbv
      replace h := szF_inv M h
      obtain ⟨z3, hz, h⟩ := h
      refine ⟨z3, hz, ?_⟩
      clear hz
      try cbv
      replace h := letF_inv h
      obtain ⟨z4, hz, h⟩ := h
      refine ⟨z4, hz, ?_⟩
      clear hz
      try cbv
      refine splitL (fun e => ?_) (fun e => ?_)
      · replace h := ite_t e h
        clear e
        try cbv
        exact join_next (n, true) [0, 1, 18] [.ext 0] 480 ⟨by omega, h⟩ (by cbv)
      · replace h := ite_f (Int.not_lt.2 e) h
        clear e
        try cbv
        exact join_next (n, false) [0, 1, 18] [.ext 0] 480 ⟨by omega, h⟩ (by cbv)
  · clear h
    rintro ⟨m1, b5⟩ ⟨hm1, h⟩
    replace hm1 : m1 ≤ n := hm1
    cases m1 with
    | zero =>
      replace h : L54_1 0 s1 z2 b5 = some r1 := h
      rw [L54_1] at h
      cases h
    | succ m1 =>
      replace h : L54_1 (m1 + 1) s1 z2 b5 = some r1 := h
      rw [L54_1] at h
      try cbv
      cases b5
      · replace h := ite_f Bool.false_ne_true h
        try cbv
        replace h := letF_inv h
        obtain ⟨z6, hz, h⟩ := h
        refine ⟨z6, hz, ?_⟩
        clear hz
        try cbv
        replace h := szF_inv M h
        obtain ⟨z7, hz, h⟩ := h
        refine ⟨z7, hz, ?_⟩
        clear hz
        try cbv
        replace h := letF_inv h
        obtain ⟨z8, hz, h⟩ := h
        refine ⟨z8, hz, ?_⟩
        clear hz
        try cbv
        obtain rfl := Option.some.inj h
        refine fin_go ?_
        try cbv
        exact ⟨[], rfl, rfl, ⟨rfl, trivial⟩, trivial, trivial⟩
      · replace h := ite_t rfl h
        try cbv
        refine seq_go ?_
        try cbv
        obtain rfl := Option.some.inj h
        refine fin_go ?_
        try cbv
        exact ⟨[], rfl, rfl, ⟨rfl, trivial⟩, trivial, trivial⟩
end Go.Proofs.YtjmofeakajdbiaaDoor
end

set_option linter.unusedVariables false
noncomputable section
namespace Go.Proofs.YtjmofeakajdbiaaDoor
open Go Go.AM
mutual
def L35_1 : Nat → (List D) → Int → Int → Option (Int)
  | 0, _, _, _ => none
  | n + 1, l3, z6, z7 =>
    lenF l3 fun z8 => (if z6 < z8 then (if (0 : Int) ≤ z7 then L35_2 n l3 z6 z7 true else L35_2 n l3 z6 z7 false) else L35_2 n l3 z6 z7 false)
def L35_2 : Nat → (List D) → Int → Int → Bool → Option (Int)
  | 0, _, _, _, _ => none
  | n + 1, l3, z6, z7, b9 =>
    (if b9 = true then getF l3 z6 fun x10 => ds_t25 x10 fun z11 s12 l13 => bO1 (F35 n z11 s12 l13 z7) fun z14 => letF (IntKind.wrap .i64 (z6 + 1)) fun z15 => L35_1 n l3 z15 z14 else some z7)
def F35 : Nat → Int → ByteArray → (List D) → Int → Option (Int)
  | 0, _, _, _, _ => none
  | n + 1, z1, s2, l3, z4 =>
    bO1 (F54 n s2 z4) fun z5 => L35_1 n l3 (0 : Int) z5
end
set_option maxRecDepth 100000 in
set_option maxHeartbeats 40000000 in
theorem T35 (n : Nat) : ∀ ⦃z1 : Int⦄ ⦃s2 : ByteArray⦄ ⦃l3 : List D⦄ ⦃z4 : Int⦄ ⦃r1 : Int⦄, F35 n z1 s2 l3 z4 = some r1 →
    Trip Tryd.prog inv 35 [.c (.ptr (.ext 0) 0), .d (.agg [.int .u8 z1, .str s2, .list true 3 l3])] [.cells [.d (.int .i64 z4)]] (.t []) [.cells [.d (.int .i64 r1)]] [] := by
  induction n using Nat.strongRecOn with
  | _ n ih =>
    cases n with
    | zero =>
      intro z1 s2 l3 z4 r1 h
      cases (show (none : Option _) = some _ from h)
    | succ n =>
      intro z1 s2 l3 z4 r1 h
      rw [F35] at h
      refine Trip.of tab_ok tab_one fol Tryd.func35 rfl (by kernel_rfl) rfl rfl rfl (fun M hM hI => ?_)
      try cbv
      refine seq_go ?_
      try cbv
      refine seq_go ?_
      try cbv
      replace h := bO1_inv h
      obtain ⟨z5, hr, h⟩ := h
      refine call_go rfl rfl ?_
      try cbv
      refine call_with hM hI [.ext 0] (T54 _ hr) rfl (by simp) ⟨rfl, trivial⟩ ⟨trivial, trivial⟩ (by simp) ?_
      clear hr
      try cbv
      refine seq_go ?_
      try cbv
      refine loop_inv (T := Nat × Int × Int) [0, 3, 4] [.ext 0, .loc 0] 192 (fun t => ⟨[(0, .v (.c (.ptr (.ext 0) 0))), (3, .v (.c (.ptr (.loc 0) 0))), (4, .v (.d (.int .i64 t.2.1)))], [(.ext 0, .cells [.d (.int .i64 t.2.2)]), (.loc 0, .cells [.d (.int .u8 z1), .d (.str s2), .d (.list true 3 l3)])], 192⟩)
        (fun t => t.1 ≤ n ∧ L35_1 t.1 l3 t.2.1 t.2.2 = some r1) (fun t => t.1) (n, ((0 : Int), z5)) ⟨Nat.le_refl _, h⟩ (by cbv) ?_
      clear h
      rintro ⟨m1, z6, z7⟩ ⟨hm1, h⟩
      replace hm1 : m1 ≤ n := hm1
      cases m1 with
      | zero =>
        replace h : L35_1 0 l3 z6 z7 = some r1 := h
        rw [L35_1] at h
        cases h
      | succ m1 =>
        replace h : L35_1 (m1 + 1) l3 z6 z7 = some r1 := h
        rw [L35_1] at h
        try cbv
        refine seq_go ?_
        try cbv
        refine seq_join (T := Nat × Bool) (fun t => ⟨[(0, .v (.c (.ptr (.ext 0) 0))), (3, .v (.c (.ptr (.loc 0) 0))), (4, .v (.d (.int .i64 z6))), (20, .v (.d (.bool t.2)))], [(.ext 0, .cells [.d (.int .i64 z7)]), (.loc 0, .cells [.d (.int .u8 z1), .d (.str s2), .d (.list true 3 l3)])], 576⟩) (fun t => t.1 ≤ m1 ∧ L35_2 t.1 l3 z6 z7 t.2 = some r1) ?_ ?_
        · try cbv
          replace h := lenF_inv M h
          obtain ⟨z8, hz, h⟩ := h
          refine ⟨z8, hz, ?_⟩
          clear hz
          try cbv
          refine splitL (fun e => ?_) (fun e => ?_)
          · replace h := ite_t e h
            clear e
            try cbv
            refine splitLe (fun e => ?_) (fun e => ?_)
            · replace h := ite_t e h
              clear e
              try cbv
              exact join_next (m1, true) [0, 3, 4, 20] [.ext 0, .loc 0] 576 ⟨by omega, h⟩ (by cbv)
            · replace h := ite_f (Int.not_le.2 e) h
              clear e
              try cbv
              exact join_next (m1, false) [0, 3, 4, 20] [.ext 0, .loc 0] 576 ⟨by omega, h⟩ (by cbv)
          · replace h := ite_f (Int.not_lt.2 e) h
            clear e
            try cbv
            exact join_next (m1, false) [0, 3, 4, 20] [.ext 0, .loc 0] 576 ⟨by omega, h⟩ (by cbv)
        · clear h
          rintro ⟨m2, b9⟩ ⟨hm2, h⟩
          replace hm2 : m2 ≤ m1 := hm2
          cases m2 with
          | zero =>
            replace h : L35_2 0 l3 z6 z7 b9 = some r1 := h
            rw [L35_2] at h
            cases h
          | succ m2 =>
            replace h : L35_2 (m2 + 1) l3 z6 z7 b9 = some r1 := h
            rw [L35_2] at h
            try cbv
            cases b9
            · replace h := ite_f Bool.false_ne_true h
              try cbv
              obtain rfl := Option.some.inj h
              refine fin_go ?_
              try cbv
              exact ⟨[], rfl, rfl, ⟨rfl, trivial⟩, trivial, trivial⟩
            · replace h := ite_t rfl h
              try cbv
              refine seq_go ?_
              try cbv
              replace h := getF_inv h
              obtain ⟨x10, ⟨hx0, hx⟩, h⟩ := h
              refine ⟨x10, hx0, hx, ?_⟩
              clear hx0 hx
              replace h := ds_t25_inv h
              obtain ⟨z11, s12, l13, rfl, h⟩ := h
              try cbv
              replace h := bO1_inv h
              obtain ⟨z14, hr, h⟩ := h
              refine call_go rfl rfl ?_
              try cbv
              refine call_with hM hI [.ext 0] ((ih _ (by omega)) hr) rfl (by simp) ⟨rfl, trivial⟩ ⟨trivial, trivial⟩ (by simp) ?_
              clear hr
              try cbv
              replace h := letF_inv h
              obtain ⟨z15, hz, h⟩ := h
              refine ⟨z15, hz, ?_⟩
              clear hz
              try cbv
              exact loop_next (m2, (z15, z14)) [0, 3, 4] [.ext 0, .loc 0] 192 ⟨by omega, h⟩ (Nat.lt_succ_of_le (by omega)) (by cbv)
end Go.Proofs.YtjmofeakajdbiaaDoor
end

set_option linter.unusedVariables false
noncomputable section
namespace Go.Proofs.YtjmofeakajdbiaaDoor
open Go Go.AM
def F17 (n : Nat) (z1 : Int) (s2 : ByteArray) (l3 : List D) : Option (Bool) :=
  bO1 (F35 n z1 s2 l3 (20000 : Int)) fun z4 => (if z4 < (0 : Int) then some true else some false)
set_option maxRecDepth 100000 in
set_option maxHeartbeats 40000000 in
theorem T17 (n : Nat) : ∀ ⦃z1 : Int⦄ ⦃s2 : ByteArray⦄ ⦃l3 : List D⦄ ⦃r1 : Bool⦄, F17 n z1 s2 l3 = some r1 →
    Trip Tryd.prog inv 17 [.d (.agg [.int .u8 z1, .str s2, .list true 3 l3])] [] (.v (.d (.bool r1))) [] [] := by
  intro z1 s2 l3 r1 h
  unfold F17 at h
  refine Trip.of tab_ok tab_one fol Tryd.func17 rfl (by kernel_rfl) rfl rfl rfl (fun M hM hI => ?_)
  try cbv
  refine seq_go ?_
  try cbv
  refine seq_go ?_
  try cbv
  refine seq_go ?_
  try cbv
  replace h := bO1_inv h
  obtain ⟨z4, hr, h⟩ := h
  refine call_go rfl rfl ?_
  try cbv
  refine call_with hM hI [.loc 96] (T35 _ hr) rfl (by simp) ⟨rfl, trivial⟩ ⟨trivial, trivial⟩ (by simp) ?_
  clear hr
  try cbv
  refine seq_go ?_
  try cbv
  refine splitL (fun e => ?_) (fun e => ?_)
  · replace h := ite_t e h
    clear e
    try cbv
    obtain rfl := Option.some.inj h
    refine fin_go ?_
    try cbv
    exact ⟨[], rfl, rfl, trivial, trivial, trivial⟩
  · replace h := ite_f (Int.not_lt.2 e) h
    clear e
    try cbv
    obtain rfl := Option.some.inj h
    refine fin_go ?_
    try cbv
    exact ⟨[], rfl, rfl, trivial, trivial, trivial⟩
end Go.Proofs.YtjmofeakajdbiaaDoor
end

set_option linter.unusedVariables false
noncomputable section
namespace Go.Proofs.YtjmofeakajdbiaaDoor
open Go Go.AM
mutual
def L72_1 : Nat → (List D) → Int → Int → Option (Int)
  | 0, _, _, _ => none
  | n + 1, l1, z4, z5 =>
    lenF l1 fun z6 => (if z4 < z6 then (if (0 : Int) ≤ z5 then L72_2 n l1 z4 z5 true else L72_2 n l1 z4 z5 false) else L72_2 n l1 z4 z5 false)
def L72_2 : Nat → (List D) → Int → Int → Bool → Option (Int)
  | 0, _, _, _, _ => none
  | n + 1, l1, z4, z5, b7 =>
    (if b7 = true then getF l1 z4 fun x8 => ds_str x8 fun s9 => bO1 (F54 n s9 z5) fun z10 => letF (IntKind.wrap .i64 (z4 + 1)) fun z11 => L72_1 n l1 z11 z10 else some z5)
end
def F72 (n : Nat) (l1 : List D) (z2 : Int) : Option (Int) :=
  letF (IntKind.wrap .i64 (z2 - 5)) fun z3 => L72_1 n l1 (0 : Int) z3
set_option maxRecDepth 100000 in
set_option maxHeartbeats 40000000 in
theorem T72 (n : Nat) : ∀ ⦃l1 : List D⦄ ⦃z2 : Int⦄ ⦃r1 : Int⦄, F72 n l1 z2 = some r1 →
    Trip Tryd.prog inv 72 [.c (.ptr (.ext 0) 0), .d (.list false 1 l1)] [.cells [.d (.int .i64 z2)]] (.t []) [.cells [.d (.int .i64 r1)]] [] := by
  intro l1 z2 r1 h
  unfold F72 at h
  refine Trip.of tab_ok tab_one fol Tryd.func72 rfl (by kernel_rfl) rfl rfl rfl (fun M hM hI => ?_)
  try cbv
  refine seq_go ?_
  try cbv
  replace h := letF_inv h
  obtain ⟨z3, hz, h⟩ := h
  refine ⟨z3, hz, ?_⟩
  clear hz
  try cbv
  refine seq_go ?_
  try cbv
  refine loop_inv (T := Nat × Int × Int) [0, 1, 4] [.ext 0] 320 (fun t => ⟨[(0, .v (.c (.ptr (.ext 0) 0))), (1, .v (.d (.list false 1 l1))), (4, .v (.d (.int .i64 t.2.1)))], [(.ext 0, .cells [.d (.int .i64 t.2.2)])], 320⟩)
    (fun t => t.1 ≤ n ∧ L72_1 t.1 l1 t.2.1 t.2.2 = some r1) (fun t => t.1) (n, ((0 : Int), z3)) ⟨Nat.le_refl _, h⟩ (by cbv) ?_
  clear h
  rintro ⟨m1, z4, z5⟩ ⟨hm1, h⟩
  replace hm1 : m1 ≤ n := hm1
  cases m1 with
  | zero =>
    replace h : L72_1 0 l1 z4 z5 = some r1 := h
    rw [L72_1] at h
    cases h
  | succ m1 =>
    replace h : L72_1 (m1 + 1) l1 z4 z5 = some r1 := h
    rw [L72_1] at h
    try cbv
    refine seq_go ?_
    try cbv
    refine seq_join (T := Nat × Bool) (fun t => ⟨[(0, .v (.c (.ptr (.ext 0) 0))), (1, .v (.d (.list false 1 l1))), (4, .v (.d (.int .i64 z4))), (23, .v (.d (.bool t.2)))], [(.ext 0, .cells [.d (.int .i64 z5)])], 672⟩) (fun t => t.1 ≤ m1 ∧ L72_2 t.1 l1 z4 z5 t.2 = some r1) ?_ ?_
    · try cbv
      replace h := lenF_inv M h
      obtain ⟨z6, hz, h⟩ := h
      refine ⟨z6, hz, ?_⟩
      clear hz
      try cbv
      refine splitL (fun e => ?_) (fun e => ?_)
      · replace h := ite_t e h
        clear e
        try cbv
        refine splitLe (fun e => ?_) (fun e => ?_)
        · replace h := ite_t e h
          clear e
          try cbv
          exact join_next (m1, true) [0, 1, 4, 23] [.ext 0] 672 ⟨by omega, h⟩ (by cbv)
        · replace h := ite_f (Int.not_le.2 e) h
          clear e
          try cbv
          exact join_next (m1, false) [0, 1, 4, 23] [.ext 0] 672 ⟨by omega, h⟩ (by cbv)
      · replace h := ite_f (Int.not_lt.2 e) h
        clear e
        try cbv
        exact join_next (m1, false) [0, 1, 4, 23] [.ext 0] 672 ⟨by omega, h⟩ (by cbv)
    · clear h
      rintro ⟨m2, b7⟩ ⟨hm2, h⟩
      replace hm2 : m2 ≤ m1 := hm2
      cases m2 with
      | zero =>
        replace h : L72_2 0 l1 z4 z5 b7 = some r1 := h
        rw [L72_2] at h
        cases h
      | succ m2 =>
        replace h : L72_2 (m2 + 1) l1 z4 z5 b7 = some r1 := h
        rw [L72_2] at h
        try cbv
        cases b7
        · replace h := ite_f Bool.false_ne_true h
          try cbv
          obtain rfl := Option.some.inj h
          refine fin_go ?_
          try cbv
          exact ⟨[], rfl, rfl, ⟨rfl, trivial⟩, trivial, trivial⟩
        · replace h := ite_t rfl h
          try cbv
          refine seq_go ?_
          try cbv
          replace h := getF_inv h
          obtain ⟨x8, ⟨hx0, hx⟩, h⟩ := h
          refine ⟨x8, hx0, hx, ?_⟩
          clear hx0 hx
          replace h := ds_str_inv h
          obtain ⟨s9, rfl, h⟩ := h
          try cbv
          replace h := bO1_inv h
          obtain ⟨z10, hr, h⟩ := h
          refine call_go rfl rfl ?_
          try cbv
          refine call_with hM hI [.ext 0] (T54 _ hr) rfl (by simp) ⟨rfl, trivial⟩ ⟨trivial, trivial⟩ (by simp) ?_
          clear hr
          try cbv
          replace h := letF_inv h
          obtain ⟨z11, hz, h⟩ := h
          refine ⟨z11, hz, ?_⟩
          clear hz
          try cbv
          exact loop_next (m2, (z11, z10)) [0, 1, 4] [.ext 0] 320 ⟨by omega, h⟩ (Nat.lt_succ_of_le (by omega)) (by cbv)
end Go.Proofs.YtjmofeakajdbiaaDoor
end

set_option linter.unusedVariables false
noncomputable section
namespace Go.Proofs.YtjmofeakajdbiaaDoor
open Go Go.AM
def F55 (n : Nat) (s1 : ByteArray) (l2 : List D) (z3 : Int) : Option (Int) :=
  bO1 (F54 n s1 z3) fun z4 => bO1 (F72 n l2 z4) fun z5 => some z5
set_option maxRecDepth 100000 in
set_option maxHeartbeats 40000000 in
theorem T55 (n : Nat) : ∀ ⦃s1 : ByteArray⦄ ⦃l2 : List D⦄ ⦃z3 : Int⦄ ⦃r1 : Int⦄, F55 n s1 l2 z3 = some r1 →
    Trip Tryd.prog inv 55 [.c (.ptr (.ext 0) 0), .d (.agg [.str s1, .list false 1 l2])] [.cells [.d (.int .i64 z3)]] (.t []) [.cells [.d (.int .i64 r1)]] [] := by
  intro s1 l2 z3 r1 h
  unfold F55 at h
  refine Trip.of tab_ok tab_one fol Tryd.func55 rfl (by kernel_rfl) rfl rfl rfl (fun M hM hI => ?_)
  try cbv
  refine seq_go ?_
  try cbv
  refine seq_go ?_
  try cbv
  replace h := bO1_inv h
  obtain ⟨z4, hr, h⟩ := h
  refine call_go rfl rfl ?_
  try cbv
  refine call_with hM hI [.ext 0] (T54 _ hr) rfl (by simp) ⟨rfl, trivial⟩ ⟨trivial, trivial⟩ (by simp) ?_
  clear hr
  try cbv
  replace h := bO1_inv h
  obtain ⟨z5, hr, h⟩ := h
  refine call_go rfl rfl ?_
  try cbv
  refine call_with hM hI [.ext 0] (T72 _ hr) rfl (by simp) ⟨rfl, trivial⟩ ⟨trivial, trivial⟩ (by simp) ?_
  clear hr
  try cbv
  obtain rfl := Option.some.inj h
  refine fin_go ?_
  try cbv
  exact ⟨[], rfl, rfl, ⟨rfl, trivial⟩, trivial, trivial⟩
end Go.Proofs.YtjmofeakajdbiaaDoor
end

set_option linter.unusedVariables false
noncomputable section
namespace Go.Proofs.YtjmofeakajdbiaaDoor
open Go Go.AM
mutual
def L36_1 : Nat → (List D) → Int → Int → Option (Int)
  | 0, _, _, _ => none
  | n + 1, l7, z13, z14 =>
    lenF l7 fun z15 => (if z13 < z15 then (if (0 : Int) ≤ z14 then L36_2 n l7 z13 z14 true else L36_2 n l7 z13 z14 false) else L36_2 n l7 z13 z14 false)
def L36_2 : Nat → (List D) → Int → Int → Bool → Option (Int)
  | 0, _, _, _, _ => none
  | n + 1, l7, z13, z14, b16 =>
    (if b16 = true then getF l7 z13 fun x17 => ds_t31 x17 fun z18 z19 s20 s21 s22 l23 l24 z25 => bO1 (F36 n z18 z19 s20 s21 s22 l23 l24 z25 z14) fun z26 => letF (IntKind.wrap .i64 (z13 + 1)) fun z27 => L36_1 n l7 z27 z26 else some z14)
def F36 : Nat → Int → Int → ByteArray → ByteArray → ByteArray → (List D) → (List D) → Int → Int → Option (Int)
  | 0, _, _, _, _, _, _, _, _, _ => none
  | n + 1, z1, z2, s3, s4, s5, l6, l7, z8, z9 =>
    bO1 (F54 n s3 z9) fun z10 => bO1 (F54 n s4 z10) fun z11 => bO1 (F55 n s5 l6 z11) fun z12 => L36_1 n l7 (0 : Int) z12
end
set_option maxRecDepth 100000 in
set_option maxHeartbeats 40000000 in
theorem T36 (n : Nat) : ∀ ⦃z1 : Int⦄ ⦃z2 : Int⦄ ⦃s3 : ByteArray⦄ ⦃s4 : ByteArray⦄ ⦃s5 : ByteArray⦄ ⦃l6 : List D⦄ ⦃l7 : List D⦄ ⦃z8 : Int⦄ ⦃z9 : Int⦄ ⦃r1 : Int⦄, F36 n z1 z2 s3 s4 s5 l6 l7 z8 z9 = some r1 →
    Trip Tryd.prog inv 36 [.c (.ptr (.ext 0) 0), .d (.agg [.int .u8 z1, .int .i64 z2, .str s3, .str s4, .str s5, .list false 1 l6, .list true 8 l7, .int .i64 z8])] [.cells [.d (.int .i64 z9)]] (.t []) [.cells [.d (.int .i64 r1)]] [] := by
  induction n using Nat.strongRecOn with
  | _ n ih =>
    cases n with
    | zero =>
      intro z1 z2 s3 s4 s5 l6 l7 z8 z9 r1 h
      cases (show (none : Option _) = some _ from h)
    | succ n =>
      intro z1 z2 s3 s4 s5 l6 l7 z8 z9 r1 h
      rw [F36] at h
      refine Trip.of tab_ok tab_one fol Tryd.func36 rfl (by kernel_rfl) rfl rfl rfl (fun M hM hI => ?_)
      try cbv
      refine seq_go ?_
      try cbv
      refine seq_go ?_
      try cbv
      replace h := bO1_inv h
      obtain ⟨z10, hr, h⟩ := h
      refine call_go rfl rfl ?_
      try cbv
      refine call_with hM hI [.ext 0] (T54 _ hr) rfl (by simp) ⟨rfl, trivial⟩ ⟨trivial, trivial⟩ (by simp) ?_
      clear hr
      try cbv
      refine seq_go ?_
      try cbv
      replace h := bO1_inv h
      obtain ⟨z11, hr, h⟩ := h
      refine call_go rfl rfl ?_
      try cbv
      refine call_with hM hI [.ext 0] (T54 _ hr) rfl (by simp) ⟨rfl, trivial⟩ ⟨trivial, trivial⟩ (by simp) ?_
      clear hr
      try cbv
      refine seq_go ?_
      try cbv
      replace h := bO1_inv h
      obtain ⟨z12, hr, h⟩ := h
      refine call_go rfl rfl ?_
      try cbv
      refine call_with hM hI [.ext 0] (T55 _ hr) rfl (by simp) ⟨rfl, trivial⟩ ⟨trivial, trivial⟩ (by simp) ?_
      clear hr
      try cbv
      refine seq_go ?_
      try cbv
      refine loop_inv (T := Nat × Int × Int) [0, 3, 4] [.ext 0, .loc 0] 448 (fun t => ⟨[(0, .v (.c (.ptr (.ext 0) 0))), (3, .v (.c (.ptr (.loc 0) 0))), (4, .v (.d (.int .i64 t.2.1)))], [(.ext 0, .cells [.d (.int .i64 t.2.2)]), (.loc 0, .cells [.d (.int .u8 z1), .d (.int .i64 z2), .d (.str s3), .d (.str s4), .d (.str s5), .d (.list false 1 l6), .d (.list true 8 l7), .d (.int .i64 z8)])], 448⟩)
        (fun t => t.1 ≤ n ∧ L36_1 t.1 l7 t.2.1 t.2.2 = some r1) (fun t => t.1) (n, ((0 : Int), z12)) ⟨Nat.le_refl _, h⟩ (by cbv) ?_
      clear h
      rintro ⟨m1, z13, z14⟩ ⟨hm1, h⟩
      replace hm1 : m1 ≤ n := hm1
      cases m1 with
      | zero =>
        replace h : L36_1 0 l7 z13 z14 = some r1 := h
        rw [L36_1] at h
        cases h
      | succ m1 =>
        replace h : L36_1 (m1 + 1) l7 z13 z14 = some r1 := h
        rw [L36_1] at h
        try cbv
        refine seq_go ?_
        try cbv
        refine seq_join (T := Nat × Bool) (fun t => ⟨[(0, .v (.c (.ptr (.ext 0) 0))), (3, .v (.c (.ptr (.loc 0) 0))), (4, .v (.d (.int .i64 z13))), (28, .v (.d (.bool t.2)))], [(.ext 0, .cells [.d (.int .i64 z14)]), (.loc 0, .cells [.d (.int .u8 z1), .d (.int .i64 z2), .d (.str s3), .d (.str s4), .d (.str s5), .d (.list false 1 l6), .d (.list true 8 l7), .d (.int .i64 z8)])], 832⟩) (fun t => t.1 ≤ m1 ∧ L36_2 t.1 l7 z13 z14 t.2 = some r1) ?_ ?_
        · try cbv
          replace h := lenF_inv M h
          obtain ⟨z15, hz, h⟩ := h
          refine ⟨z15, hz, ?_⟩
          clear hz
          try cbv
          refine splitL (fun e => ?_) (fun e => ?_)
          · replace h := ite_t e h
            clear e
            try cbv
            refine splitLe (fun e => ?_) (fun e => ?_)
            · replace h := ite_t e h
              clear e
              try cbv
              exact join_next (m1, true) [0, 3, 4, 28] [.ext 0, .loc 0] 832 ⟨by omega, h⟩ (by cbv)
            · replace h := ite_f (Int.not_le.2 e) h
              clear e
              try cbv
              exact join_next (m1, false) [0, 3, 4, 28] [.ext 0, .loc 0] 832 ⟨by omega, h⟩ (by cbv)
          · replace h := ite_f (Int.not_lt.2 e) h
            clear e
            try cbv
            exact join_next (m1, false) [0, 3, 4, 28] [.ext 0, .loc 0] 832 ⟨by omega, h⟩ (by cbv)
        · clear h
          rintro ⟨m2, b16⟩ ⟨hm2, h⟩
          replace hm2 : m2 ≤ m1 := hm2
          cases m2 with
          | zero =>
            replace h : L36_2 0 l7 z13 z14 b16 = some r1 := h
            rw [L36_2] at h
            cases h
          | succ m2 =>
            replace h : L36_2 (m2 + 1) l7 z13 z14 b16 = some r1 := h
            rw [L36_2] at h
            try cbv
            cases b16
            · replace h := ite_f Bool.false_ne_true h
              try cbv
              obtain rfl := Option.some.inj h
              refine fin_go ?_
              try cbv
              exact ⟨[], rfl, rfl, ⟨rfl, trivial⟩, trivial, trivial⟩
            · replace h := ite_t rfl h
              try cbv
              refine seq_go ?_
              try cbv
              replace h := getF_inv h
              obtain ⟨x17, ⟨hx0, hx⟩, h⟩ := h
              refine ⟨x17, hx0, hx, ?_⟩
              clear hx0 hx
              replace h := ds_t31_inv h
              obtain ⟨z18, z19, s20, s21, s22, l23, l24, z25, rfl, h⟩ := h
              try cbv
              replace h := bO1_inv h
              obtain ⟨z26, hr, h⟩ := h
              refine call_go rfl rfl ?_
              try cbv
              refine call_with hM hI [.ext 0] ((ih _ (by omega)) hr) rfl (by simp) ⟨rfl, trivial⟩ ⟨trivial, trivial⟩ (by simp) ?_
              clear hr
              try cbv
              replace h := letF_inv h
              obtain ⟨z27, hz, h⟩ := h
              refine ⟨z27, hz, ?_⟩
              clear hz
              try cbv
              exact loop_next (m2, (z27, z26)) [0, 3, 4] [.ext 0, .loc 0] 448 ⟨by omega, h⟩ (Nat.lt_succ_of_le (by omega)) (by cbv)
end Go.Proofs.YtjmofeakajdbiaaDoor
end

set_option linter.unusedVariables false
noncomputable section
namespace Go.Proofs.YtjmofeakajdbiaaDoor
open Go Go.AM
def F18 (n : Nat) (z1 : Int) (z2 : Int) (s3 : ByteArray) (s4 : ByteArray) (s5 : ByteArray) (l6 : List D) (l7 : List D) (z8 : Int) : Option (Bool) :=
  bO1 (F36 n z1 z2 s3 s4 s5 l6 l7 z8 (20000 : Int)) fun z9 => (if z9 < (0 : Int) then some true else some false)
set_option maxRecDepth 100000 in
set_option maxHeartbeats 40000000 in
theorem T18 (n : Nat) : ∀ ⦃z1 : Int⦄ ⦃z2 : Int⦄ ⦃s3 : ByteArray⦄ ⦃s4 : ByteArray⦄ ⦃s5 : ByteArray⦄ ⦃l6 : List D⦄ ⦃l7 : List D⦄ ⦃z8 : Int⦄ ⦃r1 : Bool⦄, F18 n z1 z2 s3 s4 s5 l6 l7 z8 = some r1 →
    Trip Tryd.prog inv 18 [.d (.agg [.int .u8 z1, .int .i64 z2, .str s3, .str s4, .str s5, .list false 1 l6, .list true 8 l7, .int .i64 z8])] [] (.v (.d (.bool r1))) [] [] := by
  intro z1 z2 s3 s4 s5 l6 l7 z8 r1 h
  unfold F18 at h
  refine Trip.of tab_ok tab_one fol Tryd.func18 rfl (by kernel_rfl) rfl rfl rfl (fun M hM hI => ?_)
  try cbv
  refine seq_go ?_
  try cbv
  refine seq_go ?_
  try cbv
  refine seq_go ?_
  try cbv
  replace h := bO1_inv h
  obtain ⟨z9, hr, h⟩ := h
  refine call_go rfl rfl ?_
  try cbv
  refine call_with hM hI [.loc 96] (T36 _ hr) rfl (by simp) ⟨rfl, trivial⟩ ⟨trivial, trivial⟩ (by simp) ?_
  clear hr
  try cbv
  refine seq_go ?_
  try cbv
  refine splitL (fun e => ?_) (fun e => ?_)
  · replace h := ite_t e h
    clear e
    try cbv
    obtain rfl := Option.some.inj h
    refine fin_go ?_
    try cbv
    exact ⟨[], rfl, rfl, trivial, trivial, trivial⟩
  · replace h := ite_f (Int.not_lt.2 e) h
    clear e
    try cbv
    obtain rfl := Option.some.inj h
    refine fin_go ?_
    try cbv
    exact ⟨[], rfl, rfl, trivial, trivial, trivial⟩
end Go.Proofs.YtjmofeakajdbiaaDoor
end

set_option linter.unusedVariables false
noncomputable section
namespace Go.Proofs.YtjmofeakajdbiaaDoor
open Go Go.AM
set_option maxHeartbeats 40000000 in
mutual
def F57 : Nat → Int → ByteArray → (List D) → Int → Option (Bool × Int)
  | 0, _, _, _, _ => none
  | n + 1, z1, s2, l3, z4 =>
    letF (IntKind.wrap .i64 (z4 - 1)) fun z5 => bO1 (F37 n z1 s2 l3 z5) fun b6 => some (b6, z4)
def L56_1 : Nat → (List D) → Int → Int → Int → Option (Bool × Int)
  | 0, _, _, _, _ => none
  | n + 1, l1, z2, z4, z5 =>
    lenF l1 fun z6 => (if z4 < z6 then (if z4 < z2 then L56_2 n l1 z2 z4 z5 true else L56_2 n l1 z2 z4 z5 false) else L56_2 n l1 z2 z4 z5 false)
def L56_2 : Nat → (List D) → Int → Int → Int → Bool → Option (Bool × Int)
  | 0, _, _, _, _, _ => none
  | n + 1, l1, z2, z4, z5, b7 =>
    (if b7 = true then getF l1 z4 fun x8 => ds_t25 x8 fun z9 s10 l11 => bO2 (F57 n z9 s10 l11 z5) fun b12 z13 => letB (!b12) fun b14 => (if b14 = true then some (false, z13) else letF (IntKind.wrap .i64 (z4 + 1)) fun z15 => L56_1 n l1 z2 z15 z13) else lenF l1 fun z16 => (if z16 ≤ z2 then some (true, z5) else some (false, z5)))
def F56 : Nat → (List D) → Int → Int → Option (Bool × Int)
  | 0, _, _, _ => none
  | n + 1, l1, z2, z3 =>
    L56_1 n l1 z2 (0 : Int) z3
def L37_1 : Nat → Int → ByteArray → (List D) → Int → Bool → Option (Bool)
  | 0, _, _, _, _, _ => none
  | n + 1, z1, s2, l3, z4, b5 =>
    (if z1 = (1 : Int) then L37_2 n z1 s2 l3 z4 b5 true else L37_2 n z1 s2 l3 z4 b5 false)
def L37_2 : Nat → Int → ByteArray → (List D) → Int → Bool → Bool → Option (Bool)
  | 0, _, _, _, _, _, _ => none
  | n + 1, z1, s2, l3, z4, b5, b6 =>
    (if b6 = true then L37_5 n z1 s2 l3 z4 b5 true else (if z1 = (2 : Int) then L37_3 n z1 s2 l3 z4 b5 true else L37_3 n z1 s2 l3 z4 b5 false))
def L37_3 : Nat → Int → ByteArray → (List D) → Int → Bool → Bool → Option (Bool)
  | 0, _, _, _, _, _, _ => none
  | n + 1, z1, s2, l3, z4, b5, b7 =>
    (if b7 = true then L37_5 n z1 s2 l3 z4 b5 true else (if z1 = (3 : Int) then L37_4 n z1 s2 l3 z4 b5 true else L37_4 n z1 s2 l3 z4 b5 false))
def L37_4 : Nat → Int → ByteArray → (List D) → Int → Bool → Bool → Option (Bool)
  | 0, _, _, _, _, _, _ => none
  | n + 1, z1, s2, l3, z4, b5, b8 =>
    (if b8 = true then L37_5 n z1 s2 l3 z4 b5 true else (if z1 = (10 : Int) then L37_5 n z1 s2 l3 z4 b5 true else L37_5 n z1 s2 l3 z4 b5 false))
def L37_5 : Nat → Int → ByteArray → (List D) → Int → Bool → Bool → Option (Bool)
  | 0, _, _, _, _, _, _ => none
  | n + 1, z1, s2, l3, z4, b5, b9 =>
    (if b9 = true then L37_7 n z1 l3 z4 (0 : Int) b5 else (if z1 = (4 : Int) then L37_6 n z1 s2 l3 z4 b5 true else L37_6 n z1 s2 l3 z4 b5 false))
def L37_6 : Nat → Int → ByteArray → (List D) → Int → Bool → Bool → Option (Bool)
  | 0, _, _, _, _, _, _ => none
  | n + 1, z1, s2, l3, z4, b5, b10 =>
    (if b10 = true then bO1 (F15 n s2) fun b11 => L37_7 n z1 l3 z4 (0 : Int) b11 else L37_7 n z1 l3 z4 (1 : Int) b5)
def L37_7 : Nat → Int → (List D) → Int → Int → Bool → Option (Bool)
  | 0, _, _, _, _, _ => none
  | n + 1, z1, l3, z4, z12, b13 =>
    (if (0 : Int) < z4 then (if (1 : Int) ≤ z1 then (if z1 ≤ (14 : Int) then (if b13 = true then lenF l3 fun z14 => (if z14 = z12 then bO2 (F56 n l3 (1 : Int) z4) fun b15 z16 => some b15 else some false) else some false) else some false) else some false) else some false)
def F37 : Nat → Int → ByteArray → (List D) → Int → Option (Bool)
  | 0, _, _, _, _ => none
  | n + 1, z1, s2, l3, z4 =>
    (if s2 = ByteArray.empty then L37_1 n z1 s2 l3 z4 true else L37_1 n z1 s2 l3 z4 false)
end
set_option maxRecDepth 100000 in
set_option maxHeartbeats 40000000 in
theorem G57 (n : Nat) : (∀ ⦃z1 : Int⦄ ⦃s2 : ByteArray⦄ ⦃l3 : List D⦄ ⦃z4 : Int⦄ ⦃r1 : Bool⦄ ⦃r2 : Int⦄, F57 n z1 s2 l3 z4 = some (r1, r2) →
    Trip Tryd.prog inv 57 [.d (.agg [.int .u8 z1, .str s2, .list true 3 l3]), .c (.ptr (.ext 0) 0)] [.cells [.d (.int .i64 z4)]] (.v (.d (.bool r1))) [.cells [.d (.int .i64 r2)]] []) ∧
    (∀ ⦃l1 : List D⦄ ⦃z2 : Int⦄ ⦃z3 : Int⦄ ⦃r1 : Bool⦄ ⦃r2 : Int⦄, F56 n l1 z2 z3 = some (r1, r2) →
    Trip Tryd.prog inv 56 [.d (.list true 3 l1), .d (.int .i64 z2), .c (.fn 57 [.ext 0])] [.cells [.d (.int .i64 z3)]] (.v (.d (.bool r1))) [.cells [.d (.int .i64 r2)]] []) ∧
    (∀ ⦃z1 : Int⦄ ⦃s2 : ByteArray⦄ ⦃l3 : List D⦄ ⦃z4 : Int⦄ ⦃r1 : Bool⦄, F37 n z1 s2 l3 z4 = some r1 →
    Trip Tryd.prog inv 37 [.d (.agg [.int .u8 z1, .str s2, .list true 3 l3]), .d (.int .i64 z4)] [] (.v (.d (.bool r1))) [] []) := by
  induction n using Nat.strongRecOn with
  | _ n ih =>
    cases n with
    | zero =>
      refine ⟨?_, ?_, ?_⟩
      · intro z1 s2 l3 z4 r1 r2 h
        cases (show (none : Option _) = some _ from h)
      · intro l1 z2 z3 r1 r2 h
        cases (show (none : Option _) = some _ from h)
      · intro z1 s2 l3 z4 r1 h
        cases (show (none : Option _) = some _ from h)
    | succ n =>
      refine ⟨?_, ?_, ?_⟩
      · intro z1 s2 l3 z4 r1 r2 h
        rw [F57] at h
        refine Trip.of tab_ok tab_one fol Tryd.func57 rfl (by kernel_rfl) rfl rfl rfl (fun M hM hI => ?_)
        try cbv
        refine seq_go ?_
        try cbv
        refine seq_go ?_
        try cbv
        replace h := letF_inv h
        obtain ⟨z5, hz, h⟩ := h
        refine ⟨z5, hz, ?_⟩
        clear hz
        try cbv
        replace h := bO1_inv h
        obtain ⟨b6, hr, h⟩ := h
        refine call_go rfl rfl ?_
        try cbv
        refine call_pure hM hI ((ih _ (by omega)).2.2 hr) rfl ?_
        clear hr
        try cbv
        obtain ⟨rfl, rfl⟩ := inj2 h
        refine fin_go ?_
        try cbv
        exact ⟨[], rfl, rfl, ⟨rfl, trivial⟩, trivial, trivial⟩
      · intro l1 z2 z3 r1 r2 h
        rw [F56] at h
        refine Trip.of tab_ok tab_one fol Tryd.func56 rfl (by kernel_rfl) rfl rfl rfl (fun M hM hI => ?_)
        try cbv
        refine seq_go ?_
        try cbv
        refine seq_go ?_
        try cbv
        refine seq_go ?_
        try cbv
        refine loop_inv (T := Nat × Int × Int) [0, 1, 2, 6, 7] [.ext 0] 64 (fun t => ⟨[(0, .v (.d (.list true 3 l1))), (1, .v (.d (.int .i64 z2))), (2, .v (.c (.fn 57 [.ext 0]))), (6, .v (.d (.bool false))), (7, .v (.d (.int .i64 t.2.1)))], [(.ext 0, .cells [.d (.int .i64 t.2.2)])], 64⟩)
          (fun t => t.1 ≤ n ∧ L56_1 t.1 l1 z2 t.2.1 t.2.2 = some (r1, r2)) (fun t => t.1) (n, ((0 : Int), z3)) ⟨Nat.le_refl _, h⟩ (by cbv) ?_
        clear h
        rintro ⟨m1, z4, z5⟩ ⟨hm1, h⟩
        replace hm1 : m1 ≤ n := hm1
        cases m1 with
        | zero =>
          replace h : L56_1 0 l1 z2 z4 z5 = some (r1, r2) := h
          rw [L56_1] at h
          cases h
        | succ m1 =>
          replace h : L56_1 (m1 + 1) l1 z2 z4 z5 = some (r1, r2) := h
          rw [L56_1] at h
          try cbv
          refine seq_go ?_
          try cbv
          refine seq_join (T := Nat × Bool) (fun t => ⟨[(0, .v (.d (.list true 3 l1))), (1, .v (.d (.int .i64 z2))), (2, .v (.c (.fn 57 [.ext 0]))), (6, .v (.d (.bool false))), (7, .v (.d (.int .i64 z4))), (16, .v (.d (.bool t.2)))], [(.ext 0, .cells [.d (.int .i64 z5)])], 352⟩) (fun t => t.1 ≤ m1 ∧ L56_2 t.1 l1 z2 z4 z5 t.2 = some (r1, r2)) ?_ ?_
          · try cbv
            replace h := lenF_inv M h
            obtain ⟨z6, hz, h⟩ := h
            refine ⟨z6, hz, ?_⟩
            clear hz
            try cbv
            refine splitL (fun e => ?_) (fun e => ?_)
            · replace h := ite_t e h
              clear e
              try cbv
              refine splitL (fun e => ?_) (fun e => ?_)
              · replace h := ite_t e h
                clear e
                try cbv
                exact join_next (m1, true) [0, 1, 2, 6, 7, 16] [.ext 0] 352 ⟨by omega, h⟩ (by cbv)
              · replace h := ite_f (Int.not_lt.2 e) h
                clear e
                try cbv
                exact join_next (m1, false) [0, 1, 2, 6, 7, 16] [.ext 0] 352 ⟨by omega, h⟩ (by cbv)
            · replace h := ite_f (Int.not_lt.2 e) h
              clear e
              try cbv
              exact join_next (m1, false) [0, 1, 2, 6, 7, 16] [.ext 0] 352 ⟨by omega, h⟩ (by cbv)
          · clear h
            rintro ⟨m2, b7⟩ ⟨hm2, h⟩
            replace hm2 : m2 ≤ m1 := hm2
            cases m2 with
            | zero =>
              replace h : L56_2 0 l1 z2 z4 z5 b7 = some (r1, r2) := h
              rw [L56_2] at h
              cases h
            | succ m2 =>
              replace h : L56_2 (m2 + 1) l1 z2 z4 z5 b7 = some (r1, r2) := h
              rw [L56_2] at h
              try cbv
              cases b7
              · replace h := ite_f Bool.false_ne_true h
                try cbv
                refine seq_go ?_
                try cbv
                replace h := lenF_inv M h
                obtain ⟨z16, hz, h⟩ := h
                refine ⟨z16, hz, ?_⟩
                clear hz
                try cbv
                refine splitLe (fun e => ?_) (fun e => ?_)
                · replace h := ite_t e h
                  clear e
                  try cbv
                  obtain ⟨rfl, rfl⟩ := inj2 h
                  refine fin_go ?_
                  try cbv
                  exact ⟨[], rfl, rfl, ⟨rfl, trivial⟩, trivial, trivial⟩
                · replace h := ite_f (Int.not_le.2 e) h
                  clear e
                  try cbv
                  obtain ⟨rfl, rfl⟩ := inj2 h
                  refine fin_go ?_
                  try cbv
                  exact ⟨[], rfl, rfl, ⟨rfl, trivial⟩, trivial, trivial⟩
              · replace h := ite_t rfl h
                try cbv
                refine seq_go ?_
                try cbv
                refine seq_go ?_
                try cbv
                replace h := getF_inv h
                obtain ⟨x8, ⟨hx0, hx⟩, h⟩ := h
                refine ⟨x8, hx0, hx, ?_⟩
                clear hx0 hx
                replace h := ds_t25_inv h
                obtain ⟨z9, s10, l11, rfl, h⟩ := h
                try cbv
                replace h := bO2_inv h
                obtain ⟨b12, z13, hr, h⟩ := h
                refine call_go rfl rfl ?_
                try cbv
                refine call_with hM hI [.ext 0] ((ih _ (by omega)).1 hr) rfl (by simp) ⟨rfl, trivial⟩ ⟨trivial, trivial⟩ (by simp) ?_
                clear hr
                try cbv
                replace h := letB_inv h
                obtain ⟨b14, hz, h⟩ := h
                refine ⟨b14, not_eq' hz, ?_⟩
                clear hz
                try cbv
                cases b14
                · replace h := ite_f Bool.false_ne_true h
                  try cbv
                  replace h := letF_inv h
                  obtain ⟨z15, hz, h⟩ := h
                  refine ⟨z15, hz, ?_⟩
                  clear hz
                  try cbv
                  exact loop_next (m2, (z15, z13)) [0, 1, 2, 6, 7] [.ext 0] 64 ⟨by omega, h⟩ (Nat.lt_succ_of_le (by omega)) (by cbv)
                · replace h := ite_t rfl h
                  try cbv
                  refine seq_go ?_
                  try cbv
                  obtain ⟨rfl, rfl⟩ := inj2 h
                  refine fin_go ?_
                  try cbv
                  exact ⟨[], rfl, rfl, ⟨rfl, trivial⟩, trivial, trivial⟩
      · intro z1 s2 l3 z4 r1 h
        rw [F37] at h
        refine Trip.of tab_ok tab_one fol Tryd.func37 rfl (by kernel_rfl) rfl rfl rfl (fun M hM hI => ?_)
        try cbv
        refine seq_go ?_
        try cbv
        refine seq_join (T := Nat × Bool) (fun t => ⟨[(2, .v (.c (.ptr (.loc 0) 0))), (3, .v (.c (.ptr (.loc 32) 0))), (4, .v (.d (.bool false))), (5, .v (.d (.int .i64 1))), (6, .v (.d (.bool t.2)))], [(.loc 0, .cells [.d (.int .u8 z1), .d (.str s2), .d (.list true 3 l3)]), (.loc 32, .cells [.d (.int .i64 z4)])], 256⟩) (fun t => t.1 ≤ n ∧ L37_1 t.1 z1 s2 l3 z4 t.2 = some r1) ?_ ?_
        · try cbv
          refine splitS (fun e => ?_) (fun e => ?_)
          · replace h := ite_t (bytes_eq.1 e) h
            clear e
            try cbv
            refine drawn ?_ ?_
            · show _ = true
              kernel_rfl
            try cbv
            exact join_next (n, true) [2, 3, 4, 5, 6] [.loc 0, .loc 32] 256 ⟨by omega, h⟩ (by cbv)
          · replace h := ite_f (bytes_ne.1 e) h
            clear e
            try cbv
            refine drawn ?_ ?_
            · show _ = true
              kernel_rfl
            try cbv
            exact join_next (n, false) [2, 3, 4, 5, 6] [.loc 0, .loc 32] 256 ⟨by omega, h⟩ (by cbv)
        · clear h
          rintro ⟨m1, b5⟩ ⟨hm1, h⟩
          replace hm1 : m1 ≤ n := hm1
          cases m1 with
          | zero =>
            replace h : L37_1 0 z1 s2 l3 z4 b5 = some r1 := h
            rw [L37_1] at h
            cases h
          | succ m1 =>
            replace h : L37_1 (m1 + 1) z1 s2 l3 z4 b5 = some r1 := h
            rw [L37_1] at h
            try cbv
            refine seq_join (T := Nat × Int × Bool) (fun t => ⟨[(2, .v (.c (.ptr (.loc 0) 0))), (3, .v (.c (.ptr (.loc 32) 0))), (4, .v (.d (.bool false))), (5, .v (.d (.int .i64 t.2.1))), (6, .v (.d (.bool t.2.2)))], [(.loc 0, .cells [.d (.int .u8 z1), .d (.str s2), .d (.list true 3 l3)]), (.loc 32, .cells [.d (.int .i64 z4)])], 800⟩) (fun t => t.1 ≤ m1 ∧ L37_7 t.1 z1 l3 z4 t.2.1 t.2.2 = some r1) ?_ ?_
            · try cbv
              refine seq_go ?_
              try cbv
              refine seq_join (T := Nat × Bool) (fun t => ⟨[(2, .v (.c (.ptr (.loc 0) 0))), (3, .v (.c (.ptr (.loc 32) 0))), (4, .v (.d (.bool false))), (5, .v (.d (.int .i64 1))), (6, .v (.d (.bool b5))), (11, .v (.d (.int .u8 z1))), (12, .v (.d (.bool t.2)))], [(.loc 0, .cells [.d (.int .u8 z1), .d (.str s2), .d (.list true 3 l3)]), (.loc 32, .cells [.d (.int .i64 z4)])], 576⟩) (fun t => t.1 ≤ m1 ∧ L37_5 t.1 z1 s2 l3 z4 b5 t.2 = some r1) ?_ ?_
              · try cbv
                refine seq_join (T := Nat × Bool) (fun t => ⟨[(2, .v (.c (.ptr (.loc 0) 0))), (3, .v (.c (.ptr (.loc 32) 0))), (4, .v (.d (.bool false))), (5, .v (.d (.int .i64 1))), (6, .v (.d (.bool b5))), (11, .v (.d (.int .u8 z1))), (12, .v (.d (.bool t.2)))], [(.loc 0, .cells [.d (.int .u8 z1), .d (.str s2), .d (.list true 3 l3)]), (.loc 32, .cells [.d (.int .i64 z4)])], 384⟩) (fun t => t.1 ≤ m1 ∧ L37_2 t.1 z1 s2 l3 z4 b5 t.2 = some r1) ?_ ?_
                · try cbv
                  refine splitI (fun e => ?_) (fun e => ?_)
                  · replace h := ite_t e h
                    clear e
                    try cbv
                    exact join_next (m1, true) [2, 3, 4, 5, 6, 11, 12] [.loc 0, .loc 32] 384 ⟨by omega, h⟩ (by cbv)
                  · replace h := ite_f e h
                    clear e
                    try cbv
                    exact join_next (m1, false) [2, 3, 4, 5, 6, 11, 12] [.loc 0, .loc 32] 384 ⟨by omega, h⟩ (by cbv)
                · clear h
                  rintro ⟨m2, b6⟩ ⟨hm2, h⟩
                  replace hm2 : m2 ≤ m1 := hm2
                  cases m2 with
                  | zero =>
                    replace h : L37_2 0 z1 s2 l3 z4 b5 b6 = some r1 := h
                    rw [L37_2] at h
                    cases h
                  | succ m2 =>
                    replace h : L37_2 (m2 + 1) z1 s2 l3 z4 b5 b6 = some r1 := h
                    rw [L37_2] at h
                    try cbv
                    cases b6
                    · replace h := ite_f Bool.false_ne_true h
                      try cbv
                      refine seq_join (T := Nat × Bool) (fun t => ⟨[(2, .v (.c (.ptr (.loc 0) 0))), (3, .v (.c (.ptr (.loc 32) 0))), (4, .v (.d (.bool false))), (5, .v (.d (.int .i64 1))), (6, .v (.d (.bool b5))), (11, .v (.d (.int .u8 z1))), (12, .v (.d (.bool t.2)))], [(.loc 0, .cells [.d (.int .u8 z1), .d (.str s2), .d (.list true 3 l3)]), (.loc 32, .cells [.d (.int .i64 z4)])], 448⟩) (fun t => t.1 ≤ m2 ∧ L37_3 t.1 z1 s2 l3 z4 b5 t.2 = some r1) ?_ ?_
                      · try cbv
                        refine splitI (fun e => ?_) (fun e => ?_)
                        · replace h := ite_t e h
                          clear e
                          try cbv
                          exact join_next (m2, true) [2, 3, 4, 5, 6, 11, 12] [.loc 0, .loc 32] 448 ⟨by omega, h⟩ (by cbv)
                        · replace h := ite_f e h
                          clear e
                          try cbv
                          exact join_next (m2, false) [2, 3, 4, 5, 6, 11, 12] [.loc 0, .loc 32] 448 ⟨by omega, h⟩ (by cbv)
                      · clear h
                        rintro ⟨m3, b7⟩ ⟨hm3, h⟩
                        replace hm3 : m3 ≤ m2 := hm3
                        cases m3 with
                        | zero =>
                          replace h : L37_3 0 z1 s2 l3 z4 b5 b7 = some r1 := h
                          rw [L37_3] at h
                          cases h
                        | succ m3 =>
                          replace h : L37_3 (m3 + 1) z1 s2 l3 z4 b5 b7 = some r1 := h
                          rw [L37_3] at h
                          try cbv
                          cases b7
                          · replace h := ite_f Bool.false_ne_true h
                            try cbv
                            refine seq_join (T := Nat × Bool) (fun t => ⟨[(2, .v (.c (.ptr (.loc 0) 0))), (3, .v (.c (.ptr (.loc 32) 0))), (4, .v (.d (.bool false))), (5, .v (.d (.int .i64 1))), (6, .v (.d (.bool b5))), (11, .v (.d (.int .u8 z1))), (12, .v (.d (.bool t.2)))], [(.loc 0, .cells [.d (.int .u8 z1), .d (.str s2), .d (.list true 3 l3)]), (.loc 32, .cells [.d (.int .i64 z4)])], 512⟩) (fun t => t.1 ≤ m3 ∧ L37_4 t.1 z1 s2 l3 z4 b5 t.2 = some r1) ?_ ?_
                            · try cbv
                              refine splitI (fun e => ?_) (fun e => ?_)
                              · replace h := ite_t e h
                                clear e
                                try cbv
                                exact join_next (m3, true) [2, 3, 4, 5, 6, 11, 12] [.loc 0, .loc 32] 512 ⟨by omega, h⟩ (by cbv)
                              · replace h := ite_f e h
                                clear e
                                try cbv
                                exact join_next (m3, false) [2, 3, 4, 5, 6, 11, 12] [.loc 0, .loc 32] 512 ⟨by omega, h⟩ (by cbv)
                            · clear h
                              rintro ⟨m4, b8⟩ ⟨hm4, h⟩
                              replace hm4 : m4 ≤ m3 := hm4
                              cases m4 with
                              | zero =>
                                replace h : L37_4 0 z1 s2 l3 z4 b5 b8 = some r1 := h
                                rw [L37_4] at h
                                cases h
                              | succ m4 =>
                                replace h : L37_4 (m4 + 1) z1 s2 l3 z4 b5 b8 = some r1 := h
                                rw [L37_4] at h
                                try cbv
                                cases b8
                                · replace h := ite_f Bool.false_ne_true h
                                  try cbv
                                  refine splitI (fun e => ?_) (fun e => ?_)
                                  · replace h := ite_t e h
                                    clear e
                                    try cbv
                                    exact join_next (m4, true) [2, 3, 4, 5, 6, 11, 12] [.loc 0, .loc 32] 576 ⟨by omega, h⟩ (by cbv)
                                  · replace h := ite_f e h
                                    clear e
                                    try cbv
                                    exact join_next (m4, false) [2, 3, 4, 5, 6, 11, 12] [.loc 0, .loc 32] 576 ⟨by omega, h⟩ (by cbv)
                                · replace h := ite_t rfl h
                                  try cbv
                                  exact join_next (m4, true) [2, 3, 4, 5, 6, 11, 12] [.loc 0, .loc 32] 576 ⟨by omega, h⟩ (by cbv)
                          · replace h := ite_t rfl h
                            try cbv
                            exact join_next (m3, true) [2, 3, 4, 5, 6, 11, 12] [.loc 0, .loc 32] 576 ⟨by omega, h⟩ (by cbv)
                    · replace h := ite_t rfl h
                      try cbv
                      exact join_next (m2, true) [2, 3, 4, 5, 6, 11, 12] [.loc 0, .loc 32] 576 ⟨by omega, h⟩ (by cbv)
              · clear h
                rintro ⟨m5, b9⟩ ⟨hm5, h⟩
                replace hm5 : m5 ≤ m1 := hm5
                cases m5 with
                | zero =>
                  replace h : L37_5 0 z1 s2 l3 z4 b5 b9 = some r1 := h
                  rw [L37_5] at h
                  cases h
                | succ m5 =>
                  replace h : L37_5 (m5 + 1) z1 s2 l3 z4 b5 b9 = some r1 := h
                  rw [L37_5] at h
                  try cbv
                  cases b9
                  · replace h := ite_f Bool.false_ne_true h
                    try cbv
                    refine seq_join (T := Nat × Bool) (fun t => ⟨[(2, .v (.c (.ptr (.loc 0) 0))), (3, .v (.c (.ptr (.loc 32) 0))), (4, .v (.d (.bool false))), (5, .v (.d (.int .i64 1))), (6, .v (.d (.bool b5))), (17, .v (.d (.bool t.2)))], [(.loc 0, .cells [.d (.int .u8 z1), .d (.str s2), .d (.list true 3 l3)]), (.loc 32, .cells [.d (.int .i64 z4)])], 640⟩) (fun t => t.1 ≤ m5 ∧ L37_6 t.1 z1 s2 l3 z4 b5 t.2 = some r1) ?_ ?_
                    · try cbv
                      refine splitI (fun e => ?_) (fun e => ?_)
                      · replace h := ite_t e h
                        clear e
                        try cbv
                        exact join_next (m5, true) [2, 3, 4, 5, 6, 17] [.loc 0, .loc 32] 640 ⟨by omega, h⟩ (by cbv)
                      · replace h := ite_f e h
                        clear e
                        try cbv
                        exact join_next (m5, false) [2, 3, 4, 5, 6, 17] [.loc 0, .loc 32] 640 ⟨by omega, h⟩ (by cbv)
                    · clear h
                      rintro ⟨m6, b10⟩ ⟨hm6, h⟩
                      replace hm6 : m6 ≤ m5 := hm6
                      cases m6 with
                      | zero =>
                        replace h : L37_6 0 z1 s2 l3 z4 b5 b10 = some r1 := h
                        rw [L37_6] at h
                        cases h
                      | succ m6 =>
                        replace h : L37_6 (m6 + 1) z1 s2 l3 z4 b5 b10 = some r1 := h
                        rw [L37_6] at h
                        try cbv
                        cases b10
                        · replace h := ite_f Bool.false_ne_true h
                          try cbv
                          exact join_next (m6, ((1 : Int), b5)) [2, 3, 4, 5, 6] [.loc 0, .loc 32] 800 ⟨by omega, h⟩ (by cbv)
                        · replace h := ite_t rfl h
                          try cbv
                          replace h := bO1_inv h
                          obtain ⟨b11, hr, h⟩ := h
                          refine call_go rfl rfl ?_
                          try cbv
                          refine call_pure hM hI (T15 _ hr) rfl ?_
                          clear hr
                          try cbv
                          exact join_next (m6, ((0 : Int), b11)) [2, 3, 4, 5, 6] [.loc 0, .loc 32] 800 ⟨by omega, h⟩ (by cbv)
                  · replace h := ite_t rfl h
                    try cbv
                    exact join_next (m5, ((0 : Int), b5)) [2, 3, 4, 5, 6] [.loc 0, .loc 32] 800 ⟨by omega, h⟩ (by cbv)
            · clear h
              rintro ⟨m7, z12, b13⟩ ⟨hm7, h⟩
              replace hm7 : m7 ≤ m1 := hm7
              cases m7 with
              | zero =>
                replace h : L37_7 0 z1 l3 z4 z12 b13 = some r1 := h
                rw [L37_7] at h
                cases h
              | succ m7 =>
                replace h : L37_7 (m7 + 1) z1 l3 z4 z12 b13 = some r1 := h
                rw [L37_7] at h
                try cbv
                refine seq_go ?_
                try cbv
                refine splitL (fun e => ?_) (fun e => ?_)
                · replace h := ite_t e h
                  clear e
                  try cbv
                  refine splitLe (fun e => ?_) (fun e => ?_)
                  · replace h := ite_t e h
                    clear e
                    try cbv
                    refine splitLe (fun e => ?_) (fun e => ?_)
                    · replace h := ite_t e h
                      clear e
                      try cbv
                      cases b13
                      · replace h := ite_f Bool.false_ne_true h
                        try cbv
                        obtain rfl := Option.some.inj h
                        refine fin_go ?_
                        try cbv
                        exact ⟨[], rfl, rfl, trivial, trivial, trivial⟩
                      · replace h := ite_t rfl h
                        try cbv
                        replace h := lenF_inv M h
                        obtain ⟨z14, hz, h⟩ := h
                        refine ⟨z14, hz, ?_⟩
                        clear hz
                        try cbv
                        refine splitI (fun e => ?_) (fun e => ?_)
                        · replace h := ite_t e h
                          clear e
                          try cbv
                          replace h := bO2_inv h
                          obtain ⟨b15, z16, hr, h⟩ := h
                          refine call_go rfl rfl ?_
                          try cbv
                          refine call_with hM hI [.loc 32] ((ih _ (by omega)).2.1 hr) rfl (by simp) ⟨rfl, trivial⟩ ⟨trivial, trivial⟩ (by simp) ?_
                          clear hr
                          try cbv
                          obtain rfl := Option.some.inj h
                          refine fin_go ?_
                          try cbv
                          exact ⟨[], rfl, rfl, trivial, trivial, trivial⟩
                        · replace h := ite_f e h
                          clear e
                          try cbv
                          obtain rfl := Option.some.inj h
                          refine fin_go ?_
                          try cbv
                          exact ⟨[], rfl, rfl, trivial, trivial, trivial⟩
                    · replace h := ite_f (Int.not_le.2 e) h
                      clear e
                      try cbv
                      obtain rfl := Option.some.inj h
                      refine fin_go ?_
                      try cbv
                      exact ⟨[], rfl, rfl, trivial, trivial, trivial⟩
                  · replace h := ite_f (Int.not_le.2 e) h
                    clear e
                    try cbv
                    obtain rfl := Option.some.inj h
                    refine fin_go ?_
                    try cbv
                    exact ⟨[], rfl, rfl, trivial, trivial, trivial⟩
                · replace h := ite_f (Int.not_lt.2 e) h
                  clear e
                  try cbv
                  obtain rfl := Option.some.inj h
                  refine fin_go ?_
                  try cbv
                  exact ⟨[], rfl, rfl, trivial, trivial, trivial⟩
theorem T37 (n : Nat) : ∀ ⦃z1 : Int⦄ ⦃s2 : ByteArray⦄ ⦃l3 : List D⦄ ⦃z4 : Int⦄ ⦃r1 : Bool⦄, F37 n z1 s2 l3 z4 = some r1 →
    Trip Tryd.prog inv 37 [.d (.agg [.int .u8 z1, .str s2, .list true 3 l3]), .d (.int .i64 z4)] [] (.v (.d (.bool r1))) [] [] := (G57 n).2.2
end Go.Proofs.YtjmofeakajdbiaaDoor
end

set_option linter.unusedVariables false
noncomputable section
namespace Go.Proofs.YtjmofeakajdbiaaDoor
open Go Go.AM
def F19 (n : Nat) (z1 : Int) (s2 : ByteArray) (l3 : List D) : Option (Bool) :=
  bO1 (F37 n z1 s2 l3 (40 : Int)) fun b4 => some b4
set_option maxRecDepth 100000 in
set_option maxHeartbeats 40000000 in
theorem T19 (n : Nat) : ∀ ⦃z1 : Int⦄ ⦃s2 : ByteArray⦄ ⦃l3 : List D⦄ ⦃r1 : Bool⦄, F19 n z1 s2 l3 = some r1 →
    Trip Tryd.prog inv 19 [.d (.agg [.int .u8 z1, .str s2, .list true 3 l3])] [] (.v (.d (.bool r1))) [] [] := by
  intro z1 s2 l3 r1 h
  unfold F19 at h
  refine Trip.of tab_ok tab_one fol Tryd.func19 rfl (by kernel_rfl) rfl rfl rfl (fun M hM hI => ?_)
  try cbv
  refine seq_go ?_
  try cbv
  refine seq_go ?_
  try cbv
  replace h := bO1_inv h
  obtain ⟨b4, hr, h⟩ := h
  refine call_go rfl rfl ?_
  try cbv
  refine call_pure hM hI (T37 _ hr) rfl ?_
  clear hr
  try cbv
  obtain rfl := Option.some.inj h
  refine fin_go ?_
  try cbv
  exact ⟨[], rfl, rfl, trivial, trivial, trivial⟩
end Go.Proofs.YtjmofeakajdbiaaDoor
end

set_option linter.unusedVariables false
noncomputable section
namespace Go.Proofs.YtjmofeakajdbiaaDoor
open Go Go.AM
mutual
def L20_1 : Nat → Int → ByteArray → (List D) → Int → Bool → Option (Bool)
  | 0, _, _, _, _, _ => none
  | n + 1, z1, s2, l3, z4, b5 =>
    (if b5 = true then some false else (if z1 = (1 : Int) then L20_2 n z1 s2 l3 z4 true else L20_2 n z1 s2 l3 z4 false))
def L20_2 : Nat → Int → ByteArray → (List D) → Int → Bool → Option (Bool)
  | 0, _, _, _, _, _ => none
  | n + 1, z1, s2, l3, z4, b6 =>
    (if b6 = true then L20_5 n z1 s2 l3 z4 true else (if z1 = (2 : Int) then L20_3 n z1 s2 l3 z4 true else L20_3 n z1 s2 l3 z4 false))
def L20_3 : Nat → Int → ByteArray → (List D) → Int → Bool → Option (Bool)
  | 0, _, _, _, _, _ => none
  | n + 1, z1, s2, l3, z4, b7 =>
    (if b7 = true then L20_5 n z1 s2 l3 z4 true else (if z1 = (3 : Int) then L20_4 n z1 s2 l3 z4 true else L20_4 n z1 s2 l3 z4 false))
def L20_4 : Nat → Int → ByteArray → (List D) → Int → Bool → Option (Bool)
  | 0, _, _, _, _, _ => none
  | n + 1, z1, s2, l3, z4, b8 =>
    (if b8 = true then L20_5 n z1 s2 l3 z4 true else (if z1 = (10 : Int) then L20_5 n z1 s2 l3 z4 true else L20_5 n z1 s2 l3 z4 false))
def L20_5 : Nat → Int → ByteArray → (List D) → Int → Bool → Option (Bool)
  | 0, _, _, _, _, _ => none
  | n + 1, z1, s2, l3, z4, b9 =>
    (if b9 = true then (if s2 = ByteArray.empty then lenF l3 fun z10 => (if z10 = (0 : Int) then some true else some false) else some false) else (if z1 = (4 : Int) then L20_6 n s2 l3 z4 true else L20_6 n s2 l3 z4 false))
def L20_6 : Nat → ByteArray → (List D) → Int → Bool → Option (Bool)
  | 0, _, _, _, _ => none
  | n + 1, s2, l3, z4, b11 =>
    (if b11 = true then bO1 (F16 n s2) fun b12 => (if b12 = true then lenF l3 fun z13 => (if z13 = (0 : Int) then some true else some false) else some false) else (if s2 = ByteArray.empty then lenF l3 fun z14 => (if z14 = (1 : Int) then getF l3 0 fun x15 => ds_t25 x15 fun z16 s17 l18 => letF (IntKind.wrap .i64 (z4 - 1)) fun z19 => bO1 (F20 n z16 s17 l18 z19) fun b20 => some b20 else some false) else some false))
def F20 : Nat → Int → ByteArray → (List D) → Int → Option (Bool)
  | 0, _, _, _, _ => none
  | n + 1, z1, s2, l3, z4 =>
    (if z4 < (1 : Int) then L20_1 n z1 s2 l3 z4 true else (if z1 < (1 : Int) then L20_1 n z1 s2 l3 z4 true else (if (14 : Int) < z1 then L20_1 n z1 s2 l3 z4 true else L20_1 n z1 s2 l3 z4 false)))
end
set_option maxRecDepth 100000 in
set_option maxHeartbeats 40000000 in
theorem T20 (n : Nat) : ∀ ⦃z1 : Int⦄ ⦃s2 : ByteArray⦄ ⦃l3 : List D⦄ ⦃z4 : Int⦄ ⦃r1 : Bool⦄, F20 n z1 s2 l3 z4 = some r1 →
    Trip Tryd.prog inv 20 [.d (.agg [.int .u8 z1, .str s2, .list true 3 l3]), .d (.int .i64 z4)] [] (.v (.d (.bool r1))) [] [] := by
  induction n using Nat.strongRecOn with
  | _ n ih =>
    cases n with
    | zero =>
      intro z1 s2 l3 z4 r1 h
      cases (show (none : Option _) = some _ from h)
    | succ n =>
      intro z1 s2 l3 z4 r1 h
      rw [F20] at h
      refine Trip.of tab_ok tab_one fol Tryd.func20 rfl (by kernel_rfl) rfl rfl rfl (fun M hM hI => ?_)
      try cbv
      refine seq_go ?_
      try cbv
      refine seq_go ?_
      try cbv
      refine seq_join (T := Nat × Bool) (fun t => ⟨[(1, .v (.d (.int .i64 z4))), (2, .v (.c (.ptr (.loc 0) 0))), (4, .v (.d (.bool false))), (16, .v (.d (.bool t.2)))], [(.loc 0, .cells [.d (.int .u8 z1), .d (.str s2), .d (.list true 3 l3)])], 448⟩) (fun t => t.1 ≤ n ∧ L20_1 t.1 z1 s2 l3 z4 t.2 = some r1) ?_ ?_
      · try cbv
        refine splitL (fun e => ?_) (fun e => ?_)
        · replace h := ite_t e h
          clear e
          try cbv
          exact join_next (n, true) [1, 2, 4, 16] [.loc 0] 448 ⟨by omega, h⟩ (by cbv)
        · replace h := ite_f (Int.not_lt.2 e) h
          clear e
          try cbv
          refine splitL (fun e => ?_) (fun e => ?_)
          · replace h := ite_t e h
            clear e
            try cbv
            exact join_next (n, true) [1, 2, 4, 16] [.loc 0] 448 ⟨by omega, h⟩ (by cbv)
          · replace h := ite_f (Int.not_lt.2 e) h
            clear e
            try cbv
            refine splitL (fun e => ?_) (fun e => ?_)
            · replace h := ite_t e h
              clear e
              try cbv
              exact join_next (n, true) [1, 2, 4, 16] [.loc 0] 448 ⟨by omega, h⟩ (by cbv)
            · replace h := ite_f (Int.not_lt.2 e) h
              clear e
              try cbv
              exact join_next (n, false) [1, 2, 4, 16] [.loc 0] 448 ⟨by omega, h⟩ (by cbv)
      · clear h
        rintro ⟨m1, b5⟩ ⟨hm1, h⟩
        replace hm1 : m1 ≤ n := hm1
        cases m1 with
        | zero =>
          replace h : L20_1 0 z1 s2 l3 z4 b5 = some r1 := h
          rw [L20_1] at h
          cases h
        | succ m1 =>
          replace h : L20_1 (m1 + 1) z1 s2 l3 z4 b5 = some r1 := h
          rw [L20_1] at h
          try cbv
          cases b5
          · replace h := ite_f Bool.false_ne_true h
            try cbv
            refine seq_go ?_
            try cbv
            refine seq_go ?_
            try cbv
            refine seq_join (T := Nat × Bool) (fun t => ⟨[(1, .v (.d (.int .i64 z4))), (2, .v (.c (.ptr (.loc 0) 0))), (4, .v (.d (.bool false))), (18, .v (.d (.int .u8 z1))), (19, .v (.d (.bool t.2)))], [(.loc 0, .cells [.d (.int .u8 z1), .d (.str s2), .d (.list true 3 l3)])], 768⟩) (fun t => t.1 ≤ m1 ∧ L20_5 t.1 z1 s2 l3 z4 t.2 = some r1) ?_ ?_
            · try cbv
              refine seq_join (T := Nat × Bool) (fun t => ⟨[(1, .v (.d (.int .i64 z4))), (2, .v (.c (.ptr (.loc 0) 0))), (4, .v (.d (.bool false))), (18, .v (.d (.int .u8 z1))), (19, .v (.d (.bool t.2)))], [(.loc 0, .cells [.d (.int .u8 z1), .d (.str s2), .d (.list true 3 l3)])], 576⟩) (fun t => t.1 ≤ m1 ∧ L20_2 t.1 z1 s2 l3 z4 t.2 = some r1) ?_ ?_
              · try cbv
                refine splitI (fun e => ?_) (fun e => ?_)
                · replace h := ite_t e h
                  clear e
                  try cbv
                  exact join_next (m1, true) [1, 2, 4, 18, 19] [.loc 0] 576 ⟨by omega, h⟩ (by cbv)
                · replace h := ite_f e h
                  clear e
                  try cbv
                  exact join_next (m1, false) [1, 2, 4, 18, 19] [.loc 0] 576 ⟨by omega, h⟩ (by cbv)
              · clear h
                rintro ⟨m2, b6⟩ ⟨hm2, h⟩
                replace hm2 : m2 ≤ m1 := hm2
                cases m2 with
                | zero =>
                  replace h : L20_2 0 z1 s2 l3 z4 b6 = some r1 := h
                  rw [L20_2] at h
                  cases h
                | succ m2 =>
                  replace h : L20_2 (m2 + 1) z1 s2 l3 z4 b6 = some r1 := h
                  rw [L20_2] at h
                  try cbv
                  cases b6
                  · replace h := ite_f Bool.false_ne_true h
                    try cbv
                    refine seq_join (T := Nat × Bool) (fun t => ⟨[(1, .v (.d (.int .i64 z4))), (2, .v (.c (.ptr (.loc 0) 0))), (4, .v (.d (.bool false))), (18, .v (.d (.int .u8 z1))), (19, .v (.d (.bool t.2)))], [(.loc 0, .cells [.d (.int .u8 z1), .d (.str s2), .d (.list true 3 l3)])], 640⟩) (fun t => t.1 ≤ m2 ∧ L20_3 t.1 z1 s2 l3 z4 t.2 = some r1) ?_ ?_
                    · try cbv
                      refine splitI (fun e => ?_) (fun e => ?_)
                      · replace h := ite_t e h
                        clear e
                        try cbv
                        exact join_next (m2, true) [1, 2, 4, 18, 19] [.loc 0] 640 ⟨by omega, h⟩ (by cbv)
                      · replace h := ite_f e h
                        clear e
                        try cbv
                        exact join_next (m2, false) [1, 2, 4, 18, 19] [.loc 0] 640 ⟨by omega, h⟩ (by cbv)
                    · clear h
                      rintro ⟨m3, b7⟩ ⟨hm3, h⟩
                      replace hm3 : m3 ≤ m2 := hm3
                      cases m3 with
                      | zero =>
                        replace h : L20_3 0 z1 s2 l3 z4 b7 = some r1 := h
                        rw [L20_3] at h
                        cases h
                      | succ m3 =>
                        replace h : L20_3 (m3 + 1) z1 s2 l3 z4 b7 = some r1 := h
                        rw [L20_3] at h
                        try cbv
                        cases b7
                        · replace h := ite_f Bool.false_ne_true h
                          try cbv
                          refine seq_join (T := Nat × Bool) (fun t => ⟨[(1, .v (.d (.int .i64 z4))), (2, .v (.c (.ptr (.loc 0) 0))), (4, .v (.d (.bool false))), (18, .v (.d (.int .u8 z1))), (19, .v (.d (.bool t.2)))], [(.loc 0, .cells [.d (.int .u8 z1), .d (.str s2), .d (.list true 3 l3)])], 704⟩) (fun t => t.1 ≤ m3 ∧ L20_4 t.1 z1 s2 l3 z4 t.2 = some r1) ?_ ?_
                          · try cbv
                            refine splitI (fun e => ?_) (fun e => ?_)
                            · replace h := ite_t e h
                              clear e
                              try cbv
                              exact join_next (m3, true) [1, 2, 4, 18, 19] [.loc 0] 704 ⟨by omega, h⟩ (by cbv)
                            · replace h := ite_f e h
                              clear e
                              try cbv
                              exact join_next (m3, false) [1, 2, 4, 18, 19] [.loc 0] 704 ⟨by omega, h⟩ (by cbv)
                          · clear h
                            rintro ⟨m4, b8⟩ ⟨hm4, h⟩
                            replace hm4 : m4 ≤ m3 := hm4
                            cases m4 with
                            | zero =>
                              replace h : L20_4 0 z1 s2 l3 z4 b8 = some r1 := h
                              rw [L20_4] at h
                              cases h
                            | succ m4 =>
                              replace h : L20_4 (m4 + 1) z1 s2 l3 z4 b8 = some r1 := h
                              rw [L20_4] at h
                              try cbv
                              cases b8
                              · replace h := ite_f Bool.false_ne_true h
                                try cbv
                                refine splitI (fun e => ?_) (fun e => ?_)
                                · replace h := ite_t e h
                                  clear e
                                  try cbv
                                  exact join_next (m4, true) [1, 2, 4, 18, 19] [.loc 0] 768 ⟨by omega, h⟩ (by cbv)
                                · replace h := ite_f e h
                                  clear e
                                  try cbv
                                  exact join_next (m4, false) [1, 2, 4, 18, 19] [.loc 0] 768 ⟨by omega, h⟩ (by cbv)
                              · replace h := ite_t rfl h
                                try cbv
                                exact join_next (m4, true) [1, 2, 4, 18, 19] [.loc 0] 768 ⟨by omega, h⟩ (by cbv)
                        · replace h := ite_t rfl h
                          try cbv
                          exact join_next (m3, true) [1, 2, 4, 18, 19] [.loc 0] 768 ⟨by omega, h⟩ (by cbv)
                  · replace h := ite_t rfl h
                    try cbv
                    exact join_next (m2, true) [1, 2, 4, 18, 19] [.loc 0] 768 ⟨by omega, h⟩ (by cbv)
            · clear h
              rintro ⟨m5, b9⟩ ⟨hm5, h⟩
              replace hm5 : m5 ≤ m1 := hm5
              cases m5 with
              | zero =>
                replace h : L20_5 0 z1 s2 l3 z4 b9 = some r1 := h
                rw [L20_5] at h
                cases h
              | succ m5 =>
                replace h : L20_5 (m5 + 1) z1 s2 l3 z4 b9 = some r1 := h
                rw [L20_5] at h
                try cbv
                cases b9
                · replace h := ite_f Bool.false_ne_true h
                  try cbv
                  refine seq_join (T := Nat × Bool) (fun t => ⟨[(1, .v (.d (.int .i64 z4))), (2, .v (.c (.ptr (.loc 0) 0))), (4, .v (.d (.bool false))), (33, .v (.d (.bool t.2)))], [(.loc 0, .cells [.d (.int .u8 z1), .d (.str s2), .d (.list true 3 l3)])], 832⟩) (fun t => t.1 ≤ m5 ∧ L20_6 t.1 s2 l3 z4 t.2 = some r1) ?_ ?_
                  · try cbv
                    refine splitI (fun e => ?_) (fun e => ?_)
                    · replace h := ite_t e h
                      clear e
                      try cbv
                      exact join_next (m5, true) [1, 2, 4, 33] [.loc 0] 832 ⟨by omega, h⟩ (by cbv)
                    · replace h := ite_f e h
                      clear e
                      try cbv
                      exact join_next (m5, false) [1, 2, 4, 33] [.loc 0] 832 ⟨by omega, h⟩ (by cbv)
                  · clear h
                    rintro ⟨m6, b11⟩ ⟨hm6, h⟩
                    replace hm6 : m6 ≤ m5 := hm6
                    cases m6 with
                    | zero =>
                      replace h : L20_6 0 s2 l3 z4 b11 = some r1 := h
                      rw [L20_6] at h
                      cases h
                    | succ m6 =>
                      replace h : L20_6 (m6 + 1) s2 l3 z4 b11 = some r1 := h
                      rw [L20_6] at h
                      try cbv
                      cases b11
                      · replace h := ite_f Bool.false_ne_true h
                        try cbv
                        refine seq_go ?_
                        try cbv
                        refine splitS (fun e => ?_) (fun e => ?_)
                        · replace h := ite_t (bytes_eq.1 e) h
                          clear e
                          try cbv
                          replace h := lenF_inv M h
                          obtain ⟨z14, hz, h⟩ := h
                          refine ⟨z14, hz, ?_⟩
                          clear hz
                          try cbv
                          refine splitI (fun e => ?_) (fun e => ?_)
                          · replace h := ite_t e h
                            clear e
                            try cbv
                            replace h := getF_inv h
                            obtain ⟨x15, ⟨hx0, hx⟩, h⟩ := h
                            refine ⟨x15, hx0, hx, ?_⟩
                            clear hx0 hx
                            replace h := ds_t25_inv h
                            obtain ⟨z16, s17, l18, rfl, h⟩ := h
                            try cbv
                            replace h := letF_inv h
                            obtain ⟨z19, hz, h⟩ := h
                            refine ⟨z19, hz, ?_⟩
                            clear hz
                            try cbv
                            replace h := bO1_inv h
                            obtain ⟨b20, hr, h⟩ := h
                            refine call_go rfl rfl ?_
                            try cbv
                            refine call_pure hM hI ((ih _ (by omega)) hr) rfl ?_
                            clear hr
                            try cbv
                            obtain rfl := Option.some.inj h
                            refine fin_go ?_
                            try cbv
                            exact ⟨[], rfl, rfl, trivial, trivial, trivial⟩
                          · replace h := ite_f e h
                            clear e
                            try cbv
                            obtain rfl := Option.some.inj h
                            refine fin_go ?_
                            try cbv
                            exact ⟨[], rfl, rfl, trivial, trivial, trivial⟩
                        · replace h := ite_f (bytes_ne.1 e) h
                          clear e
                          try cbv
                          obtain rfl := Option.some.inj h
                          refine fin_go ?_
                          try cbv
                          exact ⟨[], rfl, rfl, trivial, trivial, trivial⟩
                      · replace h := ite_t rfl h
                        try cbv
                        refine seq_go ?_
                        try cbv
                        replace h := bO1_inv h
                        obtain ⟨b12, hr, h⟩ := h
                        refine call_go rfl rfl ?_
                        try cbv
                        refine call_pure hM hI (T16 _ hr) rfl ?_
                        clear hr
                        try cbv
                        cases b12
                        · replace h := ite_f Bool.false_ne_true h
                          try cbv
                          obtain rfl := Option.some.inj h
                          refine fin_go ?_
                          try cbv
                          exact ⟨[], rfl, rfl, trivial, trivial, trivial⟩
                        · replace h := ite_t rfl h
                          try cbv
                          replace h := lenF_inv M h
                          obtain ⟨z13, hz, h⟩ := h
                          refine ⟨z13, hz, ?_⟩
                          clear hz
                          try cbv
                          refine splitI (fun e => ?_) (fun e => ?_)
                          · replace h := ite_t e h
                            clear e
                            try cbv
                            obtain rfl := Option.some.inj h
                            refine fin_go ?_
                            try cbv
                            exact ⟨[], rfl, rfl, trivial, trivial, trivial⟩
                          · replace h := ite_f e h
                            clear e
                            try cbv
                            obtain rfl := Option.some.inj h
                            refine fin_go ?_
                            try cbv
                            exact ⟨[], rfl, rfl, trivial, trivial, trivial⟩
                · replace h := ite_t rfl h
                  try cbv
                  refine seq_go ?_
                  try cbv
                  refine splitS (fun e => ?_) (fun e => ?_)
                  · replace h := ite_t (bytes_eq.1 e) h
                    clear e
                    try cbv
                    replace h := lenF_inv M h
                    obtain ⟨z10, hz, h⟩ := h
                    refine ⟨z10, hz, ?_⟩
                    clear hz
                    try cbv
                    refine splitI (fun e => ?_) (fun e => ?_)
                    · replace h := ite_t e h
                      clear e
                      try cbv
                      obtain rfl := Option.some.inj h
                      refine fin_go ?_
                      try cbv
                      exact ⟨[], rfl, rfl, trivial, trivial, trivial⟩
                    · replace h := ite_f e h
                      clear e
                      try cbv
                      obtain rfl := Option.some.inj h
                      refine fin_go ?_
                      try cbv
                      exact ⟨[], rfl, rfl, trivial, trivial, trivial⟩
                  · replace h := ite_f (bytes_ne.1 e) h
                    clear e
                    try cbv
                    obtain rfl := Option.some.inj h
                    refine fin_go ?_
                    try cbv
                    exact ⟨[], rfl, rfl, trivial, trivial, trivial⟩
          · replace h := ite_t rfl h
            try cbv
            refine seq_go ?_
            try cbv
            obtain rfl := Option.some.inj h
            refine fin_go ?_
            try cbv
            exact ⟨[], rfl, rfl, trivial, trivial, trivial⟩
end Go.Proofs.YtjmofeakajdbiaaDoor
end

set_option linter.unusedVariables false
noncomputable section
namespace Go.Proofs.YtjmofeakajdbiaaDoor
open Go Go.AM

theorem llen3 {l : List D} (h : l.length = 3) : ∃ x0 x1 x2, l = [x0, x1, x2] := by
  match l, h with
  | [x0, x1, x2], _ => exact ⟨x0, x1, x2, rfl⟩
theorem llen8 {l : List D} (h : l.length = 8) : ∃ x0 x1 x2 x3 x4 x5 x6 x7, l = [x0, x1, x2, x3, x4, x5, x6, x7] := by
  match l, h with
  | [x0, x1, x2, x3, x4, x5, x6, x7], _ => exact ⟨x0, x1, x2, x3, x4, x5, x6, x7, rfl⟩
theorem rs9 {x : D} (h : RowS tab 9 x) : ∃ a0, x = .str a0 ∧ a0.size ≤ maxLen := by
  have hs := h.flat1 (y := tyD tab 9) (by kernel_rfl) rfl
  have hl := hs.flat 9 9 [9] [x] (by kernel_rfl)
  obtain ⟨a0, rfl, w0⟩ := (hl.2 0 x 9 rfl rfl).strS (x := tyD tab 9) (by kernel_rfl) rfl
  exact ⟨_, rfl, w0⟩
theorem rs25 {x : D} (h : RowS tab 25 x) : ∃ a0 a1 a2, x = .agg [.int .u8 a0, .str a1, .list true 3 a2] ∧ (Lit.int .u8 a0).wf = true ∧ a1.size ≤ maxLen ∧ ListS tab 25 a2 := by
  obtain ⟨cs, rfl, hs⟩ := h.agg (y := tyD tab 25) (by kernel_rfl) rfl
  have hl := hs.flat 9 25 [5, 9, 23] cs (by kernel_rfl)
  obtain ⟨b0, b1, b2, rfl⟩ := llen3 hl.1
  obtain ⟨a0, rfl, w0⟩ := (hl.2 0 b0 5 rfl rfl).intS (x := tyD tab 5) (by kernel_rfl) rfl
  obtain ⟨a1, rfl, w1⟩ := (hl.2 1 b1 9 rfl rfl).strS (x := tyD tab 9) (by kernel_rfl) rfl
  obtain ⟨a2, e2, w2⟩ := (hl.2 2 b2 23 rfl rfl).listS (x := tyD tab 23) (y := tyD tab 25) (by kernel_rfl) rfl (by kernel_rfl)
  obtain rfl : b2 = .list true 3 a2 := e2
  exact ⟨_, _, _, rfl, w0, w1, w2⟩
theorem rs31 {x : D} (h : RowS tab 31 x) : ∃ a0 a1 a2 a3 a4 a5 a6 a7, x = .agg [.int .u8 a0, .int .i64 a1, .str a2, .str a3, .str a4, .list false 1 a5, .list true 8 a6, .int .i64 a7] ∧ (Lit.int .u8 a0).wf = true ∧ (Lit.int .i64 a1).wf = true ∧ a2.size ≤ maxLen ∧ a3.size ≤ maxLen ∧ a4.size ≤ maxLen ∧ ListS tab 9 a5 ∧ ListS tab 31 a6 ∧ (Lit.int .i64 a7).wf = true := by
  obtain ⟨cs, rfl, hs⟩ := h.agg (y := tyD tab 31) (by kernel_rfl) rfl
  have hl := hs.flat 9 31 [5, 2, 9, 9, 9, 26, 29, 3] cs (by kernel_rfl)
  obtain ⟨b0, b1, b2, b3, b4, b5, b6, b7, rfl⟩ := llen8 hl.1
  obtain ⟨a0, rfl, w0⟩ := (hl.2 0 b0 5 rfl rfl).intS (x := tyD tab 5) (by kernel_rfl) rfl
  obtain ⟨a1, rfl, w1⟩ := (hl.2 1 b1 2 rfl rfl).intS (x := tyD tab 2) (by kernel_rfl) rfl
  obtain ⟨a2, rfl, w2⟩ := (hl.2 2 b2 9 rfl rfl).strS (x := tyD tab 9) (by kernel_rfl) rfl
  obtain ⟨a3, rfl, w3⟩ := (hl.2 3 b3 9 rfl rfl).strS (x := tyD tab 9) (by kernel_rfl) rfl
  obtain ⟨a4, rfl, w4⟩ := (hl.2 4 b4 9 rfl rfl).strS (x := tyD tab 9) (by kernel_rfl) rfl
  obtain ⟨a5, e5, w5⟩ := (hl.2 5 b5 26 rfl rfl).listS (x := tyD tab 26) (y := tyD tab 9) (by kernel_rfl) rfl (by kernel_rfl)
  obtain rfl : b5 = .list false 1 a5 := e5
  obtain ⟨a6, e6, w6⟩ := (hl.2 6 b6 29 rfl rfl).listS (x := tyD tab 29) (y := tyD tab 31) (by kernel_rfl) rfl (by kernel_rfl)
  obtain rfl : b6 = .list true 8 a6 := e6
  obtain ⟨a7, rfl, w7⟩ := (hl.2 7 b7 3 rfl rfl).intS (x := tyD tab 3) (by kernel_rfl) rfl
  exact ⟨_, _, _, _, _, _, _, _, rfl, w0, w1, w2, w3, w4, w5, w6, w7⟩
end Go.Proofs.YtjmofeakajdbiaaDoor
end

set_option linter.unusedVariables false
noncomputable section
namespace Go.Proofs.YtjmofeakajdbiaaDoor
open Go Go.AM

theorem tot54 (s : ByteArray) (z : Int) : Total fun n => F54 n s z := by
  by_cases h1 : z < 5
  · exact ⟨-1, .succ (.of fun n => by unfold F54; rw [if_pos h1, L54_1, if_pos rfl])⟩
  · by_cases h2 : IntKind.wrap .i64 (z - 5) < ((bl s).length : Int)
    · exact ⟨-1, .succ (.of fun n => by unfold F54; rw [if_neg h1, szF_eq]; simp only [letF]; rw [if_pos h2, L54_1, if_pos rfl])⟩
    · exact ⟨_, .succ (.of fun n => by unfold F54; rw [if_neg h1, szF_eq]; simp only [letF]; rw [if_neg h2, L54_1, if_neg Bool.false_ne_true]; simp only [letF]; rw [szF_eq])⟩
theorem tot72 {l : List D} (h : ListS tab 9 l) (z : Int) : Total fun n => F72 n l z := by
  have main : ∀ i : Nat, i ≤ l.length → ∀ z, Total fun n => L72_1 n l (i : Int) z := by
    refine down l.length ?_ ?_
    · intro z
      refine ⟨z, .succ (.succ (.of fun n => ?_))⟩
      rw [L72_1]; simp only [lenF]; rw [if_neg (by omega), L72_2, if_neg Bool.false_ne_true]
    · intro i hi ih z
      by_cases hz : (0 : Int) ≤ z
      · obtain ⟨x, hx, _, hr⟩ := h.get hi
        obtain ⟨s, rfl, _⟩ := rs9 hr
        obtain ⟨z1, h1⟩ := tot54 s z
        obtain ⟨r, h2⟩ := ih z1
        refine ⟨r, .succ (.succ (Ev.congr (A := fun n => bO1 (F54 n s z) fun z10 => L72_1 n l ((i + 1 : Nat) : Int) z10) (Ev.bO1 h1 h2) fun n => ?_))⟩
        rw [L72_1]; simp only [lenF]; rw [if_pos (by omega), if_pos hz, L72_2, if_pos rfl, getF_nat hx]
        simp only [ds_str, letF, wrap_succ hi h.1]
      · refine ⟨z, .succ (.succ (.of fun n => ?_))⟩
        rw [L72_1]; simp only [lenF]; rw [if_pos (by omega), if_neg hz, L72_2, if_neg Bool.false_ne_true]
  obtain ⟨r, h⟩ := main 0 (Nat.zero_le _) (IntKind.wrap .i64 (z - 5))
  exact ⟨r, h.congr fun n => by unfold F72; simp only [letF]; rfl⟩
theorem tot35 (l : List D) : ListS tab 25 l → ∀ z1 s2 z4, Total fun n => F35 n z1 s2 l z4 := by
  refine list_ind (P := fun l => ListS tab 25 l → ∀ z1 s2 z4, Total fun n => F35 n z1 s2 l z4) (fun l ih h z1 s2 z4 => ?_) l
  have main : ∀ i : Nat, i ≤ l.length → ∀ z, Total fun n => L35_1 n l (i : Int) z := by
    refine down l.length ?_ ?_
    · intro z
      refine ⟨z, .succ (.succ (.of fun n => ?_))⟩
      rw [L35_1]; simp only [lenF]; rw [if_neg (by omega), L35_2, if_neg Bool.false_ne_true]
    · intro i hi ihi z
      by_cases hz : (0 : Int) ≤ z
      · obtain ⟨x, hx, hm, hr⟩ := h.get hi
        obtain ⟨a, s, l', rfl, _, _, hl'⟩ := rs25 hr
        obtain ⟨z1, h1⟩ := ih l' (size_row (ag := true) (sz := 3) hm (by simp)) hl' a s z
        obtain ⟨r, h2⟩ := ihi z1
        refine ⟨r, .succ (.succ (Ev.congr (A := fun n => bO1 (F35 n a s l' z) fun z10 => L35_1 n l ((i + 1 : Nat) : Int) z10) (Ev.bO1 h1 h2) fun n => ?_))⟩
        rw [L35_1]; simp only [lenF]; rw [if_pos (by omega), if_pos hz, L35_2, if_pos rfl, getF_nat hx]
        simp only [ds_t25, letF, wrap_succ hi h.1]
      · refine ⟨z, .succ (.succ (.of fun n => ?_))⟩
        rw [L35_1]; simp only [lenF]; rw [if_pos (by omega), if_neg hz, L35_2, if_neg Bool.false_ne_true]
  obtain ⟨z5, h5⟩ := tot54 s2 z4
  obtain ⟨r, h⟩ := main 0 (Nat.zero_le _) z5
  exact ⟨r, .succ ((Ev.bO1 h5 h).congr fun n => by rw [F35]; rfl)⟩
theorem tot17 {l : List D} (h : ListS tab 25 l) (z1 : Int) (s2 : ByteArray) : Total fun n => F17 n z1 s2 l := by
  obtain ⟨z, hz⟩ := tot35 l h z1 s2 20000
  by_cases h0 : z < 0
  · exact ⟨true, Ev.bO1 hz (.of fun n => by rw [if_pos h0])⟩
  · exact ⟨false, Ev.bO1 hz (.of fun n => by rw [if_neg h0])⟩
theorem tot55 {l : List D} (h : ListS tab 9 l) (s : ByteArray) (z : Int) : Total fun n => F55 n s l z := by
  obtain ⟨z1, h1⟩ := tot54 s z
  obtain ⟨z2, h2⟩ := tot72 h z1
  exact ⟨z2, Ev.bO1 h1 (Ev.bO1 h2 .ret)⟩
theorem tot36 (l : List D) : ListS tab 31 l → ∀ z1 z2 s3 s4 s5 l6 z8 z9, ListS tab 9 l6 → Total fun n => F36 n z1 z2 s3 s4 s5 l6 l z8 z9 := by
  refine list_ind (P := fun l => ListS tab 31 l → ∀ z1 z2 s3 s4 s5 l6 z8 z9, ListS tab 9 l6 → Total fun n => F36 n z1 z2 s3 s4 s5 l6 l z8 z9) (fun l ih h z1 z2 s3 s4 s5 l6 z8 z9 h6 => ?_) l
  have main : ∀ i : Nat, i ≤ l.length → ∀ z, Total fun n => L36_1 n l (i : Int) z := by
    refine down l.length ?_ ?_
    · intro z
      refine ⟨z, .succ (.succ (.of fun n => ?_))⟩
      rw [L36_1]; simp only [lenF]; rw [if_neg (by omega), L36_2, if_neg Bool.false_ne_true]
    · intro i hi ihi z
      by_cases hz : (0 : Int) ≤ z
      · obtain ⟨x, hx, hm, hr⟩ := h.get hi
        obtain ⟨a0, a1, a2, a3, a4, a5, a6, a7, rfl, _, _, _, _, _, h5, h6, _⟩ := rs31 hr
        obtain ⟨z1, h1⟩ := ih a6 (size_row (ag := true) (sz := 8) hm (by simp)) h6 a0 a1 a2 a3 a4 a5 a7 z h5
        obtain ⟨r, h2⟩ := ihi z1
        refine ⟨r, .succ (.succ (Ev.congr (A := fun n => bO1 (F36 n a0 a1 a2 a3 a4 a5 a6 a7 z) fun z10 => L36_1 n l ((i + 1 : Nat) : Int) z10) (Ev.bO1 h1 h2) fun n => ?_))⟩
        rw [L36_1]; simp only [lenF]; rw [if_pos (by omega), if_pos hz, L36_2, if_pos rfl, getF_nat hx]
        simp only [ds_t31, letF, wrap_succ hi h.1]
      · refine ⟨z, .succ (.succ (.of fun n => ?_))⟩
        rw [L36_1]; simp only [lenF]; rw [if_pos (by omega), if_neg hz, L36_2, if_neg Bool.false_ne_true]
  obtain ⟨y1, g1⟩ := tot54 s3 z9
  obtain ⟨y2, g2⟩ := tot54 s4 y1
  obtain ⟨y3, g3⟩ := tot55 h6 s5 y2
  obtain ⟨r, h⟩ := main 0 (Nat.zero_le _) y3
  exact ⟨r, .succ ((Ev.bO1 g1 (Ev.bO1 g2 (Ev.bO1 g3 h))).congr fun n => by rw [F36])⟩
theorem tot18 {l l6 : List D} (h : ListS tab 31 l) (h6 : ListS tab 9 l6) (z1 z2 : Int) (s3 s4 s5 : ByteArray) (z8 : Int) : Total fun n => F18 n z1 z2 s3 s4 s5 l6 l z8 := by
  obtain ⟨z, hz⟩ := tot36 l h z1 z2 s3 s4 s5 l6 z8 20000 h6
  by_cases h0 : z < 0
  · exact ⟨true, Ev.bO1 hz (.of fun n => by rw [if_pos h0])⟩
  · exact ⟨false, Ev.bO1 hz (.of fun n => by rw [if_neg h0])⟩

abbrev leafT (z : Int) : Prop := z = 1 ∨ z = 2 ∨ z = 3 ∨ z = 10
theorem pre37 {z1 : Int} {s2 : ByteArray} (hs : s2.size ≤ maxLen) {l : List D} {z4 : Int} {r : Bool}
    (h1 : leafT z1 → Ev (fun n => L37_7 n z1 l z4 (0 : Int) (decide (s2 = ByteArray.empty))) r) (h2 : z1 = 4 → Ev (fun n => L37_7 n z1 l z4 (0 : Int) (nm 65 90 s2)) r)
    (h3 : ¬ leafT z1 → z1 ≠ 4 → Ev (fun n => L37_7 n z1 l z4 (1 : Int) (decide (s2 = ByteArray.empty))) r) : Ev (fun n => F37 n z1 s2 l z4) r := by
  have go : ∀ b, b = decide (s2 = ByteArray.empty) → Ev (fun n => L37_1 n z1 s2 l z4 b) r := by
    rintro b rfl
    have five : leafT z1 → Ev (fun n => L37_5 n z1 s2 l z4 (decide (s2 = ByteArray.empty)) true) r := fun c => .succ (by simp only [L37_5, if_true]; exact h1 c)
    refine .succ ?_
    by_cases c1 : z1 = 1
    · simp only [L37_1, if_pos c1]
      exact .succ (by simp only [L37_2, if_true]; exact five (.inl c1))
    simp only [L37_1, if_neg c1]
    refine .succ ?_
    by_cases c2 : z1 = 2
    · simp only [L37_2, Bool.false_eq_true, if_false, if_pos c2]
      exact .succ (by simp only [L37_3, if_true]; exact five (.inr (.inl c2)))
    simp only [L37_2, Bool.false_eq_true, if_false, if_neg c2]
    refine .succ ?_
    by_cases c3 : z1 = 3
    · simp only [L37_3, Bool.false_eq_true, if_false, if_pos c3]
      exact .succ (by simp only [L37_4, if_true]; exact five (.inr (.inr (.inl c3))))
    simp only [L37_3, Bool.false_eq_true, if_false, if_neg c3]
    refine .succ ?_
    by_cases c10 : z1 = 10
    · simp only [L37_4, Bool.false_eq_true, if_false, if_pos c10]
      exact five (.inr (.inr (.inr c10)))
    simp only [L37_4, Bool.false_eq_true, if_false, if_neg c10]
    refine .succ ?_
    have nl : ¬ leafT z1 := by rintro (h | h | h | h) <;> contradiction
    by_cases c4 : z1 = 4
    · simp only [L37_5, Bool.false_eq_true, if_false, if_pos c4]
      refine .succ ?_
      simp only [L37_6, if_true]
      exact Ev.bO1 (ev15 hs) (h2 c4)
    · simp only [L37_5, Bool.false_eq_true, if_false, if_neg c4]
      refine .succ ?_
      simp only [L37_6, Bool.false_eq_true, if_false]
      exact h3 nl c4
  refine .succ ?_
  by_cases c : s2 = ByteArray.empty
  · simp only [F37, if_pos c]; exact go true (by simp [c])
  · simp only [F37, if_neg c]; exact go false (by simp [c])
theorem pre20 {z1 : Int} {s2 : ByteArray} (hs : s2.size ≤ maxLen) {l : List D} {z4 : Int} {r : Bool} (g4 : ¬ z4 < 1) (g1 : ¬ z1 < 1) (g14 : ¬ 14 < z1)
    (h1 : leafT z1 → r = (decide (s2 = ByteArray.empty) && decide (l.length = 0))) (h2 : z1 = 4 → r = (nm 65 90 s2 && decide (l.length = 0)))
    (h3 : ¬ leafT z1 → z1 ≠ 4 → Ev (fun n => L20_6 n s2 l z4 false) r) : Ev (fun n => F20 n z1 s2 l z4) r := by
  have five : leafT z1 → Ev (fun n => L20_5 n z1 s2 l z4 true) r := fun c => .succ (by
    rw [h1 c]
    simp only [L20_5, if_true, lenF]
    by_cases e : s2 = ByteArray.empty
    · by_cases e2 : l.length = 0
      · simp only [if_pos e, if_pos (show (l.length : Int) = 0 by omega), decide_eq_true e, decide_eq_true e2]; exact .ret
      · simp only [if_pos e, if_neg (show ¬ (l.length : Int) = 0 by omega), decide_eq_true e, decide_eq_false e2]; exact .ret
    · simp only [if_neg e, decide_eq_false e]; exact .ret)
  refine .succ ?_
  simp only [F20, if_neg g4, if_neg g1, if_neg g14]
  refine .succ ?_
  by_cases c1 : z1 = 1
  · simp only [L20_1, Bool.false_eq_true, if_false, if_pos c1]
    exact .succ (by simp only [L20_2, if_true]; exact five (.inl c1))
  simp only [L20_1, Bool.false_eq_true, if_false, if_neg c1]
  refine .succ ?_
  by_cases c2 : z1 = 2
  · simp only [L20_2, Bool.false_eq_true, if_false, if_pos c2]
    exact .succ (by simp only [L20_3, if_true]; exact five (.inr (.inl c2)))
  simp only [L20_2, Bool.false_eq_true, if_false, if_neg c2]
  refine .succ ?_
  by_cases c3 : z1 = 3
  · simp only [L20_3, Bool.false_eq_true, if_false, if_pos c3]
    exact .succ (by simp only [L20_4, if_true]; exact five (.inr (.inr (.inl c3))))
  simp only [L20_3, Bool.false_eq_true, if_false, if_neg c3]
  refine .succ ?_
  by_cases c10 : z1 = 10
  · simp only [L20_4, Bool.false_eq_true, if_false, if_pos c10]
    exact five (.inr (.inr (.inr c10)))
  simp only [L20_4, Bool.false_eq_true, if_false, if_neg c10]
  refine .succ ?_
  have nl : ¬ leafT z1 := by rintro (h | h | h | h) <;> contradiction
  by_cases c4 : z1 = 4
  · simp only [L20_5, Bool.false_eq_true, if_false, if_pos c4]
    refine .succ ?_
    simp only [L20_6, if_true]
    refine Ev.bO1 (ev16 hs) ?_
    rw [h2 c4]
    cases hn : nm 65 90 s2
    · simp only [Bool.false_eq_true, if_false, Bool.false_and]; exact .ret
    · by_cases e2 : l.length = 0
      · simp only [if_true, lenF, if_pos (show (l.length : Int) = 0 by omega), decide_eq_true e2, Bool.true_and]; exact .ret
      · simp only [if_true, lenF, if_neg (show ¬ (l.length : Int) = 0 by omega), decide_eq_false e2, Bool.true_and]; exact .ret
  · simp only [L20_5, Bool.false_eq_true, if_false, if_neg c4]
    exact h3 nl c4
theorem ty_agree (l : List D) : ListS tab 25 l → ∀ z1 (s2 : ByteArray) (z4 : Int), s2.size ≤ maxLen → 0 ≤ z4 → z4 ≤ 40 → Agree (fun n => F37 n z1 s2 l z4) (fun n => F20 n z1 s2 l z4) := by
  refine list_ind (P := fun l => ListS tab 25 l → ∀ z1 (s2 : ByteArray) (z4 : Int), s2.size ≤ maxLen → 0 ≤ z4 → z4 ≤ 40 → Agree (fun n => F37 n z1 s2 l z4) (fun n => F20 n z1 s2 l z4)) (fun l ih h z1 s2 z4 hs h0 h40 => ?_) l
  by_cases g : z4 < 1 ∨ z1 < 1 ∨ 14 < z1
  · have e7 : ∀ z12 b, Ev (fun n => L37_7 n z1 l z4 z12 b) false := by
      intro z12 b
      refine .succ ?_
      rcases g with g | g | g
      · simp only [L37_7, if_neg (show ¬ 0 < z4 by omega)]; exact .ret
      · simp only [L37_7, if_neg (show ¬ 1 ≤ z1 by omega), ite_self]; exact .ret
      · simp only [L37_7, if_neg (show ¬ z1 ≤ 14 by omega), ite_self]; exact .ret
    refine ⟨false, pre37 hs (fun _ => e7 _ _) (fun _ => e7 _ _) (fun _ _ => e7 _ _), .succ ?_⟩
    have stop : Ev (fun n => L20_1 n z1 s2 l z4 true) false := .succ (by simp only [L20_1, if_true]; exact .ret)
    rcases g with g | g | g
    · simp only [F20, if_pos g]; exact stop
    · simp only [F20, if_pos g, ite_self]; exact stop
    · simp only [F20, if_pos g, ite_self]; exact stop
  · have g4 : ¬ z4 < 1 := fun x => g (.inl x)
    have g1 : ¬ z1 < 1 := fun x => g (.inr (.inl x))
    have g14 : ¬ 14 < z1 := fun x => g (.inr (.inr x))
    have zero : ∀ b, Ev (fun n => L37_7 n z1 l z4 0 b) (b && decide (l.length = 0)) := by
      intro b
      refine .succ ?_
      simp only [L37_7, if_pos (show 0 < z4 by omega), if_pos (show 1 ≤ z1 by omega), if_pos (show z1 ≤ 14 by omega), lenF]
      cases b
      · simp only [Bool.false_eq_true, if_false, Bool.false_and]; exact .ret
      · by_cases e : l.length = 0
        · simp only [if_true, if_pos (show (l.length : Int) = 0 by omega), decide_eq_true e, Bool.true_and]
          refine Ev.bO2 (a := true) (b := z4) ?_ .ret
          refine .succ (.succ ?_)
          simp only [F56, L56_1, lenF, if_neg (show ¬ (0 : Int) < (l.length : Int) by omega)]
          exact .succ (by simp only [L56_2, Bool.false_eq_true, if_false, lenF, if_pos (show (l.length : Int) ≤ 1 by omega)]; exact .ret)
        · simp only [if_true, if_neg (show ¬ (l.length : Int) = 0 by omega), decide_eq_false e, Bool.true_and]; exact .ret
    by_cases hl : leafT z1
    · have n4 : z1 ≠ 4 := by rcases hl with h | h | h | h <;> omega
      exact ⟨_, pre37 hs (fun _ => zero _) (fun h => absurd h n4) (fun h => absurd hl h), pre20 hs g4 g1 g14 (fun _ => rfl) (fun h => absurd h n4) (fun h => absurd hl h)⟩
    by_cases h4 : z1 = 4
    · exact ⟨_, pre37 hs (fun h => absurd h hl) (fun _ => zero _) (fun _ h => absurd h4 h), pre20 hs g4 g1 g14 (fun h => absurd h hl) (fun _ => rfl) (fun _ h => absurd h4 h)⟩
    -- one child
    suffices H : ∃ r, Ev (fun n => L37_7 n z1 l z4 1 (decide (s2 = ByteArray.empty))) r ∧ Ev (fun n => L20_6 n s2 l z4 false) r by
      obtain ⟨r, q1, q2⟩ := H
      exact ⟨r, pre37 hs (fun h => absurd h hl) (fun h => absurd h h4) (fun _ _ => q1), pre20 hs g4 g1 g14 (fun h => absurd h hl) (fun h => absurd h h4) (fun _ _ => q2)⟩
    by_cases e : s2 = ByteArray.empty
    · by_cases e1 : l.length = 1
      · obtain ⟨x, hx, hm, hr⟩ := h.get (show 0 < l.length by omega)
        obtain ⟨a, s, l', rfl, _, hs', hl'⟩ := rs25 hr
        have w : IntKind.i64.wrap (z4 - 1) = z4 - 1 := IntWalk.i64_in _ (by omega)
        obtain ⟨r, q1, q2⟩ := ih l' (size_row (ag := true) (sz := 3) hm (by simp)) hl' a s (z4 - 1) hs' (by omega) (by omega)
        have gx : ∀ {γ : Type} (k : D → Option γ), getF l (0 : Int) k = k (.agg [.int .u8 a, .str s, .list true 3 l']) := fun k => getF_nat (i := 0) hx
        refine ⟨r, .succ ?_, .succ ?_⟩
        · simp only [L37_7, if_pos (show 0 < z4 by omega), if_pos (show 1 ≤ z1 by omega), if_pos (show z1 ≤ 14 by omega), lenF, decide_eq_true e, if_true, if_pos (show (l.length : Int) = 1 by omega)]
          refine Ev.bO2 (a := r) (b := z4) ?_ .ret
          refine .succ (.succ ?_)
          simp only [F56, L56_1, lenF, if_pos (show (0 : Int) < (l.length : Int) by omega), if_pos (show (0 : Int) < 1 by omega)]
          refine .succ ?_
          simp only [L56_2, if_true, gx, ds_t25]
          refine Ev.bO2 (a := r) (b := z4) (.succ ?_) ?_
          · simp only [F57, letF, w]
            exact Ev.bO1 q1 .ret
          · simp only [letB]
            cases r
            · simp only [Bool.not_false, if_true]; exact .ret
            · have w1 : IntKind.i64.wrap ((0 : Int) + 1) = 1 := rfl
              simp only [Bool.not_true, Bool.false_eq_true, if_false, letF, w1]
              refine .succ ?_
              simp only [L56_1, lenF, if_neg (show ¬ (1 : Int) < (l.length : Int) by omega)]
              exact .succ (by simp only [L56_2, Bool.false_eq_true, if_false, lenF, if_pos (show (l.length : Int) ≤ 1 by omega)]; exact .ret)
        · simp only [L20_6, Bool.false_eq_true, if_false, if_pos e, lenF, if_pos (show (l.length : Int) = 1 by omega), gx, ds_t25, letF, w]
          exact Ev.bO1 q2 .ret
      · refine ⟨false, .succ ?_, .succ ?_⟩
        · simp only [L37_7, if_neg (show ¬ (l.length : Int) = 1 by omega), lenF, ite_self]; exact .ret
        · simp only [L20_6, Bool.false_eq_true, if_false, if_pos e, lenF, if_neg (show ¬ (l.length : Int) = 1 by omega)]; exact .ret
    · refine ⟨false, .succ ?_, .succ ?_⟩
      · simp only [L37_7, decide_eq_false e, Bool.false_eq_true, if_false, ite_self]; exact .ret
      · simp only [L20_6, Bool.false_eq_true, if_false, if_neg e]; exact .ret
end Go.Proofs.YtjmofeakajdbiaaDoor

set_option linter.unusedVariables false
noncomputable section
namespace Go.Proofs.YtjmofeakajdbiaaDoor
open Go Go.AM
def F38 (n : Nat) (z1 : Int) (z2 : Int) (s3 : ByteArray) (s4 : ByteArray) (s5 : ByteArray) (l6 : List D) (l7 : List D) (z8 : Int) : Option (Bool) :=
  (if z1 = (5 : Int) then some true else (if z1 = (6 : Int) then some true else some false))
set_option maxRecDepth 100000 in
set_option maxHeartbeats 40000000 in
theorem T38 (n : Nat) : ∀ ⦃z1 : Int⦄ ⦃z2 : Int⦄ ⦃s3 : ByteArray⦄ ⦃s4 : ByteArray⦄ ⦃s5 : ByteArray⦄ ⦃l6 : List D⦄ ⦃l7 : List D⦄ ⦃z8 : Int⦄ ⦃r1 : Bool⦄, F38 n z1 z2 s3 s4 s5 l6 l7 z8 = some r1 →
    Trip Tryd.prog inv 38 [.d (.agg [.int .u8 z1, .int .i64 z2, .str s3, .str s4, .str s5, .list false 1 l6, .list true 8 l7, .int .i64 z8])] [] (.v (.d (.bool r1))) [] [] := by
  intro z1 z2 s3 s4 s5 l6 l7 z8 r1 h
  unfold F38 at h
  refine Trip.of tab_ok tab_one fol Tryd.func38 rfl (by kernel_rfl) rfl rfl rfl (fun M hM hI => ?_)
  try cbv
  refine seq_go ?_
  try cbv
  refine seq_go ?_
  try cbv
  refine splitI (fun e => ?_) (fun e => ?_)
  · replace h := ite_t e h
    clear e
    try cbv
    obtain rfl := Option.some.inj h
    refine fin_go ?_
    try cbv
    exact ⟨[], rfl, rfl, trivial, trivial, trivial⟩
  · replace h := ite_f e h
    clear e
    try cbv
    refine splitI (fun e => ?_) (fun e => ?_)
    · replace h := ite_t e h
      clear e
      try cbv
      obtain rfl := Option.some.inj h
      refine fin_go ?_
      try cbv
      exact ⟨[], rfl, rfl, trivial, trivial, trivial⟩
    · replace h := ite_f e h
      clear e
      try cbv
      obtain rfl := Option.some.inj h
      refine fin_go ?_
      try cbv
      exact ⟨[], rfl, rfl, trivial, trivial, trivial⟩
end Go.Proofs.YtjmofeakajdbiaaDoor
end

set_option linter.unusedVariables false
noncomputable section
namespace Go.Proofs.YtjmofeakajdbiaaDoor
open Go Go.AM
def L58_26 : Nat → Int → Bool → Option (Bool × Int × Int × Bool)
  | 0, _, _ => none
  | n + 1, z1, b27 =>
    (if b27 = true then some (false, (2 : Int), (2 : Int), true) else (if (1 : Int) ≤ z1 then (if z1 ≤ (36 : Int) then some (false, (1 : Int), (1 : Int), true) else some (false, (1 : Int), (1 : Int), false)) else some (false, (1 : Int), (1 : Int), false)))
def L58_25 : Nat → Int → Bool → Option (Bool × Int × Int × Bool)
  | 0, _, _ => none
  | n + 1, z1, b26 =>
    (if b26 = true then L58_26 n z1 true else (if z1 = (17 : Int) then L58_26 n z1 true else L58_26 n z1 false))
def L58_24 : Nat → Int → Bool → Option (Bool × Int × Int × Bool)
  | 0, _, _ => none
  | n + 1, z1, b25 =>
    (if b25 = true then L58_26 n z1 true else (if z1 = (16 : Int) then L58_25 n z1 true else L58_25 n z1 false))
def L58_23 : Nat → Int → Bool → Option (Bool × Int × Int × Bool)
  | 0, _, _ => none
  | n + 1, z1, b24 =>
    (if b24 = true then L58_26 n z1 true else (if z1 = (15 : Int) then L58_24 n z1 true else L58_24 n z1 false))
def L58_22 : Nat → Int → Bool → Option (Bool × Int × Int × Bool)
  | 0, _, _ => none
  | n + 1, z1, b23 =>
    (if b23 = true then L58_26 n z1 true else (if z1 = (14 : Int) then L58_23 n z1 true else L58_23 n z1 false))
def L58_21 : Nat → Int → Bool → Option (Bool × Int × Int × Bool)
  | 0, _, _ => none
  | n + 1, z1, b22 =>
    (if b22 = true then L58_26 n z1 true else (if z1 = (13 : Int) then L58_22 n z1 true else L58_22 n z1 false))
def L58_20 : Nat → Int → Bool → Option (Bool × Int × Int × Bool)
  | 0, _, _ => none
  | n + 1, z1, b21 =>
    (if b21 = true then L58_26 n z1 true else (if z1 = (12 : Int) then L58_21 n z1 true else L58_21 n z1 false))
def L58_19 : Nat → Int → Bool → Option (Bool × Int × Int × Bool)
  | 0, _, _ => none
  | n + 1, z1, b20 =>
    (if b20 = true then L58_26 n z1 true else (if z1 = (11 : Int) then L58_20 n z1 true else L58_20 n z1 false))
def L58_18 : Nat → Int → Bool → Option (Bool × Int × Int × Bool)
  | 0, _, _ => none
  | n + 1, z1, b19 =>
    (if b19 = true then L58_26 n z1 true else (if z1 = (10 : Int) then L58_19 n z1 true else L58_19 n z1 false))
def L58_17 : Nat → Int → Bool → Option (Bool × Int × Int × Bool)
  | 0, _, _ => none
  | n + 1, z1, b18 =>
    (if b18 = true then some (false, (0 : Int), (1 : Int), true) else (if z1 = (9 : Int) then L58_18 n z1 true else L58_18 n z1 false))
def L58_16 : Nat → Int → Bool → Option (Bool × Int × Int × Bool)
  | 0, _, _ => none
  | n + 1, z1, b17 =>
    (if b17 = true then some (false, (0 : Int), (6 : Int), true) else (if z1 = (20 : Int) then L58_17 n z1 true else L58_17 n z1 false))
def L58_15 : Nat → Int → Bool → Option (Bool × Int × Int × Bool)
  | 0, _, _ => none
  | n + 1, z1, b16 =>
    (if b16 = true then L58_16 n z1 true else (if z1 = (19 : Int) then L58_16 n z1 true else L58_16 n z1 false))
def L58_14 : Nat → Int → Bool → Option (Bool × Int × Int × Bool)
  | 0, _, _ => none
  | n + 1, z1, b15 =>
    (if b15 = true then some (true, (1 : Int), (1 : Int), true) else (if z1 = (18 : Int) then L58_15 n z1 true else L58_15 n z1 false))
def L58_13 : Nat → Int → Bool → Option (Bool × Int × Int × Bool)
  | 0, _, _ => none
  | n + 1, z1, b14 =>
    (if b14 = true then L58_14 n z1 true else (if z1 = (35 : Int) then L58_14 n z1 true else L58_14 n z1 false))
def L58_12 : Nat → Int → Bool → Option (Bool × Int × Int × Bool)
  | 0, _, _ => none
  | n + 1, z1, b13 =>
    (if b13 = true then L58_14 n z1 true else (if z1 = (34 : Int) then L58_13 n z1 true else L58_13 n z1 false))
def L58_11 : Nat → Int → Bool → Option (Bool × Int × Int × Bool)
  | 0, _, _ => none
  | n + 1, z1, b12 =>
    (if b12 = true then L58_14 n z1 true else (if z1 = (33 : Int) then L58_12 n z1 true else L58_12 n z1 false))
def L58_10 : Nat → Int → Bool → Option (Bool × Int × Int × Bool)
  | 0, _, _ => none
  | n + 1, z1, b11 =>
    (if b11 = true then some (true, (0 : Int), (0 : Int), true) else (if z1 = (25 : Int) then L58_11 n z1 true else L58_11 n z1 false))
def L58_9 : Nat → Int → Bool → Option (Bool × Int × Int × Bool)
  | 0, _, _ => none
  | n + 1, z1, b10 =>
    (if b10 = true then L58_10 n z1 true else (if z1 = (36 : Int) then L58_10 n z1 true else L58_10 n z1 false))
def L58_8 : Nat → Int → Bool → Option (Bool × Int × Int × Bool)
  | 0, _, _ => none
  | n + 1, z1, b9 =>
    (if b9 = true then L58_10 n z1 true else (if z1 = (32 : Int) then L58_9 n z1 true else L58_9 n z1 false))
def L58_7 : Nat → Int → Bool → Option (Bool × Int × Int × Bool)
  | 0, _, _ => none
  | n + 1, z1, b8 =>
    (if b8 = true then L58_10 n z1 true else (if z1 = (28 : Int) then L58_8 n z1 true else L58_8 n z1 false))
def L58_6 : Nat → Int → Bool → Option (Bool × Int × Int × Bool)
  | 0, _, _ => none
  | n + 1, z1, b7 =>
    (if b7 = true then L58_10 n z1 true else (if z1 = (24 : Int) then L58_7 n z1 true else L58_7 n z1 false))
def L58_5 : Nat → Int → Bool → Option (Bool × Int × Int × Bool)
  | 0, _, _ => none
  | n + 1, z1, b6 =>
    (if b6 = true then L58_10 n z1 true else (if z1 = (6 : Int) then L58_6 n z1 true else L58_6 n z1 false))
def L58_4 : Nat → Int → Bool → Option (Bool × Int × Int × Bool)
  | 0, _, _ => none
  | n + 1, z1, b5 =>
    (if b5 = true then L58_10 n z1 true else (if z1 = (5 : Int) then L58_5 n z1 true else L58_5 n z1 false))
def L58_3 : Nat → Int → Bool → Option (Bool × Int × Int × Bool)
  | 0, _, _ => none
  | n + 1, z1, b4 =>
    (if b4 = true then some (false, (0 : Int), (0 : Int), true) else (if z1 = (4 : Int) then L58_4 n z1 true else L58_4 n z1 false))
def L58_2 : Nat → Int → Bool → Option (Bool × Int × Int × Bool)
  | 0, _, _ => none
  | n + 1, z1, b3 =>
    (if b3 = true then L58_3 n z1 true else (if z1 = (3 : Int) then L58_3 n z1 true else L58_3 n z1 false))
def L58_1 : Nat → Int → Bool → Option (Bool × Int × Int × Bool)
  | 0, _, _ => none
  | n + 1, z1, b2 =>
    (if b2 = true then L58_3 n z1 true else (if z1 = (2 : Int) then L58_2 n z1 true else L58_2 n z1 false))
def F58 (n : Nat) (z1 : Int) : Option (Bool × Int × Int × Bool) :=
  (if z1 = (1 : Int) then L58_1 n z1 true else L58_1 n z1 false)
set_option maxRecDepth 100000 in
set_option maxHeartbeats 40000000 in
theorem T58 (n : Nat) : ∀ ⦃z1 : Int⦄ ⦃r1 : Bool⦄ ⦃r2 : Int⦄ ⦃r3 : Int⦄ ⦃r4 : Bool⦄, F58 n z1 = some (r1, r2, r3, r4) →
    Trip Tryd.prog inv 58 [.d (.int .u8 z1)] [] (.t [.d (.agg [.bool r1, .int .i64 r2, .int .i64 r3]), .d (.bool r4)]) [] [] := by
  intro z1 r1 r2 r3 r4 h
  unfold F58 at h
  refine Trip.of tab_ok tab_one fol Tryd.func58 rfl (by kernel_rfl) rfl rfl rfl (fun M hM hI => ?_)
  try cbv
  refine seq_go ?_
  try cbv
  refine seq_go ?_
  try cbv
  refine seq_go ?_
  try cbv
  refine seq_join (T := Nat × Bool) (fun t => ⟨[(0, .v (.d (.int .u8 z1))), (2, .v (.c (.ptr (.loc 0) 0))), (3, .v (.d (.bool false))), (4, .v (.d (.int .u8 z1))), (5, .v (.d (.bool t.2)))], [(.loc 0, .cells [.d (.bool false), .d (.int .i64 0), .d (.int .i64 0)])], 288⟩) (fun t => t.1 ≤ n ∧ L58_3 t.1 z1 t.2 = some (r1, r2, r3, r4)) ?_ ?_
  · try cbv
    refine seq_join (T := Nat × Bool) (fun t => ⟨[(0, .v (.d (.int .u8 z1))), (2, .v (.c (.ptr (.loc 0) 0))), (3, .v (.d (.bool false))), (4, .v (.d (.int .u8 z1))), (5, .v (.d (.bool t.2)))], [(.loc 0, .cells [.d (.bool false), .d (.int .i64 0), .d (.int .i64 0)])], 160⟩) (fun t => t.1 ≤ n ∧ L58_1 t.1 z1 t.2 = some (r1, r2, r3, r4)) ?_ ?_
    · try cbv
      refine splitI (fun e => ?_) (fun e => ?_)
      · replace h := ite_t e h
        clear e
        try cbv
        exact join_next (n, true) [0, 2, 3, 4, 5] [.loc 0] 160 ⟨by omega, h⟩ (by cbv)
      · replace h := ite_f e h
        clear e
        try cbv
        exact join_next (n, false) [0, 2, 3, 4, 5] [.loc 0] 160 ⟨by omega, h⟩ (by cbv)
    · clear h
      rintro ⟨m1, b2⟩ ⟨hm1, h⟩
      replace hm1 : m1 ≤ n := hm1
      cases m1 with
      | zero =>
        replace h : L58_1 0 z1 b2 = some (r1, r2, r3, r4) := h
        rw [L58_1] at h
        cases h
      | succ m1 =>
        replace h : L58_1 (m1 + 1) z1 b2 = some (r1, r2, r3, r4) := h
        rw [L58_1] at h
        try cbv
        cases b2
        · replace h := ite_f Bool.false_ne_true h
          try cbv
          refine seq_join (T := Nat × Bool) (fun t => ⟨[(0, .v (.d (.int .u8 z1))), (2, .v (.c (.ptr (.loc 0) 0))), (3, .v (.d (.bool false))), (4, .v (.d (.int .u8 z1))), (5, .v (.d (.bool t.2)))], [(.loc 0, .cells [.d (.bool false), .d (.int .i64 0), .d (.int .i64 0)])], 224⟩) (fun t => t.1 ≤ m1 ∧ L58_2 t.1 z1 t.2 = some (r1, r2, r3, r4)) ?_ ?_
          · try cbv
            refine splitI (fun e => ?_) (fun e => ?_)
            · replace h := ite_t e h
              clear e
              try cbv
              exact join_next (m1, true) [0, 2, 3, 4, 5] [.loc 0] 224 ⟨by omega, h⟩ (by cbv)
            · replace h := ite_f e h
              clear e
              try cbv
              exact join_next (m1, false) [0, 2, 3, 4, 5] [.loc 0] 224 ⟨by omega, h⟩ (by cbv)
          · clear h
            rintro ⟨m2, b3⟩ ⟨hm2, h⟩
            replace hm2 : m2 ≤ m1 := hm2
            cases m2 with
            | zero =>
              replace h : L58_2 0 z1 b3 = some (r1, r2, r3, r4) := h
              rw [L58_2] at h
              cases h
            | succ m2 =>
              replace h : L58_2 (m2 + 1) z1 b3 = some (r1, r2, r3, r4) := h
              rw [L58_2] at h
              try cbv
              cases b3
              · replace h := ite_f Bool.false_ne_true h
                try cbv
                refine splitI (fun e => ?_) (fun e => ?_)
                · replace h := ite_t e h
                  clear e
                  try cbv
                  exact join_next (m2, true) [0, 2, 3, 4, 5] [.loc 0] 288 ⟨by omega, h⟩ (by cbv)
                · replace h := ite_f e h
                  clear e
                  try cbv
                  exact join_next (m2, false) [0, 2, 3, 4, 5] [.loc 0] 288 ⟨by omega, h⟩ (by cbv)
              · replace h := ite_t rfl h
                try cbv
                exact join_next (m2, true) [0, 2, 3, 4, 5] [.loc 0] 288 ⟨by omega, h⟩ (by cbv)
        · replace h := ite_t rfl h
          try cbv
          exact join_next (m1, true) [0, 2, 3, 4, 5] [.loc 0] 288 ⟨by omega, h⟩ (by cbv)
  · clear h
    rintro ⟨m3, b4⟩ ⟨hm3, h⟩
    replace hm3 : m3 ≤ n := hm3
    cases m3 with
    | zero =>
      replace h : L58_3 0 z1 b4 = some (r1, r2, r3, r4) := h
      rw [L58_3] at h
      cases h
    | succ m3 =>
      replace h : L58_3 (m3 + 1) z1 b4 = some (r1, r2, r3, r4) := h
      rw [L58_3] at h
      try cbv
      cases b4
      · replace h := ite_f Bool.false_ne_true h
        try cbv
        refine seq_join (T := Nat × Bool) (fun t => ⟨[(0, .v (.d (.int .u8 z1))), (2, .v (.c (.ptr (.loc 0) 0))), (3, .v (.d (.bool false))), (4, .v (.d (.int .u8 z1))), (10, .v (.d (.bool t.2)))], [(.loc 0, .cells [.d (.bool false), .d (.int .i64 0), .d (.int .i64 0)])], 736⟩) (fun t => t.1 ≤ m3 ∧ L58_10 t.1 z1 t.2 = some (r1, r2, r3, r4)) ?_ ?_
        · try cbv
          refine seq_join (T := Nat × Bool) (fun t => ⟨[(0, .v (.d (.int .u8 z1))), (2, .v (.c (.ptr (.loc 0) 0))), (3, .v (.d (.bool false))), (4, .v (.d (.int .u8 z1))), (10, .v (.d (.bool t.2)))], [(.loc 0, .cells [.d (.bool false), .d (.int .i64 0), .d (.int .i64 0)])], 352⟩) (fun t => t.1 ≤ m3 ∧ L58_4 t.1 z1 t.2 = some (r1, r2, r3, r4)) ?_ ?_
          · try cbv
            refine splitI (fun e => ?_) (fun e => ?_)
            · replace h := ite_t e h
              clear e
              try cbv
              exact join_next (m3, true) [0, 2, 3, 4, 10] [.loc 0] 352 ⟨by omega, h⟩ (by cbv)
            · replace h := ite_f e h
              clear e
              try cbv
              exact join_next (m3, false) [0, 2, 3, 4, 10] [.loc 0] 352 ⟨by omega, h⟩ (by cbv)
          · clear h
            rintro ⟨m4, b5⟩ ⟨hm4, h⟩
            replace hm4 : m4 ≤ m3 := hm4
            cases m4 with
            | zero =>
              replace h : L58_4 0 z1 b5 = some (r1, r2, r3, r4) := h
              rw [L58_4] at h
              cases h
            | succ m4 =>
              replace h : L58_4 (m4 + 1) z1 b5 = some (r1, r2, r3, r4) := h
              rw [L58_4] at h
              try cbv
              cases b5
              · replace h := ite_f Bool.false_ne_true h
                try cbv
                refine seq_join (T := Nat × Bool) (fun t => ⟨[(0, .v (.d (.int .u8 z1))), (2, .v (.c (.ptr (.loc 0) 0))), (3, .v (.d (.bool false))), (4, .v (.d (.int .u8 z1))), (10, .v (.d (.bool t.2)))], [(.loc 0, .cells [.d (.bool false), .d (.int .i64 0), .d (.int .i64 0)])], 416⟩) (fun t => t.1 ≤ m4 ∧ L58_5 t.1 z1 t.2 = some (r1, r2, r3, r4)) ?_ ?_
                · try cbv
                  refine splitI (fun e => ?_) (fun e => ?_)
                  · replace h := ite_t e h
                    clear e
                    try cbv
                    exact join_next (m4, true) [0, 2, 3, 4, 10] [.loc 0] 416 ⟨by omega, h⟩ (by cbv)
                  · replace h := ite_f e h
                    clear e
                    try cbv
                    exact join_next (m4, false) [0, 2, 3, 4, 10] [.loc 0] 416 ⟨by omega, h⟩ (by cbv)
                · clear h
                  rintro ⟨m5, b6⟩ ⟨hm5, h⟩
                  replace hm5 : m5 ≤ m4 := hm5
                  cases m5 with
                  | zero =>
                    replace h : L58_5 0 z1 b6 = some (r1, r2, r3, r4) := h
                    rw [L58_5] at h
                    cases h
                  | succ m5 =>
                    replace h : L58_5 (m5 + 1) z1 b6 = some (r1, r2, r3, r4) := h
                    rw [L58_5] at h
                    try cbv
                    cases b6
                    · replace h := ite_f Bool.false_ne_true h
                      try cbv
                      refine seq_join (T := Nat × Bool) (fun t => ⟨[(0, .v (.d (.int .u8 z1))), (2, .v (.c (.ptr (.loc 0) 0))), (3, .v (.d (.bool false))), (4, .v (.d (.int .u8 z1))), (10, .v (.d (.bool t.2)))], [(.loc 0, .cells [.d (.bool false), .d (.int .i64 0), .d (.int .i64 0)])], 480⟩) (fun t => t.1 ≤ m5 ∧ L58_6 t.1 z1 t.2 = some (r1, r2, r3, r4)) ?_ ?_
                      · try cbv
                        refine splitI (fun e => ?_) (fun e => ?_)
                        · replace h := ite_t e h
                          clear e
                          try cbv
                          exact join_next (m5, true) [0, 2, 3, 4, 10] [.loc 0] 480 ⟨by omega, h⟩ (by cbv)
                        · replace h := ite_f e h
                          clear e
                          try cbv
                          exact join_next (m5, false) [0, 2, 3, 4, 10] [.loc 0] 480 ⟨by omega, h⟩ (by cbv)
                      · clear h
                        rintro ⟨m6, b7⟩ ⟨hm6, h⟩
                        replace hm6 : m6 ≤ m5 := hm6
                        cases m6 with
                        | zero =>
                          replace h : L58_6 0 z1 b7 = some (r1, r2, r3, r4) := h
                          rw [L58_6] at h
                          cases h
                        | succ m6 =>
                          replace h : L58_6 (m6 + 1) z1 b7 = some (r1, r2, r3, r4) := h
                          rw [L58_6] at h
                          try cbv
                          cases b7
                          · replace h := ite_f Bool.false_ne_true h
                            try cbv
                            refine seq_join (T := Nat × Bool) (fun t => ⟨[(0, .v (.d (.int .u8 z1))), (2, .v (.c (.ptr (.loc 0) 0))), (3, .v (.d (.bool false))), (4, .v (.d (.int .u8 z1))), (10, .v (.d (.bool t.2)))], [(.loc 0, .cells [.d (.bool false), .d (.int .i64 0), .d (.int .i64 0)])], 544⟩) (fun t => t.1 ≤ m6 ∧ L58_7 t.1 z1 t.2 = some (r1, r2, r3, r4)) ?_ ?_
                            · try cbv
                              refine splitI (fun e => ?_) (fun e => ?_)
                              · replace h := ite_t e h
                                clear e
                                try cbv
                                exact join_next (m6, true) [0, 2, 3, 4, 10] [.loc 0] 544 ⟨by omega, h⟩ (by cbv)
                              · replace h := ite_f e h
                                clear e
                                try cbv
                                exact join_next (m6, false) [0, 2, 3, 4, 10] [.loc 0] 544 ⟨by omega, h⟩ (by cbv)
                            · clear h
                              rintro ⟨m7, b8⟩ ⟨hm7, h⟩
                              replace hm7 : m7 ≤ m6 := hm7
                              cases m7 with
                              | zero =>
                                replace h : L58_7 0 z1 b8 = some (r1, r2, r3, r4) := h
                                rw [L58_7] at h
                                cases h
                              | succ m7 =>
                                replace h : L58_7 (m7 + 1) z1 b8 = some (r1, r2, r3, r4) := h
                                rw [L58_7] at h
                                try cbv
                                cases b8
                                · replace h := ite_f Bool.false_ne_true h
                                  try cbv
                                  refine seq_join (T := Nat × Bool) (fun t => ⟨[(0, .v (.d (.int .u8 z1))), (2, .v (.c (.ptr (.loc 0) 0))), (3, .v (.d (.bool false))), (4, .v (.d (.int .u8 z1))), (10, .v (.d (.bool t.2)))], [(.loc 0, .cells [.d (.bool false), .d (.int .i64 0), .d (.int .i64 0)])], 608⟩) (fun t => t.1 ≤ m7 ∧ L58_8 t.1 z1 t.2 = some (r1, r2, r3, r4)) ?_ ?_
                                  · try cbv
                                    refine splitI (fun e => ?_) (fun e => ?_)
                                    · replace h := ite_t e h
                                      clear e
                                      try cbv
                                      exact join_next (m7, true) [0, 2, 3, 4, 10] [.loc 0] 608 ⟨by omega, h⟩ (by cbv)
                                    · replace h := ite_f e h
                                      clear e
                                      try cbv
                                      exact join_next (m7, false) [0, 2, 3, 4, 10] [.loc 0] 608 ⟨by omega, h⟩ (by cbv)
                                  · clear h
                                    rintro ⟨m8, b9⟩ ⟨hm8, h⟩
                                    replace hm8 : m8 ≤ m7 := hm8
                                    cases m8 with
                                    | zero =>
                                      replace h : L58_8 0 z1 b9 = some (r1, r2, r3, r4) := h
                                      rw [L58_8] at h
                                      cases h
                                    | succ m8 =>
                                      replace h : L58_8 (m8 + 1) z1 b9 = some (r1, r2, r3, r4) := h
                                      rw [L58_8] at h
                                      try cbv
                                      cases b9
                                      · replace h := ite_f Bool.false_ne_true h
                                        try cbv
                                        refine seq_join (T := Nat × Bool) (fun t => ⟨[(0, .v (.d (.int .u8 z1))), (2, .v (.c (.ptr (.loc 0) 0))), (3, .v (.d (.bool false))), (4, .v (.d (.int .u8 z1))), (10, .v (.d (.bool t.2)))], [(.loc 0, .cells [.d (.bool false), .d (.int .i64 0), .d (.int .i64 0)])], 672⟩) (fun t => t.1 ≤ m8 ∧ L58_9 t.1 z1 t.2 = some (r1, r2, r3, r4)) ?_ ?_
                                        · try cbv
                                          refine splitI (fun e => ?_) (fun e => ?_)
                                          · replace h := ite_t e h
                                            clear e
                                            try cbv
                                            exact join_next (m8, true) [0, 2, 3, 4, 10] [.loc 0] 672 ⟨by omega, h⟩ (by cbv)
                                          · replace h := ite_f e h
                                            clear e
                                            try cbv
                                            exact join_next (m8, false) [0, 2, 3, 4, 10] [.loc 0] 672 ⟨by omega, h⟩ (by cbv)
                                        · clear h
                                          rintro ⟨m9, b10⟩ ⟨hm9, h⟩
                                          replace hm9 : m9 ≤ m8 := hm9
                                          cases m9 with
                                          | zero =>
                                            replace h : L58_9 0 z1 b10 = some (r1, r2, r3, r4) := h
                                            rw [L58_9] at h
                                            cases h
                                          | succ m9 =>
                                            replace h : L58_9 (m9 + 1) z1 b10 = some (r1, r2, r3, r4) := h
                                            rw [L58_9] at h
                                            try cbv
                                            cases b10
                                            · replace h := ite_f Bool.false_ne_true h
                                              try cbv
                                              refine splitI (fun e => ?_) (fun e => ?_)
                                              · replace h := ite_t e h
                                                clear e
                                                try cbv
                                                exact join_next (m9, true) [0, 2, 3, 4, 10] [.loc 0] 736 ⟨by omega, h⟩ (by cbv)
                                              · replace h := ite_f e h
                                                clear e
                                                try cbv
                                                exact join_next (m9, false) [0, 2, 3, 4, 10] [.loc 0] 736 ⟨by omega, h⟩ (by cbv)
                                            · replace h := ite_t rfl h
                                              try cbv
                                              exact join_next (m9, true) [0, 2, 3, 4, 10] [.loc 0] 736 ⟨by omega, h⟩ (by cbv)
                                      · replace h := ite_t rfl h
                                        try cbv
                                        exact join_next (m8, true) [0, 2, 3, 4, 10] [.loc 0] 736 ⟨by omega, h⟩ (by cbv)
                                · replace h := ite_t rfl h
                                  try cbv
                                  exact join_next (m7, true) [0, 2, 3, 4, 10] [.loc 0] 736 ⟨by omega, h⟩ (by cbv)
                          · replace h := ite_t rfl h
                            try cbv
                            exact join_next (m6, true) [0, 2, 3, 4, 10] [.loc 0] 736 ⟨by omega, h⟩ (by cbv)
                    · replace h := ite_t rfl h
                      try cbv
                      exact join_next (m5, true) [0, 2, 3, 4, 10] [.loc 0] 736 ⟨by omega, h⟩ (by cbv)
              · replace h := ite_t rfl h
                try cbv
                exact join_next (m4, true) [0, 2, 3, 4, 10] [.loc 0] 736 ⟨by omega, h⟩ (by cbv)
        · clear h
          rintro ⟨m10, b11⟩ ⟨hm10, h⟩
          replace hm10 : m10 ≤ m3 := hm10
          cases m10 with
          | zero =>
            replace h : L58_10 0 z1 b11 = some (r1, r2, r3, r4) := h
            rw [L58_10] at h
            cases h
          | succ m10 =>
            replace h : L58_10 (m10 + 1) z1 b11 = some (r1, r2, r3, r4) := h
            rw [L58_10] at h
            try cbv
            cases b11
            · replace h := ite_f Bool.false_ne_true h
              try cbv
              refine seq_join (T := Nat × Bool) (fun t => ⟨[(0, .v (.d (.int .u8 z1))), (2, .v (.c (.ptr (.loc 0) 0))), (3, .v (.d (.bool false))), (4, .v (.d (.int .u8 z1))), (19, .v (.d (.bool t.2)))], [(.loc 0, .cells [.d (.bool false), .d (.int .i64 0), .d (.int .i64 0)])], 992⟩) (fun t => t.1 ≤ m10 ∧ L58_14 t.1 z1 t.2 = some (r1, r2, r3, r4)) ?_ ?_
              · try cbv
                refine seq_join (T := Nat × Bool) (fun t => ⟨[(0, .v (.d (.int .u8 z1))), (2, .v (.c (.ptr (.loc 0) 0))), (3, .v (.d (.bool false))), (4, .v (.d (.int .u8 z1))), (19, .v (.d (.bool t.2)))], [(.loc 0, .cells [.d (.bool false), .d (.int .i64 0), .d (.int .i64 0)])], 800⟩) (fun t => t.1 ≤ m10 ∧ L58_11 t.1 z1 t.2 = some (r1, r2, r3, r4)) ?_ ?_
                · try cbv
                  refine splitI (fun e => ?_) (fun e => ?_)
                  · replace h := ite_t e h
                    clear e
                    try cbv
                    exact join_next (m10, true) [0, 2, 3, 4, 19] [.loc 0] 800 ⟨by omega, h⟩ (by cbv)
                  · replace h := ite_f e h
                    clear e
                    try cbv
                    exact join_next (m10, false) [0, 2, 3, 4, 19] [.loc 0] 800 ⟨by omega, h⟩ (by cbv)
                · clear h
                  rintro ⟨m11, b12⟩ ⟨hm11, h⟩
                  replace hm11 : m11 ≤ m10 := hm11
                  cases m11 with
                  | zero =>
                    replace h : L58_11 0 z1 b12 = some (r1, r2, r3, r4) := h
                    rw [L58_11] at h
                    cases h
                  | succ m11 =>
                    replace h : L58_11 (m11 + 1) z1 b12 = some (r1, r2, r3, r4) := h
                    rw [L58_11] at h
                    try cbv
                    cases b12
                    · replace h := ite_f Bool.false_ne_true h
                      try cbv
                      refine seq_join (T := Nat × Bool) (fun t => ⟨[(0, .v (.d (.int .u8 z1))), (2, .v (.c (.ptr (.loc 0) 0))), (3, .v (.d (.bool false))), (4, .v (.d (.int .u8 z1))), (19, .v (.d (.bool t.2)))], [(.loc 0, .cells [.d (.bool false), .d (.int .i64 0), .d (.int .i64 0)])], 864⟩) (fun t => t.1 ≤ m11 ∧ L58_12 t.1 z1 t.2 = some (r1, r2, r3, r4)) ?_ ?_
                      · try cbv
                        refine splitI (fun e => ?_) (fun e => ?_)
                        · replace h := ite_t e h
                          clear e
                          try cbv
                          exact join_next (m11, true) [0, 2, 3, 4, 19] [.loc 0] 864 ⟨by omega, h⟩ (by cbv)
                        · replace h := ite_f e h
                          clear e
                          try cbv
                          exact join_next (m11, false) [0, 2, 3, 4, 19] [.loc 0] 864 ⟨by omega, h⟩ (by cbv)
                      · clear h
                        rintro ⟨m12, b13⟩ ⟨hm12, h⟩
                        replace hm12 : m12 ≤ m11 := hm12
                        cases m12 with
                        | zero =>
                          replace h : L58_12 0 z1 b13 = some (r1, r2, r3, r4) := h
                          rw [L58_12] at h
                          cases h
                        | succ m12 =>
                          replace h : L58_12 (m12 + 1) z1 b13 = some (r1, r2, r3, r4) := h
                          rw [L58_12] at h
                          try cbv
                          cases b13
                          · replace h := ite_f Bool.false_ne_true h
                            try cbv
                            refine seq_join (T := Nat × Bool) (fun t => ⟨[(0, .v (.d (.int .u8 z1))), (2, .v (.c (.ptr (.loc 0) 0))), (3, .v (.d (.bool false))), (4, .v (.d (.int .u8 z1))), (19, .v (.d (.bool t.2)))], [(.loc 0, .cells [.d (.bool false), .d (.int .i64 0), .d (.int .i64 0)])], 928⟩) (fun t => t.1 ≤ m12 ∧ L58_13 t.1 z1 t.2 = some (r1, r2, r3, r4)) ?_ ?_
                            · try cbv
                              refine splitI (fun e => ?_) (fun e => ?_)
                              · replace h := ite_t e h
                                clear e
                                try cbv
                                exact join_next (m12, true) [0, 2, 3, 4, 19] [.loc 0] 928 ⟨by omega, h⟩ (by cbv)
                              · replace h := ite_f e h
                                clear e
                                try cbv
                                exact join_next (m12, false) [0, 2, 3, 4, 19] [.loc 0] 928 ⟨by omega, h⟩ (by cbv)
                            · clear h
                              rintro ⟨m13, b14⟩ ⟨hm13, h⟩
                              replace hm13 : m13 ≤ m12 := hm13
                              cases m13 with
                              | zero =>
                                replace h : L58_13 0 z1 b14 = some (r1, r2, r3, r4) := h
                                rw [L58_13] at h
                                cases h
                              | succ m13 =>
                                replace h : L58_13 (m13 + 1) z1 b14 = some (r1, r2, r3, r4) := h
                                rw [L58_13] at h
                                try cbv
                                cases b14
                                · replace h := ite_f Bool.false_ne_true h
                                  try cbv
                                  refine splitI (fun e => ?_) (fun e => ?_)
                                  · replace h := ite_t e h
                                    clear e
                                    try cbv
                                    exact join_next (m13, true) [0, 2, 3, 4, 19] [.loc 0] 992 ⟨by omega, h⟩ (by cbv)
                                  · replace h := ite_f e h
                                    clear e
                                    try cbv
                                    exact join_next (m13, false) [0, 2, 3, 4, 19] [.loc 0] 992 ⟨by omega, h⟩ (by cbv)
                                · replace h := ite_t rfl h
                                  try cbv
                                  exact join_next (m13, true) [0, 2, 3, 4, 19] [.loc 0] 992 ⟨by omega, h⟩ (by cbv)
                          · replace h := ite_t rfl h
                            try cbv
                            exact join_next (m12, true) [0, 2, 3, 4, 19] [.loc 0] 992 ⟨by omega, h⟩ (by cbv)
                    · replace h := ite_t rfl h
                      try cbv
                      exact join_next (m11, true) [0, 2, 3, 4, 19] [.loc 0] 992 ⟨by omega, h⟩ (by cbv)
              · clear h
                rintro ⟨m14, b15⟩ ⟨hm14, h⟩
                replace hm14 : m14 ≤ m10 := hm14
                cases m14 with
                | zero =>
                  replace h : L58_14 0 z1 b15 = some (r1, r2, r3, r4) := h
                  rw [L58_14] at h
                  cases h
                | succ m14 =>
                  replace h : L58_14 (m14 + 1) z1 b15 = some (r1, r2, r3, r4) := h
                  rw [L58_14] at h
                  try cbv
                  cases b15
                  · replace h := ite_f Bool.false_ne_true h
                    try cbv
                    refine seq_join (T := Nat × Bool) (fun t => ⟨[(0, .v (.d (.int .u8 z1))), (2, .v (.c (.ptr (.loc 0) 0))), (3, .v (.d (.bool false))), (4, .v (.d (.int .u8 z1))), (25, .v (.d (.bool t.2)))], [(.loc 0, .cells [.d (.bool false), .d (.int .i64 0), .d (.int .i64 0)])], 1120⟩) (fun t => t.1 ≤ m14 ∧ L58_16 t.1 z1 t.2 = some (r1, r2, r3, r4)) ?_ ?_
                    · try cbv
                      refine seq_join (T := Nat × Bool) (fun t => ⟨[(0, .v (.d (.int .u8 z1))), (2, .v (.c (.ptr (.loc 0) 0))), (3, .v (.d (.bool false))), (4, .v (.d (.int .u8 z1))), (25, .v (.d (.bool t.2)))], [(.loc 0, .cells [.d (.bool false), .d (.int .i64 0), .d (.int .i64 0)])], 1056⟩) (fun t => t.1 ≤ m14 ∧ L58_15 t.1 z1 t.2 = some (r1, r2, r3, r4)) ?_ ?_
                      · try cbv
                        refine splitI (fun e => ?_) (fun e => ?_)
                        · replace h := ite_t e h
                          clear e
                          try cbv
                          exact join_next (m14, true) [0, 2, 3, 4, 25] [.loc 0] 1056 ⟨by omega, h⟩ (by cbv)
                        · replace h := ite_f e h
                          clear e
                          try cbv
                          exact join_next (m14, false) [0, 2, 3, 4, 25] [.loc 0] 1056 ⟨by omega, h⟩ (by cbv)
                      · clear h
                        rintro ⟨m15, b16⟩ ⟨hm15, h⟩
                        replace hm15 : m15 ≤ m14 := hm15
                        cases m15 with
                        | zero =>
                          replace h : L58_15 0 z1 b16 = some (r1, r2, r3, r4) := h
                          rw [L58_15] at h
                          cases h
                        | succ m15 =>
                          replace h : L58_15 (m15 + 1) z1 b16 = some (r1, r2, r3, r4) := h
                          rw [L58_15] at h
                          try cbv
                          cases b16
                          · replace h := ite_f Bool.false_ne_true h
                            try cbv
                            refine splitI (fun e => ?_) (fun e => ?_)
                            · replace h := ite_t e h
                              clear e
                              try cbv
                              exact join_next (m15, true) [0, 2, 3, 4, 25] [.loc 0] 1120 ⟨by omega, h⟩ (by cbv)
                            · replace h := ite_f e h
                              clear e
                              try cbv
                              exact join_next (m15, false) [0, 2, 3, 4, 25] [.loc 0] 1120 ⟨by omega, h⟩ (by cbv)
                          · replace h := ite_t rfl h
                            try cbv
                            exact join_next (m15, true) [0, 2, 3, 4, 25] [.loc 0] 1120 ⟨by omega, h⟩ (by cbv)
                    · clear h
                      rintro ⟨m16, b17⟩ ⟨hm16, h⟩
                      replace hm16 : m16 ≤ m14 := hm16
                      cases m16 with
                      | zero =>
                        replace h : L58_16 0 z1 b17 = some (r1, r2, r3, r4) := h
                        rw [L58_16] at h
                        cases h
                      | succ m16 =>
                        replace h : L58_16 (m16 + 1) z1 b17 = some (r1, r2, r3, r4) := h
                        rw [L58_16] at h
                        try cbv
                        cases b17
                        · replace h := ite_f Bool.false_ne_true h
                          try cbv
                          refine seq_join (T := Nat × Bool) (fun t => ⟨[(0, .v (.d (.int .u8 z1))), (2, .v (.c (.ptr (.loc 0) 0))), (3, .v (.d (.bool false))), (4, .v (.d (.int .u8 z1))), (29, .v (.d (.bool t.2)))], [(.loc 0, .cells [.d (.bool false), .d (.int .i64 0), .d (.int .i64 0)])], 1184⟩) (fun t => t.1 ≤ m16 ∧ L58_17 t.1 z1 t.2 = some (r1, r2, r3, r4)) ?_ ?_
                          · try cbv
                            refine splitI (fun e => ?_) (fun e => ?_)
                            · replace h := ite_t e h
                              clear e
                              try cbv
                              exact join_next (m16, true) [0, 2, 3, 4, 29] [.loc 0] 1184 ⟨by omega, h⟩ (by cbv)
                            · replace h := ite_f e h
                              clear e
                              try cbv
                              exact join_next (m16, false) [0, 2, 3, 4, 29] [.loc 0] 1184 ⟨by omega, h⟩ (by cbv)
                          · clear h
                            rintro ⟨m17, b18⟩ ⟨hm17, h⟩
                            replace hm17 : m17 ≤ m16 := hm17
                            cases m17 with
                            | zero =>
                              replace h : L58_17 0 z1 b18 = some (r1, r2, r3, r4) := h
                              rw [L58_17] at h
                              cases h
                            | succ m17 =>
                              replace h : L58_17 (m17 + 1) z1 b18 = some (r1, r2, r3, r4) := h
                              rw [L58_17] at h
                              try cbv
                              cases b18
                              · replace h := ite_f Bool.false_ne_true h
                                try cbv
                                refine seq_join (T := Nat × Bool) (fun t => ⟨[(0, .v (.d (.int .u8 z1))), (2, .v (.c (.ptr (.loc 0) 0))), (3, .v (.d (.bool false))), (32, .v (.d (.bool t.2)))], [(.loc 0, .cells [.d (.bool false), .d (.int .i64 0), .d (.int .i64 0)])], 1760⟩) (fun t => t.1 ≤ m17 ∧ L58_26 t.1 z1 t.2 = some (r1, r2, r3, r4)) ?_ ?_
                                · try cbv
                                  refine seq_join (T := Nat × Bool) (fun t => ⟨[(0, .v (.d (.int .u8 z1))), (2, .v (.c (.ptr (.loc 0) 0))), (3, .v (.d (.bool false))), (4, .v (.d (.int .u8 z1))), (32, .v (.d (.bool t.2)))], [(.loc 0, .cells [.d (.bool false), .d (.int .i64 0), .d (.int .i64 0)])], 1248⟩) (fun t => t.1 ≤ m17 ∧ L58_18 t.1 z1 t.2 = some (r1, r2, r3, r4)) ?_ ?_
                                  · try cbv
                                    refine splitI (fun e => ?_) (fun e => ?_)
                                    · replace h := ite_t e h
                                      clear e
                                      try cbv
                                      exact join_next (m17, true) [0, 2, 3, 4, 32] [.loc 0] 1248 ⟨by omega, h⟩ (by cbv)
                                    · replace h := ite_f e h
                                      clear e
                                      try cbv
                                      exact join_next (m17, false) [0, 2, 3, 4, 32] [.loc 0] 1248 ⟨by omega, h⟩ (by cbv)
                                  · clear h
                                    rintro ⟨m18, b19⟩ ⟨hm18, h⟩
                                    replace hm18 : m18 ≤ m17 := hm18
                                    cases m18 with
                                    | zero =>
                                      replace h : L58_18 0 z1 b19 = some (r1, r2, r3, r4) := h
                                      rw [L58_18] at h
                                      cases h
                                    | succ m18 =>
                                      replace h : L58_18 (m18 + 1) z1 b19 = some (r1, r2, r3, r4) := h
                                      rw [L58_18] at h
                                      try cbv
                                      cases b19
                                      · replace h := ite_f Bool.false_ne_true h
                                        try cbv
                                        refine seq_join (T := Nat × Bool) (fun t => ⟨[(0, .v (.d (.int .u8 z1))), (2, .v (.c (.ptr (.loc 0) 0))), (3, .v (.d (.bool false))), (4, .v (.d (.int .u8 z1))), (32, .v (.d (.bool t.2)))], [(.loc 0, .cells [.d (.bool false), .d (.int .i64 0), .d (.int .i64 0)])], 1312⟩) (fun t => t.1 ≤ m18 ∧ L58_19 t.1 z1 t.2 = some (r1, r2, r3, r4)) ?_ ?_
                                        · try cbv
                                          refine splitI (fun e => ?_) (fun e => ?_)
                                          · replace h := ite_t e h
                                            clear e
                                            try cbv
                                            exact join_next (m18, true) [0, 2, 3, 4, 32] [.loc 0] 1312 ⟨by omega, h⟩ (by cbv)
                                          · replace h := ite_f e h
                                            clear e
                                            try cbv
                                            exact join_next (m18, false) [0, 2, 3, 4, 32] [.loc 0] 1312 ⟨by omega, h⟩ (by cbv)
                                        · clear h
                                          rintro ⟨m19, b20⟩ ⟨hm19, h⟩
                                          replace hm19 : m19 ≤ m18 := hm19
                                          cases m19 with
                                          | zero =>
                                            replace h : L58_19 0 z1 b20 = some (r1, r2, r3, r4) := h
                                            rw [L58_19] at h
                                            cases h
                                          | succ m19 =>
                                            replace h : L58_19 (m19 + 1) z1 b20 = some (r1, r2, r3, r4) := h
                                            rw [L58_19] at h
                                            try cbv
                                            cases b20
                                            · replace h := ite_f Bool.false_ne_true h
                                              try cbv
                                              refine seq_join (T := Nat × Bool) (fun t => ⟨[(0, .v (.d (.int .u8 z1))), (2, .v (.c (.ptr (.loc 0) 0))), (3, .v (.d (.bool false))), (4, .v (.d (.int .u8 z1))), (32, .v (.d (.bool t.2)))], [(.loc 0, .cells [.d (.bool false), .d (.int .i64 0), .d (.int .i64 0)])], 1376⟩) (fun t => t.1 ≤ m19 ∧ L58_20 t.1 z1 t.2 = some (r1, r2, r3, r4)) ?_ ?_
                                              · try cbv
                                                refine splitI (fun e => ?_) (fun e => ?_)
                                                · replace h := ite_t e h
                                                  clear e
                                                  try cbv
                                                  exact join_next (m19, true) [0, 2, 3, 4, 32] [.loc 0] 1376 ⟨by omega, h⟩ (by cbv)
                                                · replace h := ite_f e h
                                                  clear e
                                                  try cbv
                                                  exact join_next (m19, false) [0, 2, 3, 4, 32] [.loc 0] 1376 ⟨by omega, h⟩ (by cbv)
                                              · clear h
                                                rintro ⟨m20, b21⟩ ⟨hm20, h⟩
                                                replace hm20 : m20 ≤ m19 := hm20
                                                cases m20 with
                                                | zero =>
                                                  replace h : L58_20 0 z1 b21 = some (r1, r2, r3, r4) := h
                                                  rw [L58_20] at h
                                                  cases h
                                                | succ m20 =>
                                                  replace h : L58_20 (m20 + 1) z1 b21 = some (r1, r2, r3, r4) := h
                                                  rw [L58_20] at h
                                                  try cbv
                                                  cases b21
                                                  · replace h := ite_f Bool.false_ne_true h
                                                    try cbv
                                                    refine seq_join (T := Nat × Bool) (fun t => ⟨[(0, .v (.d (.int .u8 z1))), (2, .v (.c (.ptr (.loc 0) 0))), (3, .v (.d (.bool false))), (4, .v (.d (.int .u8 z1))), (32, .v (.d (.bool t.2)))], [(.loc 0, .cells [.d (.bool false), .d (.int .i64 0), .d (.int .i64 0)])], 1440⟩) (fun t => t.1 ≤ m20 ∧ L58_21 t.1 z1 t.2 = some (r1, r2, r3, r4)) ?_ ?_
                                                    · try cbv
                                                      refine splitI (fun e => ?_) (fun e => ?_)
                                                      · replace h := ite_t e h
                                                        clear e
                                                        try cbv
                                                        exact join_next (m20, true) [0, 2, 3, 4, 32] [.loc 0] 1440 ⟨by omega, h⟩ (by cbv)
                                                      · replace h := ite_f e h
                                                        clear e
                                                        try cbv
                                                        exact join_next (m20, false) [0, 2, 3, 4, 32] [.loc 0] 1440 ⟨by omega, h⟩ (by cbv)
                                                    · clear h
                                                      rintro ⟨m21, b22⟩ ⟨hm21, h⟩
                                                      replace hm21 : m21 ≤ m20 := hm21
                                                      cases m21 with
                                                      | zero =>
                                                        replace h : L58_21 0 z1 b22 = some (r1, r2, r3, r4) := h
                                                        rw [L58_21] at h
                                                        cases h
                                                      | succ m21 =>
                                                        replace h : L58_21 (m21 + 1) z1 b22 = some (r1, r2, r3, r4) := h
                                                        rw [L58_21] at h
                                                        try cbv
                                                        cases b22
                                                        · replace h := ite_f Bool.false_ne_true h
                                                          try cbv
                                                          refine seq_join (T := Nat × Bool) (fun t => ⟨[(0, .v (.d (.int .u8 z1))), (2, .v (.c (.ptr (.loc 0) 0))), (3, .v (.d (.bool false))), (4, .v (.d (.int .u8 z1))), (32, .v (.d (.bool t.2)))], [(.loc 0, .cells [.d (.bool false), .d (.int .i64 0), .d (.int .i64 0)])], 1504⟩) (fun t => t.1 ≤ m21 ∧ L58_22 t.1 z1 t.2 = some (r1, r2, r3, r4)) ?_ ?_
                                                          · try cbv
                                                            refine splitI (fun e => ?_) (fun e => ?_)
                                                            · replace h := ite_t e h
                                                              clear e
                                                              try cbv
                                                              exact join_next (m21, true) [0, 2, 3, 4, 32] [.loc 0] 1504 ⟨by omega, h⟩ (by cbv)
                                                            · replace h := ite_f e h
                                                              clear e
                                                              try cbv
                                                              exact join_next (m21, false) [0, 2, 3, 4, 32] [.loc 0] 1504 ⟨by omega, h⟩ (by cbv)
                                                          · clear h
                                                            rintro ⟨m22, b23⟩ ⟨hm22, h⟩
                                                            replace hm22 : m22 ≤ m21 := hm22
                                                            cases m22 with
                                                            | zero =>
                                                              replace h : L58_22 0 z1 b23 = some (r1, r2, r3, r4) := h
                                                              rw [L58_22] at h
                                                              cases h
                                                            | succ m22 =>
                                                              replace h : L58_22 (m22 + 1) z1 b23 = some (r1, r2, r3, r4) := h
                                                              rw [L58_22] at h
                                                              try cbv
                                                              cases b23
                                                              · replace h := ite_f Bool.false_ne_true h
                                                                try cbv
                                                                refine seq_join (T := Nat × Bool) (fun t => ⟨[(0, .v (.d (.int .u8 z1))), (2, .v (.c (.ptr (.loc 0) 0))), (3, .v (.d (.bool false))), (4, .v (.d (.int .u8 z1))), (32, .v (.d (.bool t.2)))], [(.loc 0, .cells [.d (.bool false), .d (.int .i64 0), .d (.int .i64 0)])], 1568⟩) (fun t => t.1 ≤ m22 ∧ L58_23 t.1 z1 t.2 = some (r1, r2, r3, r4)) ?_ ?_
                                                                · try cbv
                                                                  refine splitI (fun e => ?_) (fun e => ?_)
                                                                  · replace h := ite_t e h
                                                                    clear e
                                                                    try cbv
                                                                    exact join_next (m22, true) [0, 2, 3, 4, 32] [.loc 0] 1568 ⟨by omega, h⟩ (by cbv)
                                                                  · replace h := ite_f e h
                                                                    clear e
                                                                    try cbv
                                                                    exact join_next (m22, false) [0, 2, 3, 4, 32] [.loc 0] 1568 ⟨by omega, h⟩ (by cbv)
                                                                · clear h
                                                                  rintro ⟨m23, b24⟩ ⟨hm23, h⟩
                                                                  replace hm23 : m23 ≤ m22 := hm23
                                                                  cases m23 with
                                                                  | zero =>
                                                                    replace h : L58_23 0 z1 b24 = some (r1, r2, r3, r4) := h
                                                                    rw [L58_23] at h
                                                                    cases h
                                                                  | succ m23 =>
                                                                    replace h : L58_23 (m23 + 1) z1 b24 = some (r1, r2, r3, r4) := h
                                                                    rw [L58_23] at h
                                                                    try cbv
                                                                    cases b24
                                                                    · replace h := ite_f Bool.false_ne_true h
                                                                      try cbv
                                                                      refine seq_join (T := Nat × Bool) (fun t => ⟨[(0, .v (.d (.int .u8 z1))), (2, .v (.c (.ptr (.loc 0) 0))), (3, .v (.d (.bool false))), (4, .v (.d (.int .u8 z1))), (32, .v (.d (.bool t.2)))], [(.loc 0, .cells [.d (.bool false), .d (.int .i64 0), .d (.int .i64 0)])], 1632⟩) (fun t => t.1 ≤ m23 ∧ L58_24 t.1 z1 t.2 = some (r1, r2, r3, r4)) ?_ ?_
                                                                      · try cbv
                                                                        refine splitI (fun e => ?_) (fun e => ?_)
                                                                        · replace h := ite_t e h
                                                                          clear e
                                                                          try cbv
                                                                          exact join_next (m23, true) [0, 2, 3, 4, 32] [.loc 0] 1632 ⟨by omega, h⟩ (by cbv)
                                                                        · replace h := ite_f e h
                                                                          clear e
                                                                          try cbv
                                                                          exact join_next (m23, false) [0, 2, 3, 4, 32] [.loc 0] 1632 ⟨by omega, h⟩ (by cbv)
                                                                      · clear h
                                                                        rintro ⟨m24, b25⟩ ⟨hm24, h⟩
                                                                        replace hm24 : m24 ≤ m23 := hm24
                                                                        cases m24 with
                                                                        | zero =>
                                                                          replace h : L58_24 0 z1 b25 = some (r1, r2, r3, r4) := h
                                                                          rw [L58_24] at h
                                                                          cases h
                                                                        | succ m24 =>
                                                                          replace h : L58_24 (m24 + 1) z1 b25 = some (r1, r2, r3, r4) := h
                                                                          rw [L58_24] at h
                                                                          try cbv
                                                                          cases b25
                                                                          · replace h := ite_f Bool.false_ne_true h
                                                                            try cbv
                                                                            refine seq_join (T := Nat × Bool) (fun t => ⟨[(0, .v (.d (.int .u8 z1))), (2, .v (.c (.ptr (.loc 0) 0))), (3, .v (.d (.bool false))), (4, .v (.d (.int .u8 z1))), (32, .v (.d (.bool t.2)))], [(.loc 0, .cells [.d (.bool false), .d (.int .i64 0), .d (.int .i64 0)])], 1696⟩) (fun t => t.1 ≤ m24 ∧ L58_25 t.1 z1 t.2 = some (r1, r2, r3, r4)) ?_ ?_
                                                                            · try cbv
                                                                              refine splitI (fun e => ?_) (fun e => ?_)
                                                                              · replace h := ite_t e h
                                                                                clear e
                                                                                try cbv
                                                                                exact join_next (m24, true) [0, 2, 3, 4, 32] [.loc 0] 1696 ⟨by omega, h⟩ (by cbv)
                                                                              · replace h := ite_f e h
                                                                                clear e
                                                                                try cbv
                                                                                exact join_next (m24, false) [0, 2, 3, 4, 32] [.loc 0] 1696 ⟨by omega, h⟩ (by cbv)
                                                                            · clear h
                                                                              rintro ⟨m25, b26⟩ ⟨hm25, h⟩
                                                                              replace hm25 : m25 ≤ m24 := hm25
                                                                              cases m25 with
                                                                              | zero =>
                                                                                replace h : L58_25 0 z1 b26 = some (r1, r2, r3, r4) := h
                                                                                rw [L58_25] at h
                                                                                cases h
                                                                              | succ m25 =>
                                                                                replace h : L58_25 (m25 + 1) z1 b26 = some (r1, r2, r3, r4) := h
                                                                                rw [L58_25] at h
                                                                                try cbv
                                                                                cases b26
                                                                                · replace h := ite_f Bool.false_ne_true h
                                                                                  try cbv
                                                                                  refine splitI (fun e => ?_) (fun e => ?_)
                                                                                  · replace h := ite_t e h
                                                                                    clear e
                                                                                    try cbv
                                                                                    exact join_next (m25, true) [0, 2, 3, 32] [.loc 0] 1760 ⟨by omega, h⟩ (by cbv)
                                                                                  · replace h := ite_f e h
                                                                                    clear e
                                                                                    try cbv
                                                                                    exact join_next (m25, false) [0, 2, 3, 32] [.loc 0] 1760 ⟨by omega, h⟩ (by cbv)
                                                                                · replace h := ite_t rfl h
                                                                                  try cbv
                                                                                  exact join_next (m25, true) [0, 2, 3, 32] [.loc 0] 1760 ⟨by omega, h⟩ (by cbv)
                                                                          · replace h := ite_t rfl h
                                                                            try cbv
                                                                            exact join_next (m24, true) [0, 2, 3, 32] [.loc 0] 1760 ⟨by omega, h⟩ (by cbv)
                                                                    · replace h := ite_t rfl h
                                                                      try cbv
                                                                      exact join_next (m23, true) [0, 2, 3, 32] [.loc 0] 1760 ⟨by omega, h⟩ (by cbv)
                                                              · replace h := ite_t rfl h
                                                                try cbv
                                                                exact join_next (m22, true) [0, 2, 3, 32] [.loc 0] 1760 ⟨by omega, h⟩ (by cbv)
                                                        · replace h := ite_t rfl h
                                                          try cbv
                                                          exact join_next (m21, true) [0, 2, 3, 32] [.loc 0] 1760 ⟨by omega, h⟩ (by cbv)
                                                  · replace h := ite_t rfl h
                                                    try cbv
                                                    exact join_next (m20, true) [0, 2, 3, 32] [.loc 0] 1760 ⟨by omega, h⟩ (by cbv)
                                            · replace h := ite_t rfl h
                                              try cbv
                                              exact join_next (m19, true) [0, 2, 3, 32] [.loc 0] 1760 ⟨by omega, h⟩ (by cbv)
                                      · replace h := ite_t rfl h
                                        try cbv
                                        exact join_next (m18, true) [0, 2, 3, 32] [.loc 0] 1760 ⟨by omega, h⟩ (by cbv)
                                · clear h
                                  rintro ⟨m26, b27⟩ ⟨hm26, h⟩
                                  replace hm26 : m26 ≤ m17 := hm26
                                  cases m26 with
                                  | zero =>
                                    replace h : L58_26 0 z1 b27 = some (r1, r2, r3, r4) := h
                                    rw [L58_26] at h
                                    cases h
                                  | succ m26 =>
                                    replace h : L58_26 (m26 + 1) z1 b27 = some (r1, r2, r3, r4) := h
                                    rw [L58_26] at h
                                    try cbv
                                    cases b27
                                    · replace h := ite_f Bool.false_ne_true h
                                      try cbv
                                      refine seq_go ?_
                                      try cbv
                                      refine splitLe (fun e => ?_) (fun e => ?_)
                                      · replace h := ite_t e h
                                        clear e
                                        try cbv
                                        refine splitLe (fun e => ?_) (fun e => ?_)
                                        · replace h := ite_t e h
                                          clear e
                                          try cbv
                                          obtain ⟨rfl, rfl, rfl, rfl⟩ := inj4 h
                                          refine fin_go ?_
                                          try cbv
                                          exact ⟨[], rfl, rfl, trivial, trivial, trivial⟩
                                        · replace h := ite_f (Int.not_le.2 e) h
                                          clear e
                                          try cbv
                                          obtain ⟨rfl, rfl, rfl, rfl⟩ := inj4 h
                                          refine fin_go ?_
                                          try cbv
                                          exact ⟨[], rfl, rfl, trivial, trivial, trivial⟩
                                      · replace h := ite_f (Int.not_le.2 e) h
                                        clear e
                                        try cbv
                                        obtain ⟨rfl, rfl, rfl, rfl⟩ := inj4 h
                                        refine fin_go ?_
                                        try cbv
                                        exact ⟨[], rfl, rfl, trivial, trivial, trivial⟩
                                    · replace h := ite_t rfl h
                                      try cbv
                                      refine seq_go ?_
                                      try cbv
                                      obtain ⟨rfl, rfl, rfl, rfl⟩ := inj4 h
                                      refine fin_go ?_
                                      try cbv
                                      exact ⟨[], rfl, rfl, trivial, trivial, trivial⟩
                              · replace h := ite_t rfl h
                                try cbv
                                refine seq_go ?_
                                try cbv
                                obtain ⟨rfl, rfl, rfl, rfl⟩ := inj4 h
                                refine fin_go ?_
                                try cbv
                                exact ⟨[], rfl, rfl, trivial, trivial, trivial⟩
                        · replace h := ite_t rfl h
                          try cbv
                          refine seq_go ?_
                          try cbv
                          obtain ⟨rfl, rfl, rfl, rfl⟩ := inj4 h
                          refine fin_go ?_
                          try cbv
                          exact ⟨[], rfl, rfl, trivial, trivial, trivial⟩
                  · replace h := ite_t rfl h
                    try cbv
                    refine seq_go ?_
                    try cbv
                    obtain ⟨rfl, rfl, rfl, rfl⟩ := inj4 h
                    refine fin_go ?_
                    try cbv
                    exact ⟨[], rfl, rfl, trivial, trivial, trivial⟩
            · replace h := ite_t rfl h
              try cbv
              refine seq_go ?_
              try cbv
              obtain ⟨rfl, rfl, rfl, rfl⟩ := inj4 h
              refine fin_go ?_
              try cbv
              exact ⟨[], rfl, rfl, trivial, trivial, trivial⟩
      · replace h := ite_t rfl h
        try cbv
        refine seq_go ?_
        try cbv
        obtain ⟨rfl, rfl, rfl, rfl⟩ := inj4 h
        refine fin_go ?_
        try cbv
        exact ⟨[], rfl, rfl, trivial, trivial, trivial⟩
end Go.Proofs.YtjmofeakajdbiaaDoor
end

set_option linter.unusedVariables false
noncomputable section
namespace Go.Proofs.YtjmofeakajdbiaaDoor
open Go Go.AM
def L59_7 : Nat → Bool → Bool → Bool → Option (Bool)
  | 0, _, _, _ => none
  | n + 1, b21, b22, b23 =>
    (if b21 = true then (if b22 = true then some b23 else some false) else some false)
def L59_6 : Nat → ByteArray → ByteArray → Bool → Bool → Bool → Bool → Option (Bool)
  | 0, _, _, _, _, _, _ => none
  | n + 1, s3, s4, b9, b10, b11, b18 =>
    (if b18 = true then bO1 (F15 n s3) fun b19 => bO1 (F15 n s4) fun b20 => L59_7 n b19 b20 b11 else L59_7 n b9 b10 b11)
def L59_5 : Nat → Int → ByteArray → ByteArray → Bool → Bool → Bool → Bool → Option (Bool)
  | 0, _, _, _, _, _, _, _ => none
  | n + 1, z1, s3, s4, b9, b10, b11, b16 =>
    (if b16 = true then bO1 (F15 n s3) fun b17 => L59_7 n b17 b10 b11 else (if z1 = (20 : Int) then L59_6 n s3 s4 b9 b10 b11 true else L59_6 n s3 s4 b9 b10 b11 false))
def L59_4 : Nat → Int → ByteArray → ByteArray → Bool → Bool → Bool → Bool → Option (Bool)
  | 0, _, _, _, _, _, _, _ => none
  | n + 1, z1, s3, s4, b9, b10, b11, b14 =>
    (if b14 = true then bO1 (F13 n s3) fun b15 => L59_7 n b15 b10 b11 else (if z1 = (19 : Int) then L59_5 n z1 s3 s4 b9 b10 b11 true else L59_5 n z1 s3 s4 b9 b10 b11 false))
def L59_3 : Nat → Int → Int → ByteArray → ByteArray → Bool → Bool → Bool → Bool → Option (Bool)
  | 0, _, _, _, _, _, _, _, _ => none
  | n + 1, z1, z2, s3, s4, b9, b10, b11, b13 =>
    (if b13 = true then (if z2 = (0 : Int) then L59_7 n b9 b10 true else (if z2 = (1 : Int) then L59_7 n b9 b10 true else L59_7 n b9 b10 false)) else (if z1 = (18 : Int) then L59_4 n z1 s3 s4 b9 b10 b11 true else L59_4 n z1 s3 s4 b9 b10 b11 false))
def L59_2 : Nat → Int → Int → ByteArray → ByteArray → Bool → Bool → Bool → Bool → Option (Bool)
  | 0, _, _, _, _, _, _, _, _ => none
  | n + 1, z1, z2, s3, s4, b9, b10, b11, b12 =>
    (if b12 = true then (if (0 : Int) ≤ z2 then L59_7 n b9 b10 true else L59_7 n b9 b10 false) else (if z1 = (2 : Int) then L59_3 n z1 z2 s3 s4 b9 b10 b11 true else L59_3 n z1 z2 s3 s4 b9 b10 b11 false))
def L59_1 : Nat → Int → Int → ByteArray → ByteArray → Bool → Bool → Bool → Option (Bool)
  | 0, _, _, _, _, _, _, _ => none
  | n + 1, z1, z2, s3, s4, b9, b10, b11 =>
    (if z1 = (1 : Int) then L59_2 n z1 z2 s3 s4 b9 b10 b11 true else L59_2 n z1 z2 s3 s4 b9 b10 b11 false)
def F59 (n : Nat) (z1 : Int) (z2 : Int) (s3 : ByteArray) (s4 : ByteArray) (s5 : ByteArray) (l6 : List D) (l7 : List D) (z8 : Int) : Option (Bool) :=
  (if s3 = ByteArray.empty then (if s4 = ByteArray.empty then (if z2 = (0 : Int) then L59_1 n z1 z2 s3 s4 true true true else L59_1 n z1 z2 s3 s4 true true false) else (if z2 = (0 : Int) then L59_1 n z1 z2 s3 s4 true false true else L59_1 n z1 z2 s3 s4 true false false)) else (if s4 = ByteArray.empty then (if z2 = (0 : Int) then L59_1 n z1 z2 s3 s4 false true true else L59_1 n z1 z2 s3 s4 false true false) else (if z2 = (0 : Int) then L59_1 n z1 z2 s3 s4 false false true else L59_1 n z1 z2 s3 s4 false false false)))
set_option maxRecDepth 100000 in
set_option maxHeartbeats 40000000 in
theorem T59 (n : Nat) : ∀ ⦃z1 : Int⦄ ⦃z2 : Int⦄ ⦃s3 : ByteArray⦄ ⦃s4 : ByteArray⦄ ⦃s5 : ByteArray⦄ ⦃l6 : List D⦄ ⦃l7 : List D⦄ ⦃z8 : Int⦄ ⦃r1 : Bool⦄, F59 n z1 z2 s3 s4 s5 l6 l7 z8 = some r1 →
    Trip Tryd.prog inv 59 [.d (.agg [.int .u8 z1, .int .i64 z2, .str s3, .str s4, .str s5, .list false 1 l6, .list true 8 l7, .int .i64 z8])] [] (.v (.d (.bool r1))) [] [] := by
  intro z1 z2 s3 s4 s5 l6 l7 z8 r1 h
  unfold F59 at h
  refine Trip.of tab_ok tab_one fol Tryd.func59 rfl (by kernel_rfl) rfl rfl rfl (fun M hM hI => ?_)
  try cbv
  refine seq_go ?_
  try cbv
  refine seq_join (T := Nat × Bool × Bool × Bool) (fun t => ⟨[(1, .v (.c (.ptr (.loc 0) 0))), (2, .v (.d (.bool false))), (3, .v (.d (.bool t.2.1))), (4, .v (.d (.bool t.2.2.1))), (5, .v (.d (.bool t.2.2.2)))], [(.loc 0, .cells [.d (.int .u8 z1), .d (.int .i64 z2), .d (.str s3), .d (.str s4), .d (.str s5), .d (.list false 1 l6), .d (.list true 8 l7), .d (.int .i64 z8)])], 448⟩) (fun t => t.1 ≤ n ∧ L59_1 t.1 z1 z2 s3 s4 t.2.1 t.2.2.1 t.2.2.2 = some r1) ?_ ?_
  · try cbv
    refine splitS (fun e => ?_) (fun e => ?_)
    · replace h := ite_t (bytes_eq.1 e) h
      clear e
      try cbv
      refine splitS (fun e => ?_) (fun e => ?_)
      · replace h := ite_t (bytes_eq.1 e) h
        clear e
        try cbv
        refine splitI (fun e => ?_) (fun e => ?_)
        · replace h := ite_t e h
          clear e
          try cbv
          refine drawn ?_ ?_
          · show _ = true
            kernel_rfl
          try cbv
          exact join_next (n, (true, true, true)) [1, 2, 3, 4, 5] [.loc 0] 448 ⟨by omega, h⟩ (by cbv)
        · replace h := ite_f e h
          clear e
          try cbv
          refine drawn ?_ ?_
          · show _ = true
            kernel_rfl
          try cbv
          exact join_next (n, (true, true, false)) [1, 2, 3, 4, 5] [.loc 0] 448 ⟨by omega, h⟩ (by cbv)
      · replace h := ite_f (bytes_ne.1 e) h
        clear e
        try cbv
        refine splitI (fun e => ?_) (fun e => ?_)
        · replace h := ite_t e h
          clear e
          try cbv
          refine drawn ?_ ?_
          · show _ = true
            kernel_rfl
          try cbv
          exact join_next (n, (true, false, true)) [1, 2, 3, 4, 5] [.loc 0] 448 ⟨by omega, h⟩ (by cbv)
        · replace h := ite_f e h
          clear e
          try cbv
          refine drawn ?_ ?_
          · show _ = true
            kernel_rfl
          try cbv
          exact join_next (n, (true, false, false)) [1, 2, 3, 4, 5] [.loc 0] 448 ⟨by omega, h⟩ (by cbv)
    · replace h := ite_f (bytes_ne.1 e) h
      clear e
      try cbv
      refine splitS (fun e => ?_) (fun e => ?_)
      · replace h := ite_t (bytes_eq.1 e) h
        clear e
        try cbv
        refine splitI (fun e => ?_) (fun e => ?_)
        · replace h := ite_t e h
          clear e
          try cbv
          refine drawn ?_ ?_
          · show _ = true
            kernel_rfl
          try cbv
          exact join_next (n, (false, true, true)) [1, 2, 3, 4, 5] [.loc 0] 448 ⟨by omega, h⟩ (by cbv)
        · replace h := ite_f e h
          clear e
          try cbv
          refine drawn ?_ ?_
          · show _ = true
            kernel_rfl
          try cbv
          exact join_next (n, (false, true, false)) [1, 2, 3, 4, 5] [.loc 0] 448 ⟨by omega, h⟩ (by cbv)
      · replace h := ite_f (bytes_ne.1 e) h
        clear e
        try cbv
        refine splitI (fun e => ?_) (fun e => ?_)
        · replace h := ite_t e h
          clear e
          try cbv
          refine drawn ?_ ?_
          · show _ = true
            kernel_rfl
          try cbv
          exact join_next (n, (false, false, true)) [1, 2, 3, 4, 5] [.loc 0] 448 ⟨by omega, h⟩ (by cbv)
        · replace h := ite_f e h
          clear e
          try cbv
          refine drawn ?_ ?_
          · show _ = true
            kernel_rfl
          try cbv
          exact join_next (n, (false, false, false)) [1, 2, 3, 4, 5] [.loc 0] 448 ⟨by omega, h⟩ (by cbv)
  · clear h
    rintro ⟨m1, b9, b10, b11⟩ ⟨hm1, h⟩
    replace hm1 : m1 ≤ n := hm1
    cases m1 with
    | zero =>
      replace h : L59_1 0 z1 z2 s3 s4 b9 b10 b11 = some r1 := h
      rw [L59_1] at h
      cases h
    | succ m1 =>
      replace h : L59_1 (m1 + 1) z1 z2 s3 s4 b9 b10 b11 = some r1 := h
      rw [L59_1] at h
      try cbv
      refine seq_join (T := Nat × Bool × Bool × Bool) (fun t => ⟨[(2, .v (.d (.bool false))), (3, .v (.d (.bool t.2.1))), (4, .v (.d (.bool t.2.2.1))), (5, .v (.d (.bool t.2.2.2)))], [], 1088⟩) (fun t => t.1 ≤ m1 ∧ L59_7 t.1 t.2.1 t.2.2.1 t.2.2.2 = some r1) ?_ ?_
      · try cbv
        refine seq_go ?_
        try cbv
        refine seq_join (T := Nat × Bool) (fun t => ⟨[(1, .v (.c (.ptr (.loc 0) 0))), (2, .v (.d (.bool false))), (3, .v (.d (.bool b9))), (4, .v (.d (.bool b10))), (5, .v (.d (.bool b11))), (16, .v (.d (.int .u8 z1))), (17, .v (.d (.bool t.2)))], [(.loc 0, .cells [.d (.int .u8 z1), .d (.int .i64 z2), .d (.str s3), .d (.str s4), .d (.str s5), .d (.list false 1 l6), .d (.list true 8 l7), .d (.int .i64 z8)])], 576⟩) (fun t => t.1 ≤ m1 ∧ L59_2 t.1 z1 z2 s3 s4 b9 b10 b11 t.2 = some r1) ?_ ?_
        · try cbv
          refine splitI (fun e => ?_) (fun e => ?_)
          · replace h := ite_t e h
            clear e
            try cbv
            exact join_next (m1, true) [1, 2, 3, 4, 5, 16, 17] [.loc 0] 576 ⟨by omega, h⟩ (by cbv)
          · replace h := ite_f e h
            clear e
            try cbv
            exact join_next (m1, false) [1, 2, 3, 4, 5, 16, 17] [.loc 0] 576 ⟨by omega, h⟩ (by cbv)
        · clear h
          rintro ⟨m2, b12⟩ ⟨hm2, h⟩
          replace hm2 : m2 ≤ m1 := hm2
          cases m2 with
          | zero =>
            replace h : L59_2 0 z1 z2 s3 s4 b9 b10 b11 b12 = some r1 := h
            rw [L59_2] at h
            cases h
          | succ m2 =>
            replace h : L59_2 (m2 + 1) z1 z2 s3 s4 b9 b10 b11 b12 = some r1 := h
            rw [L59_2] at h
            try cbv
            cases b12
            · replace h := ite_f Bool.false_ne_true h
              try cbv
              refine seq_join (T := Nat × Bool) (fun t => ⟨[(1, .v (.c (.ptr (.loc 0) 0))), (2, .v (.d (.bool false))), (3, .v (.d (.bool b9))), (4, .v (.d (.bool b10))), (5, .v (.d (.bool b11))), (16, .v (.d (.int .u8 z1))), (22, .v (.d (.bool t.2)))], [(.loc 0, .cells [.d (.int .u8 z1), .d (.int .i64 z2), .d (.str s3), .d (.str s4), .d (.str s5), .d (.list false 1 l6), .d (.list true 8 l7), .d (.int .i64 z8)])], 640⟩) (fun t => t.1 ≤ m2 ∧ L59_3 t.1 z1 z2 s3 s4 b9 b10 b11 t.2 = some r1) ?_ ?_
              · try cbv
                refine splitI (fun e => ?_) (fun e => ?_)
                · replace h := ite_t e h
                  clear e
                  try cbv
                  exact join_next (m2, true) [1, 2, 3, 4, 5, 16, 22] [.loc 0] 640 ⟨by omega, h⟩ (by cbv)
                · replace h := ite_f e h
                  clear e
                  try cbv
                  exact join_next (m2, false) [1, 2, 3, 4, 5, 16, 22] [.loc 0] 640 ⟨by omega, h⟩ (by cbv)
              · clear h
                rintro ⟨m3, b13⟩ ⟨hm3, h⟩
                replace hm3 : m3 ≤ m2 := hm3
                cases m3 with
                | zero =>
                  replace h : L59_3 0 z1 z2 s3 s4 b9 b10 b11 b13 = some r1 := h
                  rw [L59_3] at h
                  cases h
                | succ m3 =>
                  replace h : L59_3 (m3 + 1) z1 z2 s3 s4 b9 b10 b11 b13 = some r1 := h
                  rw [L59_3] at h
                  try cbv
                  cases b13
                  · replace h := ite_f Bool.false_ne_true h
                    try cbv
                    refine seq_join (T := Nat × Bool) (fun t => ⟨[(1, .v (.c (.ptr (.loc 0) 0))), (2, .v (.d (.bool false))), (3, .v (.d (.bool b9))), (4, .v (.d (.bool b10))), (5, .v (.d (.bool b11))), (16, .v (.d (.int .u8 z1))), (32, .v (.d (.bool t.2)))], [(.loc 0, .cells [.d (.int .u8 z1), .d (.int .i64 z2), .d (.str s3), .d (.str s4), .d (.str s5), .d (.list false 1 l6), .d (.list true 8 l7), .d (.int .i64 z8)])], 704⟩) (fun t => t.1 ≤ m3 ∧ L59_4 t.1 z1 s3 s4 b9 b10 b11 t.2 = some r1) ?_ ?_
                    · try cbv
                      refine splitI (fun e => ?_) (fun e => ?_)
                      · replace h := ite_t e h
                        clear e
                        try cbv
                        exact join_next (m3, true) [1, 2, 3, 4, 5, 16, 32] [.loc 0] 704 ⟨by omega, h⟩ (by cbv)
                      · replace h := ite_f e h
                        clear e
                        try cbv
                        exact join_next (m3, false) [1, 2, 3, 4, 5, 16, 32] [.loc 0] 704 ⟨by omega, h⟩ (by cbv)
                    · clear h
                      rintro ⟨m4, b14⟩ ⟨hm4, h⟩
                      replace hm4 : m4 ≤ m3 := hm4
                      cases m4 with
                      | zero =>
                        replace h : L59_4 0 z1 s3 s4 b9 b10 b11 b14 = some r1 := h
                        rw [L59_4] at h
                        cases h
                      | succ m4 =>
                        replace h : L59_4 (m4 + 1) z1 s3 s4 b9 b10 b11 b14 = some r1 := h
                        rw [L59_4] at h
                        try cbv
                        cases b14
                        · replace h := ite_f Bool.false_ne_true h
                          try cbv
                          refine seq_join (T := Nat × Bool) (fun t => ⟨[(1, .v (.c (.ptr (.loc 0) 0))), (2, .v (.d (.bool false))), (3, .v (.d (.bool b9))), (4, .v (.d (.bool b10))), (5, .v (.d (.bool b11))), (16, .v (.d (.int .u8 z1))), (37, .v (.d (.bool t.2)))], [(.loc 0, .cells [.d (.int .u8 z1), .d (.int .i64 z2), .d (.str s3), .d (.str s4), .d (.str s5), .d (.list false 1 l6), .d (.list true 8 l7), .d (.int .i64 z8)])], 768⟩) (fun t => t.1 ≤ m4 ∧ L59_5 t.1 z1 s3 s4 b9 b10 b11 t.2 = some r1) ?_ ?_
                          · try cbv
                            refine splitI (fun e => ?_) (fun e => ?_)
                            · replace h := ite_t e h
                              clear e
                              try cbv
                              exact join_next (m4, true) [1, 2, 3, 4, 5, 16, 37] [.loc 0] 768 ⟨by omega, h⟩ (by cbv)
                            · replace h := ite_f e h
                              clear e
                              try cbv
                              exact join_next (m4, false) [1, 2, 3, 4, 5, 16, 37] [.loc 0] 768 ⟨by omega, h⟩ (by cbv)
                          · clear h
                            rintro ⟨m5, b16⟩ ⟨hm5, h⟩
                            replace hm5 : m5 ≤ m4 := hm5
                            cases m5 with
                            | zero =>
                              replace h : L59_5 0 z1 s3 s4 b9 b10 b11 b16 = some r1 := h
                              rw [L59_5] at h
                              cases h
                            | succ m5 =>
                              replace h : L59_5 (m5 + 1) z1 s3 s4 b9 b10 b11 b16 = some r1 := h
                              rw [L59_5] at h
                              try cbv
                              cases b16
                              · replace h := ite_f Bool.false_ne_true h
                                try cbv
                                refine seq_join (T := Nat × Bool) (fun t => ⟨[(1, .v (.c (.ptr (.loc 0) 0))), (2, .v (.d (.bool false))), (3, .v (.d (.bool b9))), (4, .v (.d (.bool b10))), (5, .v (.d (.bool b11))), (42, .v (.d (.bool t.2)))], [(.loc 0, .cells [.d (.int .u8 z1), .d (.int .i64 z2), .d (.str s3), .d (.str s4), .d (.str s5), .d (.list false 1 l6), .d (.list true 8 l7), .d (.int .i64 z8)])], 832⟩) (fun t => t.1 ≤ m5 ∧ L59_6 t.1 s3 s4 b9 b10 b11 t.2 = some r1) ?_ ?_
                                · try cbv
                                  refine splitI (fun e => ?_) (fun e => ?_)
                                  · replace h := ite_t e h
                                    clear e
                                    try cbv
                                    exact join_next (m5, true) [1, 2, 3, 4, 5, 42] [.loc 0] 832 ⟨by omega, h⟩ (by cbv)
                                  · replace h := ite_f e h
                                    clear e
                                    try cbv
                                    exact join_next (m5, false) [1, 2, 3, 4, 5, 42] [.loc 0] 832 ⟨by omega, h⟩ (by cbv)
                                · clear h
                                  rintro ⟨m6, b18⟩ ⟨hm6, h⟩
                                  replace hm6 : m6 ≤ m5 := hm6
                                  cases m6 with
                                  | zero =>
                                    replace h : L59_6 0 s3 s4 b9 b10 b11 b18 = some r1 := h
                                    rw [L59_6] at h
                                    cases h
                                  | succ m6 =>
                                    replace h : L59_6 (m6 + 1) s3 s4 b9 b10 b11 b18 = some r1 := h
                                    rw [L59_6] at h
                                    try cbv
                                    cases b18
                                    · replace h := ite_f Bool.false_ne_true h
                                      try cbv
                                      exact join_next (m6, (b9, b10, b11)) [2, 3, 4, 5] [] 1088 ⟨by omega, h⟩ (by cbv)
                                    · replace h := ite_t rfl h
                                      try cbv
                                      replace h := bO1_inv h
                                      obtain ⟨b19, hr, h⟩ := h
                                      first | refine .inr ⟨[], ?_⟩ | refine ⟨[], ?_⟩
                                      try cbv
                                      refine call_pure hM hI (T15 _ hr) rfl ?_
                                      clear hr
                                      try cbv
                                      replace h := bO1_inv h
                                      obtain ⟨b20, hr, h⟩ := h
                                      first | refine .inr ⟨[], ?_⟩ | refine ⟨[], ?_⟩
                                      try cbv
                                      refine call_pure hM hI (T15 _ hr) rfl ?_
                                      clear hr
                                      try cbv
                                      refine drawn ?_ ?_
                                      · show _ = true
                                        kernel_rfl
                                      try cbv
                                      exact join_next (m6, (b19, b20, b11)) [2, 3, 4, 5] [] 1088 ⟨by omega, h⟩ (by cbv)
                              · replace h := ite_t rfl h
                                try cbv
                                replace h := bO1_inv h
                                obtain ⟨b17, hr, h⟩ := h
                                refine call_go rfl rfl ?_
                                try cbv
                                refine call_pure hM hI (T15 _ hr) rfl ?_
                                clear hr
                                try cbv
                                exact join_next (m5, (b17, b10, b11)) [2, 3, 4, 5] [] 1088 ⟨by omega, h⟩ (by cbv)
                        · replace h := ite_t rfl h
                          try cbv
                          replace h := bO1_inv h
                          obtain ⟨b15, hr, h⟩ := h
                          refine call_go rfl rfl ?_
                          try cbv
                          refine call_pure hM hI (T13 _ hr) rfl ?_
                          clear hr
                          try cbv
                          exact join_next (m4, (b15, b10, b11)) [2, 3, 4, 5] [] 1088 ⟨by omega, h⟩ (by cbv)
                  · replace h := ite_t rfl h
                    try cbv
                    refine splitI (fun e => ?_) (fun e => ?_)
                    · replace h := ite_t e h
                      clear e
                      try cbv
                      exact join_next (m3, (b9, b10, true)) [2, 3, 4, 5] [] 1088 ⟨by omega, h⟩ (by cbv)
                    · replace h := ite_f e h
                      clear e
                      try cbv
                      refine splitI (fun e => ?_) (fun e => ?_)
                      · replace h := ite_t e h
                        clear e
                        try cbv
                        exact join_next (m3, (b9, b10, true)) [2, 3, 4, 5] [] 1088 ⟨by omega, h⟩ (by cbv)
                      · replace h := ite_f e h
                        clear e
                        try cbv
                        exact join_next (m3, (b9, b10, false)) [2, 3, 4, 5] [] 1088 ⟨by omega, h⟩ (by cbv)
            · replace h := ite_t rfl h
              try cbv
              refine splitLe (fun e => ?_) (fun e => ?_)
              · replace h := ite_t e h
                clear e
                try cbv
                exact join_next (m2, (b9, b10, true)) [2, 3, 4, 5] [] 1088 ⟨by omega, h⟩ (by cbv)
              · replace h := ite_f (Int.not_le.2 e) h
                clear e
                try cbv
                exact join_next (m2, (b9, b10, false)) [2, 3, 4, 5] [] 1088 ⟨by omega, h⟩ (by cbv)
      · clear h
        rintro ⟨m7, b21, b22, b23⟩ ⟨hm7, h⟩
        replace hm7 : m7 ≤ m1 := hm7
        cases m7 with
        | zero =>
          replace h : L59_7 0 b21 b22 b23 = some r1 := h
          rw [L59_7] at h
          cases h
        | succ m7 =>
          replace h : L59_7 (m7 + 1) b21 b22 b23 = some r1 := h
          rw [L59_7] at h
          try cbv
          refine seq_go ?_
          try cbv
          cases b21
          · replace h := ite_f Bool.false_ne_true h
            try cbv
            obtain rfl := Option.some.inj h
            refine fin_go ?_
            try cbv
            exact ⟨[], rfl, rfl, trivial, trivial, trivial⟩
          · replace h := ite_t rfl h
            try cbv
            cases b22
            · replace h := ite_f Bool.false_ne_true h
              try cbv
              obtain rfl := Option.some.inj h
              refine fin_go ?_
              try cbv
              exact ⟨[], rfl, rfl, trivial, trivial, trivial⟩
            · replace h := ite_t rfl h
              try cbv
              obtain rfl := Option.some.inj h
              refine fin_go ?_
              try cbv
              exact ⟨[], rfl, rfl, trivial, trivial, trivial⟩
end Go.Proofs.YtjmofeakajdbiaaDoor
end

set_option linter.unusedVariables false
noncomputable section
namespace Go.Proofs.YtjmofeakajdbiaaDoor
open Go Go.AM
def F45 (n : Nat) (s1 : ByteArray) : Option (Bool) :=
  (if s1 = k__ then some true else bO1 (F13 n s1) fun b2 => some b2)
set_option maxRecDepth 100000 in
set_option maxHeartbeats 40000000 in
theorem T45 (n : Nat) : ∀ ⦃s1 : ByteArray⦄ ⦃r1 : Bool⦄, F45 n s1 = some r1 →
    Trip Tryd.prog inv 45 [.d (.str s1)] [] (.v (.d (.bool r1))) [] [] := by
  intro s1 r1 h
  unfold F45 at h
  refine Trip.of tab_ok tab_one fol Tryd.func45 rfl (by kernel_rfl) rfl rfl rfl (fun M hM hI => ?_)
  try cbv
  refine seq_go ?_
  try cbv
  refine seq_go ?_
  try cbv
  refine splitS (fun e => ?_) (fun e => ?_)
  · replace h := ite_t (bytes_eq.1 e) h
    clear e
    try cbv
    obtain rfl := Option.some.inj h
    refine fin_go ?_
    try cbv
    exact ⟨[], rfl, rfl, trivial, trivial, trivial⟩
  · replace h := ite_f (bytes_ne.1 e) h
    clear e
    try cbv
    replace h := bO1_inv h
    obtain ⟨b2, hr, h⟩ := h
    refine call_go rfl rfl ?_
    try cbv
    refine call_pure hM hI (T13 _ hr) rfl ?_
    clear hr
    try cbv
    obtain rfl := Option.some.inj h
    refine fin_go ?_
    try cbv
    exact ⟨[], rfl, rfl, trivial, trivial, trivial⟩
end Go.Proofs.YtjmofeakajdbiaaDoor
end

set_option linter.unusedVariables false
noncomputable section
namespace Go.Proofs.YtjmofeakajdbiaaDoor
open Go Go.AM
mutual
def L44_1 : Nat → (List D) → Int → Int → Option (Bool)
  | 0, _, _, _ => none
  | n + 1, l1, z2, z3 =>
    lenF l1 fun z4 => (if z3 < z4 then (if z3 < z2 then L44_2 n l1 z2 z3 true else L44_2 n l1 z2 z3 false) else L44_2 n l1 z2 z3 false)
def L44_2 : Nat → (List D) → Int → Int → Bool → Option (Bool)
  | 0, _, _, _, _ => none
  | n + 1, l1, z2, z3, b5 =>
    (if b5 = true then getF l1 z3 fun x6 => ds_str x6 fun s7 => bO1 (F45 n s7) fun b8 => letB (!b8) fun b9 => (if b9 = true then some false else letF (IntKind.wrap .i64 (z3 + 1)) fun z10 => L44_1 n l1 z2 z10) else lenF l1 fun z11 => (if z11 ≤ z2 then some true else some false))
end
def F44 (n : Nat) (l1 : List D) (z2 : Int) : Option (Bool) :=
  L44_1 n l1 z2 (0 : Int)
set_option maxRecDepth 100000 in
set_option maxHeartbeats 40000000 in
theorem T44 (n : Nat) : ∀ ⦃l1 : List D⦄ ⦃z2 : Int⦄ ⦃r1 : Bool⦄, F44 n l1 z2 = some r1 →
    Trip Tryd.prog inv 44 [.d (.list false 1 l1), .d (.int .i64 z2), .c (.fn 45 [])] [] (.v (.d (.bool r1))) [] [] := by
  intro l1 z2 r1 h
  unfold F44 at h
  refine Trip.of tab_ok tab_one fol Tryd.func44 rfl (by kernel_rfl) rfl rfl rfl (fun M hM hI => ?_)
  try cbv
  refine seq_go ?_
  try cbv
  refine seq_go ?_
  try cbv
  refine seq_go ?_
  try cbv
  refine loop_inv (T := Nat × Int) [0, 1, 2, 6, 7] [] 64 (fun t => ⟨[(0, .v (.d (.list false 1 l1))), (1, .v (.d (.int .i64 z2))), (2, .v (.c (.fn 45 []))), (6, .v (.d (.bool false))), (7, .v (.d (.int .i64 t.2)))], [], 64⟩)
    (fun t => t.1 ≤ n ∧ L44_1 t.1 l1 z2 t.2 = some r1) (fun t => t.1) (n, (0 : Int)) ⟨Nat.le_refl _, h⟩ (by cbv) ?_
  clear h
  rintro ⟨m1, z3⟩ ⟨hm1, h⟩
  replace hm1 : m1 ≤ n := hm1
  cases m1 with
  | zero =>
    replace h : L44_1 0 l1 z2 z3 = some r1 := h
    rw [L44_1] at h
    cases h
  | succ m1 =>
    replace h : L44_1 (m1 + 1) l1 z2 z3 = some r1 := h
    rw [L44_1] at h
    try cbv
    refine seq_go ?_
    try cbv
    refine seq_join (T := Nat × Bool) (fun t => ⟨[(0, .v (.d (.list false 1 l1))), (1, .v (.d (.int .i64 z2))), (2, .v (.c (.fn 45 []))), (6, .v (.d (.bool false))), (7, .v (.d (.int .i64 z3))), (16, .v (.d (.bool t.2)))], [], 352⟩) (fun t => t.1 ≤ m1 ∧ L44_2 t.1 l1 z2 z3 t.2 = some r1) ?_ ?_
    · try cbv
      replace h := lenF_inv M h
      obtain ⟨z4, hz, h⟩ := h
      refine ⟨z4, hz, ?_⟩
      clear hz
      try cbv
      refine splitL (fun e => ?_) (fun e => ?_)
      · replace h := ite_t e h
        clear e
        try cbv
        refine splitL (fun e => ?_) (fun e => ?_)
        · replace h := ite_t e h
          clear e
          try cbv
          exact join_next (m1, true) [0, 1, 2, 6, 7, 16] [] 352 ⟨by omega, h⟩ (by cbv)
        · replace h := ite_f (Int.not_lt.2 e) h
          clear e
          try cbv
          exact join_next (m1, false) [0, 1, 2, 6, 7, 16] [] 352 ⟨by omega, h⟩ (by cbv)
      · replace h := ite_f (Int.not_lt.2 e) h
        clear e
        try cbv
        exact join_next (m1, false) [0, 1, 2, 6, 7, 16] [] 352 ⟨by omega, h⟩ (by cbv)
    · clear h
      rintro ⟨m2, b5⟩ ⟨hm2, h⟩
      replace hm2 : m2 ≤ m1 := hm2
      cases m2 with
      | zero =>
        replace h : L44_2 0 l1 z2 z3 b5 = some r1 := h
        rw [L44_2] at h
        cases h
      | succ m2 =>
        replace h : L44_2 (m2 + 1) l1 z2 z3 b5 = some r1 := h
        rw [L44_2] at h
        try cbv
        cases b5
        · replace h := ite_f Bool.false_ne_true h
          try cbv
          refine seq_go ?_
          try cbv
          replace h := lenF_inv M h
          obtain ⟨z11, hz, h⟩ := h
          refine ⟨z11, hz, ?_⟩
          clear hz
          try cbv
          refine splitLe (fun e => ?_) (fun e => ?_)
          · replace h := ite_t e h
            clear e
            try cbv
            obtain rfl := Option.some.inj h
            refine fin_go ?_
            try cbv
            exact ⟨[], rfl, rfl, trivial, trivial, trivial⟩
          · replace h := ite_f (Int.not_le.2 e) h
            clear e
            try cbv
            obtain rfl := Option.some.inj h
            refine fin_go ?_
            try cbv
            exact ⟨[], rfl, rfl, trivial, trivial, trivial⟩
        · replace h := ite_t rfl h
          try cbv
          refine seq_go ?_
          try cbv
          refine seq_go ?_
          try cbv
          replace h := getF_inv h
          obtain ⟨x6, ⟨hx0, hx⟩, h⟩ := h
          refine ⟨x6, hx0, hx, ?_⟩
          clear hx0 hx
          replace h := ds_str_inv h
          obtain ⟨s7, rfl, h⟩ := h
          try cbv
          replace h := bO1_inv h
          obtain ⟨b8, hr, h⟩ := h
          refine call_go rfl rfl ?_
          try cbv
          refine call_pure hM hI (T45 _ hr) rfl ?_
          clear hr
          try cbv
          replace h := letB_inv h
          obtain ⟨b9, hz, h⟩ := h
          refine ⟨b9, not_eq' hz, ?_⟩
          clear hz
          try cbv
          cases b9
          · replace h := ite_f Bool.false_ne_true h
            try cbv
            replace h := letF_inv h
            obtain ⟨z10, hz, h⟩ := h
            refine ⟨z10, hz, ?_⟩
            clear hz
            try cbv
            exact loop_next (m2, z10) [0, 1, 2, 6, 7] [] 64 ⟨by omega, h⟩ (Nat.lt_succ_of_le (by omega)) (by cbv)
          · replace h := ite_t rfl h
            try cbv
            refine seq_go ?_
            try cbv
            obtain rfl := Option.some.inj h
            refine fin_go ?_
            try cbv
            exact ⟨[], rfl, rfl, trivial, trivial, trivial⟩
end Go.Proofs.YtjmofeakajdbiaaDoor
end

set_option linter.unusedVariables false
noncomputable section
namespace Go.Proofs.YtjmofeakajdbiaaDoor
open Go Go.AM
def F24 (n : Nat) (s1 : ByteArray) (l2 : List D) : Option (Bool) :=
  bO1 (F13 n s1) fun b3 => (if b3 = true then bO1 (F44 n l2 (40 : Int)) fun b4 => some b4 else some false)
set_option maxRecDepth 100000 in
set_option maxHeartbeats 40000000 in
theorem T24 (n : Nat) : ∀ ⦃s1 : ByteArray⦄ ⦃l2 : List D⦄ ⦃r1 : Bool⦄, F24 n s1 l2 = some r1 →
    Trip Tryd.prog inv 24 [.d (.agg [.str s1, .list false 1 l2])] [] (.v (.d (.bool r1))) [] [] := by
  intro s1 l2 r1 h
  unfold F24 at h
  refine Trip.of tab_ok tab_one fol Tryd.func24 rfl (by kernel_rfl) rfl rfl rfl (fun M hM hI => ?_)
  try cbv
  refine seq_go ?_
  try cbv
  refine seq_go ?_
  try cbv
  replace h := bO1_inv h
  obtain ⟨b3, hr, h⟩ := h
  refine call_go rfl rfl ?_
  try cbv
  refine call_pure hM hI (T13 _ hr) rfl ?_
  clear hr
  try cbv
  cases b3
  · replace h := ite_f Bool.false_ne_true h
    try cbv
    obtain rfl := Option.some.inj h
    refine fin_go ?_
    try cbv
    exact ⟨[], rfl, rfl, trivial, trivial, trivial⟩
  · replace h := ite_t rfl h
    try cbv
    replace h := bO1_inv h
    obtain ⟨b4, hr, h⟩ := h
    refine call_go rfl rfl ?_
    try cbv
    refine call_pure hM hI (T44 _ hr) rfl ?_
    clear hr
    try cbv
    obtain rfl := Option.some.inj h
    refine fin_go ?_
    try cbv
    exact ⟨[], rfl, rfl, trivial, trivial, trivial⟩
end Go.Proofs.YtjmofeakajdbiaaDoor
end

set_option linter.unusedVariables false
noncomputable section
namespace Go.Proofs.YtjmofeakajdbiaaDoor
open Go Go.AM
mutual
def L44x1_1 : Nat → (List D) → Int → Int → Option (Bool)
  | 0, _, _, _ => none
  | n + 1, l1, z2, z3 =>
    lenF l1 fun z4 => (if z3 < z4 then (if z3 < z2 then L44x1_2 n l1 z2 z3 true else L44x1_2 n l1 z2 z3 false) else L44x1_2 n l1 z2 z3 false)
def L44x1_2 : Nat → (List D) → Int → Int → Bool → Option (Bool)
  | 0, _, _, _, _ => none
  | n + 1, l1, z2, z3, b5 =>
    (if b5 = true then getF l1 z3 fun x6 => ds_str x6 fun s7 => bO1 (F13 n s7) fun b8 => letB (!b8) fun b9 => (if b9 = true then some false else letF (IntKind.wrap .i64 (z3 + 1)) fun z10 => L44x1_1 n l1 z2 z10) else lenF l1 fun z11 => (if z11 ≤ z2 then some true else some false))
end
def F44x1 (n : Nat) (l1 : List D) (z2 : Int) : Option (Bool) :=
  L44x1_1 n l1 z2 (0 : Int)
set_option maxRecDepth 100000 in
set_option maxHeartbeats 40000000 in
theorem T44x1 (n : Nat) : ∀ ⦃l1 : List D⦄ ⦃z2 : Int⦄ ⦃r1 : Bool⦄, F44x1 n l1 z2 = some r1 →
    Trip Tryd.prog inv 44 [.d (.list false 1 l1), .d (.int .i64 z2), .c (.fn 13 [])] [] (.v (.d (.bool r1))) [] [] := by
  intro l1 z2 r1 h
  unfold F44x1 at h
  refine Trip.of tab_ok tab_one fol Tryd.func44 rfl (by kernel_rfl) rfl rfl rfl (fun M hM hI => ?_)
  try cbv
  refine seq_go ?_
  try cbv
  refine seq_go ?_
  try cbv
  refine seq_go ?_
  try cbv
  refine loop_inv (T := Nat × Int) [0, 1, 2, 6, 7] [] 64 (fun t => ⟨[(0, .v (.d (.list false 1 l1))), (1, .v (.d (.int .i64 z2))), (2, .v (.c (.fn 13 []))), (6, .v (.d (.bool false))), (7, .v (.d (.int .i64 t.2)))], [], 64⟩)
    (fun t => t.1 ≤ n ∧ L44x1_1 t.1 l1 z2 t.2 = some r1) (fun t => t.1) (n, (0 : Int)) ⟨Nat.le_refl _, h⟩ (by cbv) ?_
  clear h
  rintro ⟨m1, z3⟩ ⟨hm1, h⟩
  replace hm1 : m1 ≤ n := hm1
  cases m1 with
  | zero =>
    replace h : L44x1_1 0 l1 z2 z3 = some r1 := h
    rw [L44x1_1] at h
    cases h
  | succ m1 =>
    replace h : L44x1_1 (m1 + 1) l1 z2 z3 = some r1 := h
    rw [L44x1_1] at h
    try cbv
    refine seq_go ?_
    try cbv
    refine seq_join (T := Nat × Bool) (fun t => ⟨[(0, .v (.d (.list false 1 l1))), (1, .v (.d (.int .i64 z2))), (2, .v (.c (.fn 13 []))), (6, .v (.d (.bool false))), (7, .v (.d (.int .i64 z3))), (16, .v (.d (.bool t.2)))], [], 352⟩) (fun t => t.1 ≤ m1 ∧ L44x1_2 t.1 l1 z2 z3 t.2 = some r1) ?_ ?_
    · try cbv
      replace h := lenF_inv M h
      obtain ⟨z4, hz, h⟩ := h
      refine ⟨z4, hz, ?_⟩
      clear hz
      try cbv
      refine splitL (fun e => ?_) (fun e => ?_)
      · replace h := ite_t e h
        clear e
        try cbv
        refine splitL (fun e => ?_) (fun e => ?_)
        · replace h := ite_t e h
          clear e
          try cbv
          exact join_next (m1, true) [0, 1, 2, 6, 7, 16] [] 352 ⟨by omega, h⟩ (by cbv)
        · replace h := ite_f (Int.not_lt.2 e) h
          clear e
          try cbv
          exact join_next (m1, false) [0, 1, 2, 6, 7, 16] [] 352 ⟨by omega, h⟩ (by cbv)
      · replace h := ite_f (Int.not_lt.2 e) h
        clear e
        try cbv
        exact join_next (m1, false) [0, 1, 2, 6, 7, 16] [] 352 ⟨by omega, h⟩ (by cbv)
    · clear h
      rintro ⟨m2, b5⟩ ⟨hm2, h⟩
      replace hm2 : m2 ≤ m1 := hm2
      cases m2 with
      | zero =>
        replace h : L44x1_2 0 l1 z2 z3 b5 = some r1 := h
        rw [L44x1_2] at h
        cases h
      | succ m2 =>
        replace h : L44x1_2 (m2 + 1) l1 z2 z3 b5 = some r1 := h
        rw [L44x1_2] at h
        try cbv
        cases b5
        · replace h := ite_f Bool.false_ne_true h
          try cbv
          refine seq_go ?_
          try cbv
          replace h := lenF_inv M h
          obtain ⟨z11, hz, h⟩ := h
          refine ⟨z11, hz, ?_⟩
          clear hz
          try cbv
          refine splitLe (fun e => ?_) (fun e => ?_)
          · replace h := ite_t e h
            clear e
            try cbv
            obtain rfl := Option.some.inj h
            refine fin_go ?_
            try cbv
            exact ⟨[], rfl, rfl, trivial, trivial, trivial⟩
          · replace h := ite_f (Int.not_le.2 e) h
            clear e
            try cbv
            obtain rfl := Option.some.inj h
            refine fin_go ?_
            try cbv
            exact ⟨[], rfl, rfl, trivial, trivial, trivial⟩
        · replace h := ite_t rfl h
          try cbv
          refine seq_go ?_
          try cbv
          refine seq_go ?_
          try cbv
          replace h := getF_inv h
          obtain ⟨x6, ⟨hx0, hx⟩, h⟩ := h
          refine ⟨x6, hx0, hx, ?_⟩
          clear hx0 hx
          replace h := ds_str_inv h
          obtain ⟨s7, rfl, h⟩ := h
          try cbv
          replace h := bO1_inv h
          obtain ⟨b8, hr, h⟩ := h
          refine call_go rfl rfl ?_
          try cbv
          refine call_pure hM hI (T13 _ hr) rfl ?_
          clear hr
          try cbv
          replace h := letB_inv h
          obtain ⟨b9, hz, h⟩ := h
          refine ⟨b9, not_eq' hz, ?_⟩
          clear hz
          try cbv
          cases b9
          · replace h := ite_f Bool.false_ne_true h
            try cbv
            replace h := letF_inv h
            obtain ⟨z10, hz, h⟩ := h
            refine ⟨z10, hz, ?_⟩
            clear hz
            try cbv
            exact loop_next (m2, z10) [0, 1, 2, 6, 7] [] 64 ⟨by omega, h⟩ (Nat.lt_succ_of_le (by omega)) (by cbv)
          · replace h := ite_t rfl h
            try cbv
            refine seq_go ?_
            try cbv
            obtain rfl := Option.some.inj h
            refine fin_go ?_
            try cbv
            exact ⟨[], rfl, rfl, trivial, trivial, trivial⟩
end Go.Proofs.YtjmofeakajdbiaaDoor
end

set_option linter.unusedVariables false
noncomputable section
namespace Go.Proofs.YtjmofeakajdbiaaDoor
open Go Go.AM
def F73 (n : Nat) (s1 : ByteArray) (l2 : List D) : Option (Bool) :=
  (if s1 = ByteArray.empty then lenF l2 fun z3 => (if z3 = (0 : Int) then some true else some false) else some false)
set_option maxRecDepth 100000 in
set_option maxHeartbeats 40000000 in
theorem T73 (n : Nat) : ∀ ⦃s1 : ByteArray⦄ ⦃l2 : List D⦄ ⦃r1 : Bool⦄, F73 n s1 l2 = some r1 →
    Trip Tryd.prog inv 73 [.d (.agg [.str s1, .list false 1 l2])] [] (.v (.d (.bool r1))) [] [] := by
  intro s1 l2 r1 h
  unfold F73 at h
  refine Trip.of tab_ok tab_one fol Tryd.func73 rfl (by kernel_rfl) rfl rfl rfl (fun M hM hI => ?_)
  try cbv
  refine seq_go ?_
  try cbv
  refine seq_go ?_
  try cbv
  refine splitS (fun e => ?_) (fun e => ?_)
  · replace h := ite_t (bytes_eq.1 e) h
    clear e
    try cbv
    replace h := lenF_inv M h
    obtain ⟨z3, hz, h⟩ := h
    refine ⟨z3, hz, ?_⟩
    clear hz
    try cbv
    refine splitI (fun e => ?_) (fun e => ?_)
    · replace h := ite_t e h
      clear e
      try cbv
      obtain rfl := Option.some.inj h
      refine fin_go ?_
      try cbv
      exact ⟨[], rfl, rfl, trivial, trivial, trivial⟩
    · replace h := ite_f e h
      clear e
      try cbv
      obtain rfl := Option.some.inj h
      refine fin_go ?_
      try cbv
      exact ⟨[], rfl, rfl, trivial, trivial, trivial⟩
  · replace h := ite_f (bytes_ne.1 e) h
    clear e
    try cbv
    obtain rfl := Option.some.inj h
    refine fin_go ?_
    try cbv
    exact ⟨[], rfl, rfl, trivial, trivial, trivial⟩
end Go.Proofs.YtjmofeakajdbiaaDoor
end
