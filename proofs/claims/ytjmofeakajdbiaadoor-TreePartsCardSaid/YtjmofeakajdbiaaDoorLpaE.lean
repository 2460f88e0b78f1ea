/- Whether any type, expression, place is whole is what the chapter says: contracts of the functions, the plain law, the card. No condition. (Part 5: YtjmofeakajdbiaaDoorX60, YtjmofeakajdbiaaDoorX62, YtjmofeakajdbiaaDoorX21, YtjmofeakajdbiaaDoorX22, YtjmofeakajdbiaaDoorX25, YtjmofeakajdbiaaDoorX40, YtjmofeakajdbiaaDoorX41, YtjmofeakajdbiaaDoorX42, YtjmofeakajdbiaaDoorX43, YtjmofeakajdbiaaDoorX23, YtjmofeakajdbiaaDoorX4, LxT, AmUB, AmR, LxU, LxUh.) -/
import Derived.Carry
import Derived.ChangeSame
import Derived.ChangeOld
import Derived.ChangeCalls
import Derived.WideShapes
import Derived.Test.YtjmofeakajdbiaaDoorRows
import Derived.Test.YtjmofeakajdbiaaDoorTie
import Derived.Test.YtjmofeakajdbiaaDoorCards
import Derived.JoinedOf
import Derived.JoinedAt
import Derived.RowKit
import Derived.RowKit2
import Derived.ReadAgain
import Derived.ChangeAlike
import Derived.Lay
import Derived.Handed
import Derived.LaidSub
import Derived.LaidLaws
import Derived.LaidHandle
import Derived.MakeChecks
import Derived.SevenTiedAt
import Derived.Lib.LaidTab
import Derived.Lib.LaidU8
import Derived.Test.YtjmofeakajdbiaaDoorLpaD
set_option linter.unusedVariables false
set_option linter.unusedSimpArgs false
set_option linter.unusedVariables false
noncomputable section
namespace Go.Proofs.YtjmofeakajdbiaaDoor
open Go Go.AM
def L60_1 : Nat → ByteArray → (List D) → (List D) → Bool → Option (Bool)
  | 0, _, _, _, _ => none
  | n + 1, s5, l6, l7, b11 =>
    (if b11 = true then (if s5 = ByteArray.empty then lenF l6 fun z12 => lenF l7 fun z13 => (if z12 = z13 then bO1 (F44x1 n l6 (6 : Int)) fun b14 => some b14 else some false) else some false) else bO1 (F73 n s5 l6) fun b15 => some b15)
def F60 (n : Nat) (z1 : Int) (z2 : Int) (s3 : ByteArray) (s4 : ByteArray) (s5 : ByteArray) (l6 : List D) (l7 : List D) (z8 : Int) (b9 : Bool) : Option (Bool) :=
  (if b9 = true then bO1 (F24 n s5 l6) fun b10 => some b10 else (if z1 = (19 : Int) then L60_1 n s5 l6 l7 true else L60_1 n s5 l6 l7 false))
set_option maxRecDepth 100000 in
set_option maxHeartbeats 40000000 in
theorem T60 (n : Nat) : ∀ ⦃z1 : Int⦄ ⦃z2 : Int⦄ ⦃s3 : ByteArray⦄ ⦃s4 : ByteArray⦄ ⦃s5 : ByteArray⦄ ⦃l6 : List D⦄ ⦃l7 : List D⦄ ⦃z8 : Int⦄ ⦃b9 : Bool⦄ ⦃r1 : Bool⦄, F60 n z1 z2 s3 s4 s5 l6 l7 z8 b9 = some r1 →
    Trip Tryd.prog inv 60 [.d (.agg [.int .u8 z1, .int .i64 z2, .str s3, .str s4, .str s5, .list false 1 l6, .list true 8 l7, .int .i64 z8]), .d (.bool b9)] [] (.v (.d (.bool r1))) [] [] := by
  intro z1 z2 s3 s4 s5 l6 l7 z8 b9 r1 h
  unfold F60 at h
  refine Trip.of tab_ok tab_one fol Tryd.func60 rfl (by kernel_rfl) rfl rfl rfl (fun M hM hI => ?_)
  try cbv
  refine seq_go ?_
  try cbv
  refine seq_go ?_
  try cbv
  refine seq_go ?_
  try cbv
  cases b9
  · replace h := ite_f Bool.false_ne_true h
    try cbv
    refine seq_join (T := Nat × Bool) (fun t => ⟨[(2, .v (.c (.ptr (.loc 0) 0))), (4, .v (.d (.bool false))), (10, .v (.d (.bool t.2)))], [(.loc 0, .cells [.d (.int .u8 z1), .d (.int .i64 z2), .d (.str s3), .d (.str s4), .d (.str s5), .d (.list false 1 l6), .d (.list true 8 l7), .d (.int .i64 z8)])], 256⟩) (fun t => t.1 ≤ n ∧ L60_1 t.1 s5 l6 l7 t.2 = some r1) ?_ ?_
    · try cbv
      refine splitI (fun e => ?_) (fun e => ?_)
      · replace h := ite_t e h
        clear e
        try cbv
        exact join_next (n, true) [2, 4, 10] [.loc 0] 256 ⟨by omega, h⟩ (by cbv)
      · replace h := ite_f e h
        clear e
        try cbv
        exact join_next (n, false) [2, 4, 10] [.loc 0] 256 ⟨by omega, h⟩ (by cbv)
    · clear h
      rintro ⟨m1, b11⟩ ⟨hm1, h⟩
      replace hm1 : m1 ≤ n := hm1
      cases m1 with
      | zero =>
        replace h : L60_1 0 s5 l6 l7 b11 = some r1 := h
        rw [L60_1] at h
        cases h
      | succ m1 =>
        replace h : L60_1 (m1 + 1) s5 l6 l7 b11 = some r1 := h
        rw [L60_1] at h
        try cbv
        cases b11
        · replace h := ite_f Bool.false_ne_true h
          try cbv
          refine seq_go ?_
          try cbv
          replace h := bO1_inv h
          obtain ⟨b15, hr, h⟩ := h
          refine call_go rfl rfl ?_
          try cbv
          refine call_pure hM hI (T73 _ hr) rfl ?_
          clear hr
          try cbv
          obtain rfl := Option.some.inj h
          refine fin_go ?_
          try cbv
          exact ⟨[], rfl, rfl, trivial, trivial, trivial⟩
        · replace h := ite_t rfl h
          try cbv
          refine seq_go ?_
          try cbv
          refine splitS (fun e => ?_) (fun e => ?_)
          · replace h := ite_t (bytes_eq.1 e) h
            clear e
            try cbv
            replace h := lenF_inv M h
            obtain ⟨z12, hz, h⟩ := h
            refine ⟨z12, hz, ?_⟩
            clear hz
            try cbv
            replace h := lenF_inv M h
            obtain ⟨z13, hz, h⟩ := h
            refine ⟨z13, hz, ?_⟩
            clear hz
            try cbv
            refine splitI (fun e => ?_) (fun e => ?_)
            · replace h := ite_t e h
              clear e
              try cbv
              replace h := bO1_inv h
              obtain ⟨b14, hr, h⟩ := h
              refine call_go rfl rfl ?_
              try cbv
              refine call_pure hM hI (T44x1 _ hr) rfl ?_
              clear hr
              try cbv
              obtain rfl := Option.some.inj h
              refine fin_go ?_
              try cbv
              exact ⟨[], rfl, rfl, trivial, trivial, trivial⟩
            · replace h := ite_f e h
              clear e
              try cbv
              obtain rfl := Option.some.inj h
              refine fin_go ?_
              try cbv
              exact ⟨[], rfl, rfl, trivial, trivial, trivial⟩
          · replace h := ite_f (bytes_ne.1 e) h
            clear e
            try cbv
            obtain rfl := Option.some.inj h
            refine fin_go ?_
            try cbv
            exact ⟨[], rfl, rfl, trivial, trivial, trivial⟩
  · replace h := ite_t rfl h
    try cbv
    refine seq_go ?_
    try cbv
    replace h := bO1_inv h
    obtain ⟨b10, hr, h⟩ := h
    refine call_go rfl rfl ?_
    try cbv
    refine call_pure hM hI (T24 _ hr) rfl ?_
    clear hr
    try cbv
    obtain rfl := Option.some.inj h
    refine fin_go ?_
    try cbv
    exact ⟨[], rfl, rfl, trivial, trivial, trivial⟩
end Go.Proofs.YtjmofeakajdbiaaDoor
end

set_option linter.unusedVariables false
noncomputable section
namespace Go.Proofs.YtjmofeakajdbiaaDoor
open Go Go.AM
set_option maxHeartbeats 40000000 in
mutual
def F62 : Nat → Int → Int → ByteArray → ByteArray → ByteArray → (List D) → (List D) → Int → Int → Int → ByteArray → ByteArray → ByteArray → (List D) → (List D) → Int → Int → Option (Bool × Int × Int × ByteArray × ByteArray × ByteArray × List D × List D × Int × Int)
  | 0, _, _, _, _, _, _, _, _, _, _, _, _, _, _, _, _, _ => none
  | n + 1, z1, z2, s3, s4, s5, l6, l7, z8, z9, z10, s11, s12, s13, l14, l15, z16, z17 =>
    (if z9 = (18 : Int) then letF (IntKind.wrap .i64 (z17 - 1)) fun z18 => bO1 (F39 n z1 z2 s3 s4 s5 l6 l7 z8 z18) fun b19 => some (b19, z9, z10, s11, s12, s13, l14, l15, z16, z17) else bO1 (F38 n z1 z2 s3 s4 s5 l6 l7 z8) fun b20 => letB (!b20) fun b21 => (if b21 = true then letF (IntKind.wrap .i64 (z17 - 1)) fun z22 => bO1 (F39 n z1 z2 s3 s4 s5 l6 l7 z8 z22) fun b23 => some (b23, z9, z10, s11, s12, s13, l14, l15, z16, z17) else some (false, z9, z10, s11, s12, s13, l14, l15, z16, z17)))
def L61_1 : Nat → (List D) → Int → Int → Int → Int → ByteArray → ByteArray → ByteArray → (List D) → (List D) → Int → Int → Option (Bool × Int × Int × ByteArray × ByteArray × ByteArray × List D × List D × Int × Int)
  | 0, _, _, _, _, _, _, _, _, _, _, _, _ => none
  | n + 1, l1, z2, z12, z13, z14, s15, s16, s17, l18, l19, z20, z21 =>
    lenF l1 fun z22 => (if z12 < z22 then (if z12 < z2 then L61_2 n l1 z2 z12 z13 z14 s15 s16 s17 l18 l19 z20 z21 true else L61_2 n l1 z2 z12 z13 z14 s15 s16 s17 l18 l19 z20 z21 false) else L61_2 n l1 z2 z12 z13 z14 s15 s16 s17 l18 l19 z20 z21 false)
def L61_2 : Nat → (List D) → Int → Int → Int → Int → ByteArray → ByteArray → ByteArray → (List D) → (List D) → Int → Int → Bool → Option (Bool × Int × Int × ByteArray × ByteArray × ByteArray × List D × List D × Int × Int)
  | 0, _, _, _, _, _, _, _, _, _, _, _, _, _ => none
  | n + 1, l1, z2, z12, z13, z14, s15, s16, s17, l18, l19, z20, z21, b23 =>
    (if b23 = true then getF l1 z12 fun x24 => ds_t31 x24 fun z25 z26 s27 s28 s29 l30 l31 z32 => bO10 (F62 n z25 z26 s27 s28 s29 l30 l31 z32 z13 z14 s15 s16 s17 l18 l19 z20 z21) fun b33 z34 z35 s36 s37 s38 l39 l40 z41 z42 => letB (!b33) fun b43 => (if b43 = true then some (false, z34, z35, s36, s37, s38, l39, l40, z41, z42) else letF (IntKind.wrap .i64 (z12 + 1)) fun z44 => L61_1 n l1 z2 z44 z34 z35 s36 s37 s38 l39 l40 z41 z42) else lenF l1 fun z45 => (if z45 ≤ z2 then some (true, z13, z14, s15, s16, s17, l18, l19, z20, z21) else some (false, z13, z14, s15, s16, s17, l18, l19, z20, z21)))
def F61 : Nat → (List D) → Int → Int → Int → ByteArray → ByteArray → ByteArray → (List D) → (List D) → Int → Int → Option (Bool × Int × Int × ByteArray × ByteArray × ByteArray × List D × List D × Int × Int)
  | 0, _, _, _, _, _, _, _, _, _, _, _ => none
  | n + 1, l1, z2, z3, z4, s5, s6, s7, l8, l9, z10, z11 =>
    L61_1 n l1 z2 (0 : Int) z3 z4 s5 s6 s7 l8 l9 z10 z11
def L39_1 : Nat → Int → Int → ByteArray → ByteArray → ByteArray → (List D) → (List D) → Int → Int → Int → Bool → Option (Bool)
  | 0, _, _, _, _, _, _, _, _, _, _, _ => none
  | n + 1, z1, z2, s3, s4, s5, l6, l7, z8, z9, z12, b20 =>
    (if b20 = true then some false else bO10 (F61 n l7 z12 z1 z2 s3 s4 s5 l6 l7 z8 z9) fun b21 z22 z23 s24 s25 s26 l27 l28 z29 z30 => some b21)
def F39 : Nat → Int → Int → ByteArray → ByteArray → ByteArray → (List D) → (List D) → Int → Int → Option (Bool)
  | 0, _, _, _, _, _, _, _, _, _ => none
  | n + 1, z1, z2, s3, s4, s5, l6, l7, z8, z9 =>
    bO4 (F58 n z1) fun b10 z11 z12 b13 => (if z9 < (1 : Int) then L39_1 n z1 z2 s3 s4 s5 l6 l7 z8 z9 z12 true else letB (!b13) fun b14 => (if b14 = true then L39_1 n z1 z2 s3 s4 s5 l6 l7 z8 z9 z12 true else bO1 (F59 n z1 z2 s3 s4 s5 l6 l7 z8) fun b15 => letB (!b15) fun b16 => (if b16 = true then L39_1 n z1 z2 s3 s4 s5 l6 l7 z8 z9 z12 true else lenF l7 fun z17 => (if z17 < z11 then L39_1 n z1 z2 s3 s4 s5 l6 l7 z8 z9 z12 true else bO1 (F60 n z1 z2 s3 s4 s5 l6 l7 z8 b10) fun b18 => letB (!b18) fun b19 => L39_1 n z1 z2 s3 s4 s5 l6 l7 z8 z9 z12 b19))))
end
set_option maxRecDepth 100000 in
set_option maxHeartbeats 40000000 in
theorem G62 (n : Nat) : (∀ ⦃z1 : Int⦄ ⦃z2 : Int⦄ ⦃s3 : ByteArray⦄ ⦃s4 : ByteArray⦄ ⦃s5 : ByteArray⦄ ⦃l6 : List D⦄ ⦃l7 : List D⦄ ⦃z8 : Int⦄ ⦃z9 : Int⦄ ⦃z10 : Int⦄ ⦃s11 : ByteArray⦄ ⦃s12 : ByteArray⦄ ⦃s13 : ByteArray⦄ ⦃l14 : List D⦄ ⦃l15 : List D⦄ ⦃z16 : Int⦄ ⦃z17 : Int⦄ ⦃r1 : Bool⦄ ⦃r2 : Int⦄ ⦃r3 : Int⦄ ⦃r4 : ByteArray⦄ ⦃r5 : ByteArray⦄ ⦃r6 : ByteArray⦄ ⦃r7 : List D⦄ ⦃r8 : List D⦄ ⦃r9 : Int⦄ ⦃r10 : Int⦄, F62 n z1 z2 s3 s4 s5 l6 l7 z8 z9 z10 s11 s12 s13 l14 l15 z16 z17 = some (r1, r2, r3, r4, r5, r6, r7, r8, r9, r10) →
    Trip Tryd.prog inv 62 [.d (.agg [.int .u8 z1, .int .i64 z2, .str s3, .str s4, .str s5, .list false 1 l6, .list true 8 l7, .int .i64 z8]), .c (.ptr (.ext 0) 0), .c (.ptr (.ext 1) 0)] [.cells [.d (.int .u8 z9), .d (.int .i64 z10), .d (.str s11), .d (.str s12), .d (.str s13), .d (.list false 1 l14), .d (.list true 8 l15), .d (.int .i64 z16)], .cells [.d (.int .i64 z17)]] (.v (.d (.bool r1))) [.cells [.d (.int .u8 r2), .d (.int .i64 r3), .d (.str r4), .d (.str r5), .d (.str r6), .d (.list false 1 r7), .d (.list true 8 r8), .d (.int .i64 r9)], .cells [.d (.int .i64 r10)]] []) ∧
    (∀ ⦃l1 : List D⦄ ⦃z2 : Int⦄ ⦃z3 : Int⦄ ⦃z4 : Int⦄ ⦃s5 : ByteArray⦄ ⦃s6 : ByteArray⦄ ⦃s7 : ByteArray⦄ ⦃l8 : List D⦄ ⦃l9 : List D⦄ ⦃z10 : Int⦄ ⦃z11 : Int⦄ ⦃r1 : Bool⦄ ⦃r2 : Int⦄ ⦃r3 : Int⦄ ⦃r4 : ByteArray⦄ ⦃r5 : ByteArray⦄ ⦃r6 : ByteArray⦄ ⦃r7 : List D⦄ ⦃r8 : List D⦄ ⦃r9 : Int⦄ ⦃r10 : Int⦄, F61 n l1 z2 z3 z4 s5 s6 s7 l8 l9 z10 z11 = some (r1, r2, r3, r4, r5, r6, r7, r8, r9, r10) →
    Trip Tryd.prog inv 61 [.d (.list true 8 l1), .d (.int .i64 z2), .c (.fn 62 [.ext 0, .ext 1])] [.cells [.d (.int .u8 z3), .d (.int .i64 z4), .d (.str s5), .d (.str s6), .d (.str s7), .d (.list false 1 l8), .d (.list true 8 l9), .d (.int .i64 z10)], .cells [.d (.int .i64 z11)]] (.v (.d (.bool r1))) [.cells [.d (.int .u8 r2), .d (.int .i64 r3), .d (.str r4), .d (.str r5), .d (.str r6), .d (.list false 1 r7), .d (.list true 8 r8), .d (.int .i64 r9)], .cells [.d (.int .i64 r10)]] []) ∧
    (∀ ⦃z1 : Int⦄ ⦃z2 : Int⦄ ⦃s3 : ByteArray⦄ ⦃s4 : ByteArray⦄ ⦃s5 : ByteArray⦄ ⦃l6 : List D⦄ ⦃l7 : List D⦄ ⦃z8 : Int⦄ ⦃z9 : Int⦄ ⦃r1 : Bool⦄, F39 n z1 z2 s3 s4 s5 l6 l7 z8 z9 = some r1 →
    Trip Tryd.prog inv 39 [.d (.agg [.int .u8 z1, .int .i64 z2, .str s3, .str s4, .str s5, .list false 1 l6, .list true 8 l7, .int .i64 z8]), .d (.int .i64 z9)] [] (.v (.d (.bool r1))) [] []) := by
  induction n using Nat.strongRecOn with
  | _ n ih =>
    cases n with
    | zero =>
      refine ⟨?_, ?_, ?_⟩
      · intro z1 z2 s3 s4 s5 l6 l7 z8 z9 z10 s11 s12 s13 l14 l15 z16 z17 r1 r2 r3 r4 r5 r6 r7 r8 r9 r10 h
        cases (show (none : Option _) = some _ from h)
      · intro l1 z2 z3 z4 s5 s6 s7 l8 l9 z10 z11 r1 r2 r3 r4 r5 r6 r7 r8 r9 r10 h
        cases (show (none : Option _) = some _ from h)
      · intro z1 z2 s3 s4 s5 l6 l7 z8 z9 r1 h
        cases (show (none : Option _) = some _ from h)
    | succ n =>
      refine ⟨?_, ?_, ?_⟩
      · intro z1 z2 s3 s4 s5 l6 l7 z8 z9 z10 s11 s12 s13 l14 l15 z16 z17 r1 r2 r3 r4 r5 r6 r7 r8 r9 r10 h
        rw [F62] at h
        refine Trip.of tab_ok tab_one fol Tryd.func62 rfl (by kernel_rfl) rfl rfl rfl (fun M hM hI => ?_)
        try cbv
        refine seq_go ?_
        try cbv
        refine seq_go ?_
        try cbv
        refine splitI (fun e => ?_) (fun e => ?_)
        · replace h := ite_t e h
          clear e
          try cbv
          replace h := letF_inv h
          obtain ⟨z18, hz, h⟩ := h
          refine ⟨z18, hz, ?_⟩
          clear hz
          try cbv
          replace h := bO1_inv h
          obtain ⟨b19, hr, h⟩ := h
          refine call_go rfl rfl ?_
          try cbv
          refine call_pure hM hI ((ih _ (by omega)).2.2 hr) rfl ?_
          clear hr
          try cbv
          obtain ⟨rfl, rfl, rfl, rfl, rfl, rfl, rfl, rfl, rfl, rfl⟩ := inj10 h
          refine fin_go ?_
          try cbv
          exact ⟨[], rfl, rfl, ⟨rfl, ⟨rfl, trivial⟩⟩, trivial, trivial⟩
        · replace h := ite_f e h
          clear e
          try cbv
          replace h := bO1_inv h
          obtain ⟨b20, hr, h⟩ := h
          refine call_go rfl rfl ?_
          try cbv
          refine call_pure hM hI (T38 _ hr) rfl ?_
          clear hr
          try cbv
          replace h := letB_inv h
          obtain ⟨b21, hz, h⟩ := h
          refine ⟨b21, not_eq' hz, ?_⟩
          clear hz
          try cbv
          cases b21
          · replace h := ite_f Bool.false_ne_true h
            try cbv
            obtain ⟨rfl, rfl, rfl, rfl, rfl, rfl, rfl, rfl, rfl, rfl⟩ := inj10 h
            refine fin_go ?_
            try cbv
            exact ⟨[], rfl, rfl, ⟨rfl, ⟨rfl, trivial⟩⟩, trivial, trivial⟩
          · replace h := ite_t rfl h
            try cbv
            replace h := letF_inv h
            obtain ⟨z22, hz, h⟩ := h
            refine ⟨z22, hz, ?_⟩
            clear hz
            try cbv
            replace h := bO1_inv h
            obtain ⟨b23, hr, h⟩ := h
            refine call_go rfl rfl ?_
            try cbv
            refine call_pure hM hI ((ih _ (by omega)).2.2 hr) rfl ?_
            clear hr
            try cbv
            obtain ⟨rfl, rfl, rfl, rfl, rfl, rfl, rfl, rfl, rfl, rfl⟩ := inj10 h
            refine fin_go ?_
            try cbv
            exact ⟨[], rfl, rfl, ⟨rfl, ⟨rfl, trivial⟩⟩, trivial, trivial⟩
      · intro l1 z2 z3 z4 s5 s6 s7 l8 l9 z10 z11 r1 r2 r3 r4 r5 r6 r7 r8 r9 r10 h
        rw [F61] at h
        refine Trip.of tab_ok tab_one fol Tryd.func61 rfl (by kernel_rfl) rfl rfl rfl (fun M hM hI => ?_)
        try cbv
        refine seq_go ?_
        try cbv
        refine seq_go ?_
        try cbv
        refine seq_go ?_
        try cbv
        refine loop_inv (T := Nat × Int × Int × Int × ByteArray × ByteArray × ByteArray × List D × List D × Int × Int) [0, 1, 2, 6, 7] [.ext 0, .ext 1] 64 (fun t => ⟨[(0, .v (.d (.list true 8 l1))), (1, .v (.d (.int .i64 z2))), (2, .v (.c (.fn 62 [.ext 0, .ext 1]))), (6, .v (.d (.bool false))), (7, .v (.d (.int .i64 t.2.1)))], [(.ext 0, .cells [.d (.int .u8 t.2.2.1), .d (.int .i64 t.2.2.2.1), .d (.str t.2.2.2.2.1), .d (.str t.2.2.2.2.2.1), .d (.str t.2.2.2.2.2.2.1), .d (.list false 1 t.2.2.2.2.2.2.2.1), .d (.list true 8 t.2.2.2.2.2.2.2.2.1), .d (.int .i64 t.2.2.2.2.2.2.2.2.2.1)]), (.ext 1, .cells [.d (.int .i64 t.2.2.2.2.2.2.2.2.2.2)])], 64⟩)
          (fun t => t.1 ≤ n ∧ L61_1 t.1 l1 z2 t.2.1 t.2.2.1 t.2.2.2.1 t.2.2.2.2.1 t.2.2.2.2.2.1 t.2.2.2.2.2.2.1 t.2.2.2.2.2.2.2.1 t.2.2.2.2.2.2.2.2.1 t.2.2.2.2.2.2.2.2.2.1 t.2.2.2.2.2.2.2.2.2.2 = some (r1, r2, r3, r4, r5, r6, r7, r8, r9, r10)) (fun t => t.1) (n, ((0 : Int), z3, z4, s5, s6, s7, l8, l9, z10, z11)) ⟨Nat.le_refl _, h⟩ (by cbv) ?_
        clear h
        rintro ⟨m1, z12, z13, z14, s15, s16, s17, l18, l19, z20, z21⟩ ⟨hm1, h⟩
        replace hm1 : m1 ≤ n := hm1
        cases m1 with
        | zero =>
          replace h : L61_1 0 l1 z2 z12 z13 z14 s15 s16 s17 l18 l19 z20 z21 = some (r1, r2, r3, r4, r5, r6, r7, r8, r9, r10) := h
          rw [L61_1] at h
          cases h
        | succ m1 =>
          replace h : L61_1 (m1 + 1) l1 z2 z12 z13 z14 s15 s16 s17 l18 l19 z20 z21 = some (r1, r2, r3, r4, r5, r6, r7, r8, r9, r10) := h
          rw [L61_1] at h
          try cbv
          refine seq_go ?_
          try cbv
          refine seq_join (T := Nat × Bool) (fun t => ⟨[(0, .v (.d (.list true 8 l1))), (1, .v (.d (.int .i64 z2))), (2, .v (.c (.fn 62 [.ext 0, .ext 1]))), (6, .v (.d (.bool false))), (7, .v (.d (.int .i64 z12))), (16, .v (.d (.bool t.2)))], [(.ext 0, .cells [.d (.int .u8 z13), .d (.int .i64 z14), .d (.str s15), .d (.str s16), .d (.str s17), .d (.list false 1 l18), .d (.list true 8 l19), .d (.int .i64 z20)]), (.ext 1, .cells [.d (.int .i64 z21)])], 352⟩) (fun t => t.1 ≤ m1 ∧ L61_2 t.1 l1 z2 z12 z13 z14 s15 s16 s17 l18 l19 z20 z21 t.2 = some (r1, r2, r3, r4, r5, r6, r7, r8, r9, r10)) ?_ ?_
          · try cbv
            replace h := lenF_inv M h
            obtain ⟨z22, hz, h⟩ := h
            refine ⟨z22, hz, ?_⟩
            clear hz
            try cbv
            refine splitL (fun e => ?_) (fun e => ?_)
            · replace h := ite_t e h
              clear e
              try cbv
              refine splitL (fun e => ?_) (fun e => ?_)
              · replace h := ite_t e h
                clear e
                try cbv
                exact join_next (m1, true) [0, 1, 2, 6, 7, 16] [.ext 0, .ext 1] 352 ⟨by omega, h⟩ (by cbv)
              · replace h := ite_f (Int.not_lt.2 e) h
                clear e
                try cbv
                exact join_next (m1, false) [0, 1, 2, 6, 7, 16] [.ext 0, .ext 1] 352 ⟨by omega, h⟩ (by cbv)
            · replace h := ite_f (Int.not_lt.2 e) h
              clear e
              try cbv
              exact join_next (m1, false) [0, 1, 2, 6, 7, 16] [.ext 0, .ext 1] 352 ⟨by omega, h⟩ (by cbv)
          · clear h
            rintro ⟨m2, b23⟩ ⟨hm2, h⟩
            replace hm2 : m2 ≤ m1 := hm2
            cases m2 with
            | zero =>
              replace h : L61_2 0 l1 z2 z12 z13 z14 s15 s16 s17 l18 l19 z20 z21 b23 = some (r1, r2, r3, r4, r5, r6, r7, r8, r9, r10) := h
              rw [L61_2] at h
              cases h
            | succ m2 =>
              replace h : L61_2 (m2 + 1) l1 z2 z12 z13 z14 s15 s16 s17 l18 l19 z20 z21 b23 = some (r1, r2, r3, r4, r5, r6, r7, r8, r9, r10) := h
              rw [L61_2] at h
              try cbv
              cases b23
              · replace h := ite_f Bool.false_ne_true h
                try cbv
                refine seq_go ?_
                try cbv
                replace h := lenF_inv M h
                obtain ⟨z45, hz, h⟩ := h
                refine ⟨z45, hz, ?_⟩
                clear hz
                try cbv
                refine splitLe (fun e => ?_) (fun e => ?_)
                · replace h := ite_t e h
                  clear e
                  try cbv
                  obtain ⟨rfl, rfl, rfl, rfl, rfl, rfl, rfl, rfl, rfl, rfl⟩ := inj10 h
                  refine fin_go ?_
                  try cbv
                  exact ⟨[], rfl, rfl, ⟨rfl, ⟨rfl, trivial⟩⟩, trivial, trivial⟩
                · replace h := ite_f (Int.not_le.2 e) h
                  clear e
                  try cbv
                  obtain ⟨rfl, rfl, rfl, rfl, rfl, rfl, rfl, rfl, rfl, rfl⟩ := inj10 h
                  refine fin_go ?_
                  try cbv
                  exact ⟨[], rfl, rfl, ⟨rfl, ⟨rfl, trivial⟩⟩, trivial, trivial⟩
              · replace h := ite_t rfl h
                try cbv
                refine seq_go ?_
                try cbv
                refine seq_go ?_
                try cbv
                replace h := getF_inv h
                obtain ⟨x24, ⟨hx0, hx⟩, h⟩ := h
                refine ⟨x24, hx0, hx, ?_⟩
                clear hx0 hx
                replace h := ds_t31_inv h
                obtain ⟨z25, z26, s27, s28, s29, l30, l31, z32, rfl, h⟩ := h
                try cbv
                replace h := bO10_inv h
                obtain ⟨b33, z34, z35, s36, s37, s38, l39, l40, z41, z42, hr, h⟩ := h
                refine call_go rfl rfl ?_
                try cbv
                refine call_with hM hI [.ext 0, .ext 1] ((ih _ (by omega)).1 hr) rfl (by simp) ⟨rfl, ⟨rfl, trivial⟩⟩ ⟨trivial, ⟨trivial, trivial⟩⟩ (by simp) ?_
                clear hr
                try cbv
                replace h := letB_inv h
                obtain ⟨b43, hz, h⟩ := h
                refine ⟨b43, not_eq' hz, ?_⟩
                clear hz
                try cbv
                cases b43
                · replace h := ite_f Bool.false_ne_true h
                  try cbv
                  replace h := letF_inv h
                  obtain ⟨z44, hz, h⟩ := h
                  refine ⟨z44, hz, ?_⟩
                  clear hz
                  try cbv
                  exact loop_next (m2, (z44, z34, z35, s36, s37, s38, l39, l40, z41, z42)) [0, 1, 2, 6, 7] [.ext 0, .ext 1] 64 ⟨by omega, h⟩ (Nat.lt_succ_of_le (by omega)) (by cbv)
                · replace h := ite_t rfl h
                  try cbv
                  refine seq_go ?_
                  try cbv
                  obtain ⟨rfl, rfl, rfl, rfl, rfl, rfl, rfl, rfl, rfl, rfl⟩ := inj10 h
                  refine fin_go ?_
                  try cbv
                  exact ⟨[], rfl, rfl, ⟨rfl, ⟨rfl, trivial⟩⟩, trivial, trivial⟩
      · intro z1 z2 s3 s4 s5 l6 l7 z8 z9 r1 h
        rw [F39] at h
        refine Trip.of tab_ok tab_one fol Tryd.func39 rfl (by kernel_rfl) rfl rfl rfl (fun M hM hI => ?_)
        try cbv
        refine seq_go ?_
        try cbv
        refine seq_go ?_
        try cbv
        replace h := bO4_inv h
        obtain ⟨b10, z11, z12, b13, hr, h⟩ := h
        refine call_go rfl rfl ?_
        try cbv
        refine call_pure hM hI (T58 _ hr) rfl ?_
        clear hr
        try cbv
        refine seq_go ?_
        try cbv
        refine seq_join (T := Nat × Bool) (fun t => ⟨[(2, .v (.c (.ptr (.loc 0) 0))), (3, .v (.c (.ptr (.loc 32) 0))), (4, .v (.d (.bool false))), (5, .v (.c (.ptr (.loc 288) 0))), (38, .v (.d (.bool t.2)))], [(.loc 0, .cells [.d (.int .u8 z1), .d (.int .i64 z2), .d (.str s3), .d (.str s4), .d (.str s5), .d (.list false 1 l6), .d (.list true 8 l7), .d (.int .i64 z8)]), (.loc 32, .cells [.d (.int .i64 z9)]), (.loc 288, .cells [.d (.bool b10), .d (.int .i64 z11), .d (.int .i64 z12)])], 1216⟩) (fun t => t.1 ≤ n ∧ L39_1 t.1 z1 z2 s3 s4 s5 l6 l7 z8 z9 z12 t.2 = some r1) ?_ ?_
        · try cbv
          refine splitL (fun e => ?_) (fun e => ?_)
          · replace h := ite_t e h
            clear e
            try cbv
            exact join_next (n, true) [2, 3, 4, 5, 38] [.loc 0, .loc 32, .loc 288] 1216 ⟨by omega, h⟩ (by cbv)
          · replace h := ite_f (Int.not_lt.2 e) h
            clear e
            try cbv
            replace h := letB_inv h
            obtain ⟨b14, hz, h⟩ := h
            refine ⟨b14, not_eq' hz, ?_⟩
            clear hz
            try cbv
            cases b14
            · replace h := ite_f Bool.false_ne_true h
              try cbv
              replace h := bO1_inv h
              obtain ⟨b15, hr, h⟩ := h
              refine call_go rfl rfl ?_
              try cbv
              refine call_pure hM hI (T59 _ hr) rfl ?_
              clear hr
              try cbv
              replace h := letB_inv h
              obtain ⟨b16, hz, h⟩ := h
              refine ⟨b16, not_eq' hz, ?_⟩
              clear hz
              try cbv
              cases b16
              · replace h := ite_f Bool.false_ne_true h
                try cbv
                replace h := lenF_inv M h
                obtain ⟨z17, hz, h⟩ := h
                refine ⟨z17, hz, ?_⟩
                clear hz
                try cbv
                refine splitL (fun e => ?_) (fun e => ?_)
                · replace h := ite_t e h
                  clear e
                  try cbv
                  exact join_next (n, true) [2, 3, 4, 5, 38] [.loc 0, .loc 32, .loc 288] 1216 ⟨by omega, h⟩ (by cbv)
                · replace h := ite_f (Int.not_lt.2 e) h
                  clear e
                  try cbv
                  replace h := bO1_inv h
                  obtain ⟨b18, hr, h⟩ := h
                  refine call_go rfl rfl ?_
                  try cbv
                  refine call_pure hM hI (T60 _ hr) rfl ?_
                  clear hr
                  try cbv
                  replace h := letB_inv h
                  obtain ⟨b19, hz, h⟩ := h
                  refine ⟨b19, not_eq' hz, ?_⟩
                  clear hz
                  try cbv
                  exact join_next (n, b19) [2, 3, 4, 5, 38] [.loc 0, .loc 32, .loc 288] 1216 ⟨by omega, h⟩ (by cbv)
              · replace h := ite_t rfl h
                try cbv
                exact join_next (n, true) [2, 3, 4, 5, 38] [.loc 0, .loc 32, .loc 288] 1216 ⟨by omega, h⟩ (by cbv)
            · replace h := ite_t rfl h
              try cbv
              exact join_next (n, true) [2, 3, 4, 5, 38] [.loc 0, .loc 32, .loc 288] 1216 ⟨by omega, h⟩ (by cbv)
        · clear h
          rintro ⟨m1, b20⟩ ⟨hm1, h⟩
          replace hm1 : m1 ≤ n := hm1
          cases m1 with
          | zero =>
            replace h : L39_1 0 z1 z2 s3 s4 s5 l6 l7 z8 z9 z12 b20 = some r1 := h
            rw [L39_1] at h
            cases h
          | succ m1 =>
            replace h : L39_1 (m1 + 1) z1 z2 s3 s4 s5 l6 l7 z8 z9 z12 b20 = some r1 := h
            rw [L39_1] at h
            try cbv
            cases b20
            · replace h := ite_f Bool.false_ne_true h
              try cbv
              refine seq_go ?_
              try cbv
              replace h := bO10_inv h
              obtain ⟨b21, z22, z23, s24, s25, s26, l27, l28, z29, z30, hr, h⟩ := h
              refine call_go rfl rfl ?_
              try cbv
              refine call_with hM hI [.loc 0, .loc 32] ((ih _ (by omega)).2.1 hr) rfl (by simp) ⟨rfl, ⟨rfl, trivial⟩⟩ ⟨trivial, ⟨trivial, trivial⟩⟩ (by simp) ?_
              clear hr
              try cbv
              obtain rfl := Option.some.inj h
              refine fin_go ?_
              try cbv
              exact ⟨[], rfl, rfl, trivial, trivial, trivial⟩
            · replace h := ite_t rfl h
              try cbv
              refine seq_go ?_
              try cbv
              obtain rfl := Option.some.inj h
              refine fin_go ?_
              try cbv
              exact ⟨[], rfl, rfl, trivial, trivial, trivial⟩
theorem T39 (n : Nat) : ∀ ⦃z1 : Int⦄ ⦃z2 : Int⦄ ⦃s3 : ByteArray⦄ ⦃s4 : ByteArray⦄ ⦃s5 : ByteArray⦄ ⦃l6 : List D⦄ ⦃l7 : List D⦄ ⦃z8 : Int⦄ ⦃z9 : Int⦄ ⦃r1 : Bool⦄, F39 n z1 z2 s3 s4 s5 l6 l7 z8 z9 = some r1 →
    Trip Tryd.prog inv 39 [.d (.agg [.int .u8 z1, .int .i64 z2, .str s3, .str s4, .str s5, .list false 1 l6, .list true 8 l7, .int .i64 z8]), .d (.int .i64 z9)] [] (.v (.d (.bool r1))) [] [] := (G62 n).2.2
end Go.Proofs.YtjmofeakajdbiaaDoor
end

set_option linter.unusedVariables false
noncomputable section
namespace Go.Proofs.YtjmofeakajdbiaaDoor
open Go Go.AM
def F21 (n : Nat) (z1 : Int) (z2 : Int) (s3 : ByteArray) (s4 : ByteArray) (s5 : ByteArray) (l6 : List D) (l7 : List D) (z8 : Int) : Option (Bool) :=
  bO1 (F38 n z1 z2 s3 s4 s5 l6 l7 z8) fun b9 => letB (!b9) fun b10 => (if b10 = true then bO1 (F39 n z1 z2 s3 s4 s5 l6 l7 z8 (40 : Int)) fun b11 => some b11 else some false)
set_option maxRecDepth 100000 in
set_option maxHeartbeats 40000000 in
theorem T21 (n : Nat) : ∀ ⦃z1 : Int⦄ ⦃z2 : Int⦄ ⦃s3 : ByteArray⦄ ⦃s4 : ByteArray⦄ ⦃s5 : ByteArray⦄ ⦃l6 : List D⦄ ⦃l7 : List D⦄ ⦃z8 : Int⦄ ⦃r1 : Bool⦄, F21 n z1 z2 s3 s4 s5 l6 l7 z8 = some r1 →
    Trip Tryd.prog inv 21 [.d (.agg [.int .u8 z1, .int .i64 z2, .str s3, .str s4, .str s5, .list false 1 l6, .list true 8 l7, .int .i64 z8])] [] (.v (.d (.bool r1))) [] [] := by
  intro z1 z2 s3 s4 s5 l6 l7 z8 r1 h
  unfold F21 at h
  refine Trip.of tab_ok tab_one fol Tryd.func21 rfl (by kernel_rfl) rfl rfl rfl (fun M hM hI => ?_)
  try cbv
  refine seq_go ?_
  try cbv
  refine seq_go ?_
  try cbv
  replace h := bO1_inv h
  obtain ⟨b9, hr, h⟩ := h
  refine call_go rfl rfl ?_
  try cbv
  refine call_pure hM hI (T38 _ hr) rfl ?_
  clear hr
  try cbv
  replace h := letB_inv h
  obtain ⟨b10, hz, h⟩ := h
  refine ⟨b10, not_eq' hz, ?_⟩
  clear hz
  try cbv
  cases b10
  · replace h := ite_f Bool.false_ne_true h
    try cbv
    obtain rfl := Option.some.inj h
    refine fin_go ?_
    try cbv
    exact ⟨[], rfl, rfl, trivial, trivial, trivial⟩
  · replace h := ite_t rfl h
    try cbv
    replace h := bO1_inv h
    obtain ⟨b11, hr, h⟩ := h
    refine call_go rfl rfl ?_
    try cbv
    refine call_pure hM hI (T39 _ hr) rfl ?_
    clear hr
    try cbv
    obtain rfl := Option.some.inj h
    refine fin_go ?_
    try cbv
    exact ⟨[], rfl, rfl, trivial, trivial, trivial⟩
end Go.Proofs.YtjmofeakajdbiaaDoor
end

set_option linter.unusedVariables false
noncomputable section
namespace Go.Proofs.YtjmofeakajdbiaaDoor
open Go Go.AM
def F22 (n : Nat) (z1 : Int) (z2 : Int) (s3 : ByteArray) (s4 : ByteArray) (s5 : ByteArray) (l6 : List D) (l7 : List D) (z8 : Int) : Option (Bool) :=
  (if z1 = (5 : Int) then some true else (if z1 = (6 : Int) then some true else some false))
set_option maxRecDepth 100000 in
set_option maxHeartbeats 40000000 in
theorem T22 (n : Nat) : ∀ ⦃z1 : Int⦄ ⦃z2 : Int⦄ ⦃s3 : ByteArray⦄ ⦃s4 : ByteArray⦄ ⦃s5 : ByteArray⦄ ⦃l6 : List D⦄ ⦃l7 : List D⦄ ⦃z8 : Int⦄ ⦃r1 : Bool⦄, F22 n z1 z2 s3 s4 s5 l6 l7 z8 = some r1 →
    Trip Tryd.prog inv 22 [.d (.agg [.int .u8 z1, .int .i64 z2, .str s3, .str s4, .str s5, .list false 1 l6, .list true 8 l7, .int .i64 z8])] [] (.v (.d (.bool r1))) [] [] := by
  intro z1 z2 s3 s4 s5 l6 l7 z8 r1 h
  unfold F22 at h
  refine Trip.of tab_ok tab_one fol Tryd.func22 rfl (by kernel_rfl) rfl rfl rfl (fun M hM hI => ?_)
  try cbv
  refine seq_go ?_
  try cbv
  refine seq_go ?_
  try cbv
  refine splitI (fun e => ?_) (fun e => ?_)
  · replace h := ite_t e h
    clear e
    try cbv
    obtain rfl := Option.some.inj h
    refine fin_go ?_
    try cbv
    exact ⟨[], rfl, rfl, trivial, trivial, trivial⟩
  · replace h := ite_f e h
    clear e
    try cbv
    refine splitI (fun e => ?_) (fun e => ?_)
    · replace h := ite_t e h
      clear e
      try cbv
      obtain rfl := Option.some.inj h
      refine fin_go ?_
      try cbv
      exact ⟨[], rfl, rfl, trivial, trivial, trivial⟩
    · replace h := ite_f e h
      clear e
      try cbv
      obtain rfl := Option.some.inj h
      refine fin_go ?_
      try cbv
      exact ⟨[], rfl, rfl, trivial, trivial, trivial⟩
end Go.Proofs.YtjmofeakajdbiaaDoor
end

set_option linter.unusedVariables false
noncomputable section
namespace Go.Proofs.YtjmofeakajdbiaaDoor
open Go Go.AM
mutual
def L25_2 : Nat → (List D) → Int → Option (Bool)
  | 0, _, _ => none
  | n + 1, l2, z7 =>
    lenF l2 fun z8 => (if z7 < z8 then L25_3 n l2 z7 true else L25_3 n l2 z7 false)
def L25_3 : Nat → (List D) → Int → Bool → Option (Bool)
  | 0, _, _, _ => none
  | n + 1, l2, z7, b9 =>
    (if b9 = true then getF l2 z7 fun x10 => ds_str x10 fun s11 => (if s11 = k__ then L25_4 n l2 z7 false else getF l2 z7 fun x12 => ds_str x12 fun s13 => bO1 (F14 n s13) fun b14 => letB (!b14) fun b15 => L25_4 n l2 z7 b15) else some true)
def L25_4 : Nat → (List D) → Int → Bool → Option (Bool)
  | 0, _, _, _ => none
  | n + 1, l2, z7, b16 =>
    (if b16 = true then some false else letF (IntKind.wrap .i64 (z7 + 1)) fun z17 => L25_2 n l2 z17)
end
def L25_1 : Nat → (List D) → Bool → Option (Bool)
  | 0, _, _ => none
  | n + 1, l2, b6 =>
    (if b6 = true then some false else L25_2 n l2 (0 : Int))
def F25 (n : Nat) (s1 : ByteArray) (l2 : List D) : Option (Bool) :=
  bO1 (F14 n s1) fun b3 => letB (!b3) fun b4 => (if b4 = true then L25_1 n l2 true else lenF l2 fun z5 => (if (40 : Int) < z5 then L25_1 n l2 true else L25_1 n l2 false))
set_option maxRecDepth 100000 in
set_option maxHeartbeats 40000000 in
theorem T25 (n : Nat) : ∀ ⦃s1 : ByteArray⦄ ⦃l2 : List D⦄ ⦃r1 : Bool⦄, F25 n s1 l2 = some r1 →
    Trip Tryd.prog inv 25 [.d (.agg [.str s1, .list false 1 l2])] [] (.v (.d (.bool r1))) [] [] := by
  intro s1 l2 r1 h
  unfold F25 at h
  refine Trip.of tab_ok tab_one fol Tryd.func25 rfl (by kernel_rfl) rfl rfl rfl (fun M hM hI => ?_)
  try cbv
  refine seq_go ?_
  try cbv
  refine seq_go ?_
  try cbv
  refine seq_join (T := Nat × Bool) (fun t => ⟨[(1, .v (.c (.ptr (.loc 0) 0))), (2, .v (.d (.bool false))), (13, .v (.d (.bool t.2)))], [(.loc 0, .cells [.d (.str s1), .d (.list false 1 l2)])], 384⟩) (fun t => t.1 ≤ n ∧ L25_1 t.1 l2 t.2 = some r1) ?_ ?_
  · try cbv
    replace h := bO1_inv h
    obtain ⟨b3, hr, h⟩ := h
    refine call_go rfl rfl ?_
    try cbv
    refine call_pure hM hI (T14 _ hr) rfl ?_
    clear hr
    try cbv
    replace h := letB_inv h
    obtain ⟨b4, hz, h⟩ := h
    refine ⟨b4, not_eq' hz, ?_⟩
    clear hz
    try cbv
    cases b4
    · replace h := ite_f Bool.false_ne_true h
      try cbv
      replace h := lenF_inv M h
      obtain ⟨z5, hz, h⟩ := h
      refine ⟨z5, hz, ?_⟩
      clear hz
      try cbv
      refine splitL (fun e => ?_) (fun e => ?_)
      · replace h := ite_t e h
        clear e
        try cbv
        exact join_next (n, true) [1, 2, 13] [.loc 0] 384 ⟨by omega, h⟩ (by cbv)
      · replace h := ite_f (Int.not_lt.2 e) h
        clear e
        try cbv
        exact join_next (n, false) [1, 2, 13] [.loc 0] 384 ⟨by omega, h⟩ (by cbv)
    · replace h := ite_t rfl h
      try cbv
      exact join_next (n, true) [1, 2, 13] [.loc 0] 384 ⟨by omega, h⟩ (by cbv)
  · clear h
    rintro ⟨m1, b6⟩ ⟨hm1, h⟩
    replace hm1 : m1 ≤ n := hm1
    cases m1 with
    | zero =>
      replace h : L25_1 0 l2 b6 = some r1 := h
      rw [L25_1] at h
      cases h
    | succ m1 =>
      replace h : L25_1 (m1 + 1) l2 b6 = some r1 := h
      rw [L25_1] at h
      try cbv
      cases b6
      · replace h := ite_f Bool.false_ne_true h
        try cbv
        refine seq_go ?_
        try cbv
        refine seq_go ?_
        try cbv
        refine loop_inv (T := Nat × Int) [1, 2, 3] [.loc 0] 416 (fun t => ⟨[(1, .v (.c (.ptr (.loc 0) 0))), (2, .v (.d (.bool false))), (3, .v (.d (.int .i64 t.2)))], [(.loc 0, .cells [.d (.str s1), .d (.list false 1 l2)])], 416⟩)
          (fun t => t.1 ≤ m1 ∧ L25_2 t.1 l2 t.2 = some r1) (fun t => t.1) (m1, (0 : Int)) ⟨Nat.le_refl _, h⟩ (by cbv) ?_
        clear h
        rintro ⟨m2, z7⟩ ⟨hm2, h⟩
        replace hm2 : m2 ≤ m1 := hm2
        cases m2 with
        | zero =>
          replace h : L25_2 0 l2 z7 = some r1 := h
          rw [L25_2] at h
          cases h
        | succ m2 =>
          replace h : L25_2 (m2 + 1) l2 z7 = some r1 := h
          rw [L25_2] at h
          try cbv
          refine seq_go ?_
          try cbv
          refine seq_join (T := Nat × Bool) (fun t => ⟨[(1, .v (.c (.ptr (.loc 0) 0))), (2, .v (.d (.bool false))), (3, .v (.d (.int .i64 z7))), (18, .v (.d (.bool t.2)))], [(.loc 0, .cells [.d (.str s1), .d (.list false 1 l2)])], 576⟩) (fun t => t.1 ≤ m2 ∧ L25_3 t.1 l2 z7 t.2 = some r1) ?_ ?_
          · try cbv
            replace h := lenF_inv M h
            obtain ⟨z8, hz, h⟩ := h
            refine ⟨z8, hz, ?_⟩
            clear hz
            try cbv
            refine splitL (fun e => ?_) (fun e => ?_)
            · replace h := ite_t e h
              clear e
              try cbv
              exact join_next (m2, true) [1, 2, 3, 18] [.loc 0] 576 ⟨by omega, h⟩ (by cbv)
            · replace h := ite_f (Int.not_lt.2 e) h
              clear e
              try cbv
              exact join_next (m2, false) [1, 2, 3, 18] [.loc 0] 576 ⟨by omega, h⟩ (by cbv)
          · clear h
            rintro ⟨m3, b9⟩ ⟨hm3, h⟩
            replace hm3 : m3 ≤ m2 := hm3
            cases m3 with
            | zero =>
              replace h : L25_3 0 l2 z7 b9 = some r1 := h
              rw [L25_3] at h
              cases h
            | succ m3 =>
              replace h : L25_3 (m3 + 1) l2 z7 b9 = some r1 := h
              rw [L25_3] at h
              try cbv
              cases b9
              · replace h := ite_f Bool.false_ne_true h
                try cbv
                refine seq_go ?_
                try cbv
                obtain rfl := Option.some.inj h
                refine fin_go ?_
                try cbv
                exact ⟨[], rfl, rfl, trivial, trivial, trivial⟩
              · replace h := ite_t rfl h
                try cbv
                refine seq_go ?_
                try cbv
                refine seq_join (T := Nat × Bool) (fun t => ⟨[(1, .v (.c (.ptr (.loc 0) 0))), (2, .v (.d (.bool false))), (3, .v (.d (.int .i64 z7))), (35, .v (.d (.bool t.2)))], [(.loc 0, .cells [.d (.str s1), .d (.list false 1 l2)])], 1056⟩) (fun t => t.1 ≤ m3 ∧ L25_4 t.1 l2 z7 t.2 = some r1) ?_ ?_
                · try cbv
                  replace h := getF_inv h
                  obtain ⟨x10, ⟨hx0, hx⟩, h⟩ := h
                  refine ⟨x10, hx0, hx, ?_⟩
                  clear hx0 hx
                  replace h := ds_str_inv h
                  obtain ⟨s11, rfl, h⟩ := h
                  try cbv
                  refine splitS (fun e => ?_) (fun e => ?_)
                  · replace h := ite_t (bytes_eq.1 e) h
                    clear e
                    try cbv
                    exact join_next (m3, false) [1, 2, 3, 35] [.loc 0] 1056 ⟨by omega, h⟩ (by cbv)
                  · replace h := ite_f (bytes_ne.1 e) h
                    clear e
                    try cbv
                    replace h := getF_inv h
                    obtain ⟨x12, ⟨hx0, hx⟩, h⟩ := h
                    refine ⟨x12, hx0, hx, ?_⟩
                    clear hx0 hx
                    replace h := ds_str_inv h
                    obtain ⟨s13, rfl, h⟩ := h
                    try cbv
                    replace h := bO1_inv h
                    obtain ⟨b14, hr, h⟩ := h
                    refine call_go rfl rfl ?_
                    try cbv
                    refine call_pure hM hI (T14 _ hr) rfl ?_
                    clear hr
                    try cbv
                    replace h := letB_inv h
                    obtain ⟨b15, hz, h⟩ := h
                    refine ⟨b15, not_eq' hz, ?_⟩
                    clear hz
                    try cbv
                    exact join_next (m3, b15) [1, 2, 3, 35] [.loc 0] 1056 ⟨by omega, h⟩ (by cbv)
                · clear h
                  rintro ⟨m4, b16⟩ ⟨hm4, h⟩
                  replace hm4 : m4 ≤ m3 := hm4
                  cases m4 with
                  | zero =>
                    replace h : L25_4 0 l2 z7 b16 = some r1 := h
                    rw [L25_4] at h
                    cases h
                  | succ m4 =>
                    replace h : L25_4 (m4 + 1) l2 z7 b16 = some r1 := h
                    rw [L25_4] at h
                    try cbv
                    cases b16
                    · replace h := ite_f Bool.false_ne_true h
                      try cbv
                      replace h := letF_inv h
                      obtain ⟨z17, hz, h⟩ := h
                      refine ⟨z17, hz, ?_⟩
                      clear hz
                      try cbv
                      exact loop_next (m4, z17) [1, 2, 3] [.loc 0] 416 ⟨by omega, h⟩ (Nat.lt_succ_of_le (by omega)) (by cbv)
                    · replace h := ite_t rfl h
                      try cbv
                      refine seq_go ?_
                      try cbv
                      obtain rfl := Option.some.inj h
                      refine fin_go ?_
                      try cbv
                      exact ⟨[], rfl, rfl, trivial, trivial, trivial⟩
      · replace h := ite_t rfl h
        try cbv
        refine seq_go ?_
        try cbv
        obtain rfl := Option.some.inj h
        refine fin_go ?_
        try cbv
        exact ⟨[], rfl, rfl, trivial, trivial, trivial⟩
end Go.Proofs.YtjmofeakajdbiaaDoor
end

set_option linter.unusedVariables false
noncomputable section
namespace Go.Proofs.YtjmofeakajdbiaaDoor
open Go Go.AM
def L40_1 : Nat → Int → Bool → Option (ByteArray)
  | 0, _, _ => none
  | n + 1, z1, b3 =>
    (if b3 = true then some ByteArray.empty else getF ([.str ByteArray.empty, .str k_i0, .str k_b0, .str k_0, .str k_p0, .str k_p0, .str k_p0, .str k_1, .str k_1, .str k_2, .str k_2, .str k_2, .str k_2, .str k_2, .str k_2, .str k_2, .str k_2, .str k_2, .str k_n6, .str k_tf6, .str k_tv9, .str k_1, .str k_1, .str k_1, .str k_p0, .str k_p1, .str k_1, .str k_1, .str k_p0, .str k_1, .str k_1, .str k_1, .str k_p0, .str k_p1, .str k_p1, .str k_p1, .str k_p0]) z1 fun x4 => ds_str x4 fun s5 => some s5)
def F40 (n : Nat) (z1 : Int) : Option (ByteArray) :=
  letF (IntKind.wrap .i64 z1) fun z2 => (if (37 : Int) ≤ z2 then L40_1 n z1 true else L40_1 n z1 false)
set_option maxRecDepth 100000 in
set_option maxHeartbeats 40000000 in
theorem T40 (n : Nat) : ∀ ⦃z1 : Int⦄ ⦃r1 : ByteArray⦄, F40 n z1 = some r1 →
    Trip Tryd.prog inv 40 [.d (.int .u8 z1)] [] (.v (.d (.str r1))) [] [] := by
  intro z1 r1 h
  unfold F40 at h
  refine Trip.of tab_ok tab_one fol Tryd.func40 rfl (by kernel_rfl) rfl rfl rfl (fun M hM hI => ?_)
  try cbv
  refine seq_go ?_
  try cbv
  refine seq_go ?_
  try cbv
  refine ⟨false, ?_⟩
  try cbv
  refine ⟨true, ?_⟩
  try cbv
  refine seq_go ?_
  try cbv
  refine seq_join (T := Nat × Bool) (fun t => ⟨[(0, .v (.d (.int .u8 z1))), (2, .v (.d (.str ByteArray.empty))), (3, .v (.c (.tl false 1 ([.str ByteArray.empty, .str k_i0, .str k_b0, .str k_0, .str k_p0, .str k_p0, .str k_p0, .str k_1, .str k_1, .str k_2, .str k_2, .str k_2, .str k_2, .str k_2, .str k_2, .str k_2, .str k_2, .str k_2, .str k_n6, .str k_tf6, .str k_tv9, .str k_1, .str k_1, .str k_1, .str k_p0, .str k_p1, .str k_1, .str k_1, .str k_p0, .str k_1, .str k_1, .str k_1, .str k_p0, .str k_p1, .str k_p1, .str k_p1, .str k_p0])))), (9, .v (.d (.bool t.2)))], [], 256⟩) (fun t => t.1 ≤ n ∧ L40_1 t.1 z1 t.2 = some r1) ?_ ?_
  · try cbv
    replace h := letF_inv h
    obtain ⟨z2, hz, h⟩ := h
    refine ⟨z2, hz, ?_⟩
    clear hz
    try cbv
    refine ⟨37, (M.lenI_eq _).trans rfl, ?_⟩
    try cbv
    refine splitLe (fun e => ?_) (fun e => ?_)
    · replace h := ite_t e h
      clear e
      try cbv
      exact join_next (n, true) [0, 2, 3, 9] [] 256 ⟨by omega, h⟩ (by cbv)
    · replace h := ite_f (Int.not_le.2 e) h
      clear e
      try cbv
      exact join_next (n, false) [0, 2, 3, 9] [] 256 ⟨by omega, h⟩ (by cbv)
  · clear h
    rintro ⟨m1, b3⟩ ⟨hm1, h⟩
    replace hm1 : m1 ≤ n := hm1
    cases m1 with
    | zero =>
      replace h : L40_1 0 z1 b3 = some r1 := h
      rw [L40_1] at h
      cases h
    | succ m1 =>
      replace h : L40_1 (m1 + 1) z1 b3 = some r1 := h
      rw [L40_1] at h
      try cbv
      cases b3
      · replace h := ite_f Bool.false_ne_true h
        try cbv
        refine seq_go ?_
        try cbv
        replace h := getF_inv h
        obtain ⟨x4, ⟨hx0, hx⟩, h⟩ := h
        refine ⟨x4, hx0, hx, ?_⟩
        clear hx0 hx
        replace h := ds_str_inv h
        obtain ⟨s5, rfl, h⟩ := h
        try cbv
        obtain rfl := Option.some.inj h
        refine fin_go ?_
        try cbv
        exact ⟨[], rfl, rfl, trivial, trivial, trivial⟩
      · replace h := ite_t rfl h
        try cbv
        refine seq_go ?_
        try cbv
        obtain rfl := Option.some.inj h
        refine fin_go ?_
        try cbv
        exact ⟨[], rfl, rfl, trivial, trivial, trivial⟩
end Go.Proofs.YtjmofeakajdbiaaDoor
end

set_option linter.unusedVariables false
noncomputable section
namespace Go.Proofs.YtjmofeakajdbiaaDoor
open Go Go.AM
def L41_2 : Nat → ByteArray → Int → Bool → Option (Bool)
  | 0, _, _, _ => none
  | n + 1, s1, z2, b7 =>
    (if b7 = true then (if z2 ≤ (1 : Int) then some true else some false) else szF s1 fun z8 => letF (IntKind.wrap .i64 (z8 - 1)) fun z9 => atF s1 z9 fun z10 => letF (IntKind.wrap .u8 (z10 - 48)) fun z11 => letF (IntKind.wrap .i64 z11) fun z12 => (if z2 = z12 then some true else some false))
def L41_1 : Nat → ByteArray → Int → Int → Bool → Option (Bool)
  | 0, _, _, _, _ => none
  | n + 1, s1, z2, z5, b6 =>
    (if b6 = true then (if z2 ≤ (6 : Int) then some true else some false) else (if z5 = (57 : Int) then L41_2 n s1 z2 true else L41_2 n s1 z2 false))
def F41 (n : Nat) (s1 : ByteArray) (z2 : Int) : Option (Bool) :=
  szF s1 fun z3 => letF (IntKind.wrap .i64 (z3 - 1)) fun z4 => atF s1 z4 fun z5 => (if z5 = (54 : Int) then L41_1 n s1 z2 z5 true else L41_1 n s1 z2 z5 false)
set_option maxRecDepth 100000 in
set_option maxHeartbeats 40000000 in
theorem T41 (n : Nat) : ∀ ⦃s1 : ByteArray⦄ ⦃z2 : Int⦄ ⦃r1 : Bool⦄, F41 n s1 z2 = some r1 →
    Trip Tryd.prog inv 41 [.d (.str s1), .d (.int .i64 z2)] [] (.v (.d (.bool r1))) [] [] := by
  intro s1 z2 r1 h
  unfold F41 at h
  refine Trip.of tab_ok tab_one fol Tryd.func41 rfl (by kernel_rfl) rfl rfl rfl (fun M hM hI => ?_)
  try cbv
  refine seq_go ?_
  try cbv
  refine seq_go ?_
  try cbv
  refine seq_go ?_
  try cbv
  replace h := szF_inv M h
  obtain ⟨z3, hz, h⟩ := h
  refine ⟨z3, hz, ?_⟩
  clear hz
  try cbv
  replace h := letF_inv h
  obtain ⟨z4, hz, h⟩ := h
  refine ⟨z4, hz, ?_⟩
  clear hz
  try cbv
  replace h := atF_inv h
  obtain ⟨z5, hz, h⟩ := h
  refine ⟨z5, hz, ?_⟩
  clear hz
  try cbv
  refine seq_join (T := Nat × Bool) (fun t => ⟨[(0, .v (.d (.str s1))), (1, .v (.d (.int .i64 z2))), (4, .v (.d (.bool false))), (9, .v (.d (.int .u8 z5))), (10, .v (.d (.bool t.2)))], [], 256⟩) (fun t => t.1 ≤ n ∧ L41_1 t.1 s1 z2 z5 t.2 = some r1) ?_ ?_
  · try cbv
    refine splitI (fun e => ?_) (fun e => ?_)
    · replace h := ite_t e h
      clear e
      try cbv
      exact join_next (n, true) [0, 1, 4, 9, 10] [] 256 ⟨by omega, h⟩ (by cbv)
    · replace h := ite_f e h
      clear e
      try cbv
      exact join_next (n, false) [0, 1, 4, 9, 10] [] 256 ⟨by omega, h⟩ (by cbv)
  · clear h
    rintro ⟨m1, b6⟩ ⟨hm1, h⟩
    replace hm1 : m1 ≤ n := hm1
    cases m1 with
    | zero =>
      replace h : L41_1 0 s1 z2 z5 b6 = some r1 := h
      rw [L41_1] at h
      cases h
    | succ m1 =>
      replace h : L41_1 (m1 + 1) s1 z2 z5 b6 = some r1 := h
      rw [L41_1] at h
      try cbv
      cases b6
      · replace h := ite_f Bool.false_ne_true h
        try cbv
        refine seq_join (T := Nat × Bool) (fun t => ⟨[(0, .v (.d (.str s1))), (1, .v (.d (.int .i64 z2))), (4, .v (.d (.bool false))), (14, .v (.d (.bool t.2)))], [], 320⟩) (fun t => t.1 ≤ m1 ∧ L41_2 t.1 s1 z2 t.2 = some r1) ?_ ?_
        · try cbv
          refine splitI (fun e => ?_) (fun e => ?_)
          · replace h := ite_t e h
            clear e
            try cbv
            exact join_next (m1, true) [0, 1, 4, 14] [] 320 ⟨by omega, h⟩ (by cbv)
          · replace h := ite_f e h
            clear e
            try cbv
            exact join_next (m1, false) [0, 1, 4, 14] [] 320 ⟨by omega, h⟩ (by cbv)
        · clear h
          rintro ⟨m2, b7⟩ ⟨hm2, h⟩
          replace hm2 : m2 ≤ m1 := hm2
          cases m2 with
          | zero =>
            replace h : L41_2 0 s1 z2 b7 = some r1 := h
            rw [L41_2] at h
            cases h
          | succ m2 =>
            replace h : L41_2 (m2 + 1) s1 z2 b7 = some r1 := h
            rw [L41_2] at h
            try cbv
            cases b7
            · replace h := ite_f Bool.false_ne_true h
              try cbv
              refine seq_go ?_
              try cbv
              replace h := szF_inv M h
              obtain ⟨z8, hz, h⟩ := h
              refine ⟨z8, hz, ?_⟩
              clear hz
              try cbv
              replace h := letF_inv h
              obtain ⟨z9, hz, h⟩ := h
              refine ⟨z9, hz, ?_⟩
              clear hz
              try cbv
              replace h := atF_inv h
              obtain ⟨z10, hz, h⟩ := h
              refine ⟨z10, hz, ?_⟩
              clear hz
              try cbv
              replace h := letF_inv h
              obtain ⟨z11, hz, h⟩ := h
              refine ⟨z11, hz, ?_⟩
              clear hz
              try cbv
              replace h := letF_inv h
              obtain ⟨z12, hz, h⟩ := h
              refine ⟨z12, hz, ?_⟩
              clear hz
              try cbv
              refine splitI (fun e => ?_) (fun e => ?_)
              · replace h := ite_t e h
                clear e
                try cbv
                obtain rfl := Option.some.inj h
                refine fin_go ?_
                try cbv
                exact ⟨[], rfl, rfl, trivial, trivial, trivial⟩
              · replace h := ite_f e h
                clear e
                try cbv
                obtain rfl := Option.some.inj h
                refine fin_go ?_
                try cbv
                exact ⟨[], rfl, rfl, trivial, trivial, trivial⟩
            · replace h := ite_t rfl h
              try cbv
              refine seq_go ?_
              try cbv
              refine splitLe (fun e => ?_) (fun e => ?_)
              · replace h := ite_t e h
                clear e
                try cbv
                obtain rfl := Option.some.inj h
                refine fin_go ?_
                try cbv
                exact ⟨[], rfl, rfl, trivial, trivial, trivial⟩
              · replace h := ite_f (Int.not_le.2 e) h
                clear e
                try cbv
                obtain rfl := Option.some.inj h
                refine fin_go ?_
                try cbv
                exact ⟨[], rfl, rfl, trivial, trivial, trivial⟩
      · replace h := ite_t rfl h
        try cbv
        refine seq_go ?_
        try cbv
        refine splitLe (fun e => ?_) (fun e => ?_)
        · replace h := ite_t e h
          clear e
          try cbv
          obtain rfl := Option.some.inj h
          refine fin_go ?_
          try cbv
          exact ⟨[], rfl, rfl, trivial, trivial, trivial⟩
        · replace h := ite_f (Int.not_le.2 e) h
          clear e
          try cbv
          obtain rfl := Option.some.inj h
          refine fin_go ?_
          try cbv
          exact ⟨[], rfl, rfl, trivial, trivial, trivial⟩
end Go.Proofs.YtjmofeakajdbiaaDoor
end

set_option linter.unusedVariables false
noncomputable section
namespace Go.Proofs.YtjmofeakajdbiaaDoor
open Go Go.AM
mutual
def L42_1 : Nat → ByteArray → Int → Int → Option (Bool)
  | 0, _, _, _ => none
  | n + 1, s1, z2, z3 =>
    szF s1 fun z4 => (if z3 < z4 then L42_2 n s1 z2 z3 true else L42_2 n s1 z2 z3 false)
def L42_2 : Nat → ByteArray → Int → Int → Bool → Option (Bool)
  | 0, _, _, _, _ => none
  | n + 1, s1, z2, z3, b5 =>
    (if b5 = true then atF s1 z3 fun z6 => (if z6 = z2 then L42_3 n s1 z2 z3 true else L42_3 n s1 z2 z3 false) else some false)
def L42_3 : Nat → ByteArray → Int → Int → Bool → Option (Bool)
  | 0, _, _, _, _ => none
  | n + 1, s1, z2, z3, b7 =>
    (if b7 = true then some true else letF (IntKind.wrap .i64 (z3 + 1)) fun z8 => L42_1 n s1 z2 z8)
end
def F42 (n : Nat) (s1 : ByteArray) (z2 : Int) : Option (Bool) :=
  L42_1 n s1 z2 (0 : Int)
set_option maxRecDepth 100000 in
set_option maxHeartbeats 40000000 in
theorem T42 (n : Nat) : ∀ ⦃s1 : ByteArray⦄ ⦃z2 : Int⦄ ⦃r1 : Bool⦄, F42 n s1 z2 = some r1 →
    Trip Tryd.prog inv 42 [.d (.str s1), .d (.int .u8 z2)] [] (.v (.d (.bool r1))) [] [] := by
  intro s1 z2 r1 h
  unfold F42 at h
  refine Trip.of tab_ok tab_one fol Tryd.func42 rfl (by kernel_rfl) rfl rfl rfl (fun M hM hI => ?_)
  try cbv
  refine seq_go ?_
  try cbv
  refine seq_go ?_
  try cbv
  refine seq_go ?_
  try cbv
  refine loop_inv (T := Nat × Int) [0, 1, 4, 5] [] 64 (fun t => ⟨[(0, .v (.d (.str s1))), (1, .v (.d (.int .u8 z2))), (4, .v (.d (.bool false))), (5, .v (.d (.int .i64 t.2)))], [], 64⟩)
    (fun t => t.1 ≤ n ∧ L42_1 t.1 s1 z2 t.2 = some r1) (fun t => t.1) (n, (0 : Int)) ⟨Nat.le_refl _, h⟩ (by cbv) ?_
  clear h
  rintro ⟨m1, z3⟩ ⟨hm1, h⟩
  replace hm1 : m1 ≤ n := hm1
  cases m1 with
  | zero =>
    replace h : L42_1 0 s1 z2 z3 = some r1 := h
    rw [L42_1] at h
    cases h
  | succ m1 =>
    replace h : L42_1 (m1 + 1) s1 z2 z3 = some r1 := h
    rw [L42_1] at h
    try cbv
    refine seq_go ?_
    try cbv
    refine seq_join (T := Nat × Bool) (fun t => ⟨[(0, .v (.d (.str s1))), (1, .v (.d (.int .u8 z2))), (4, .v (.d (.bool false))), (5, .v (.d (.int .i64 z3))), (9, .v (.d (.bool t.2)))], [], 192⟩) (fun t => t.1 ≤ m1 ∧ L42_2 t.1 s1 z2 z3 t.2 = some r1) ?_ ?_
    · try cbv
      replace h := szF_inv M h
      obtain ⟨z4, hz, h⟩ := h
      refine ⟨z4, hz, ?_⟩
      clear hz
      try cbv
      refine splitL (fun e => ?_) (fun e => ?_)
      · replace h := ite_t e h
        clear e
        try cbv
        exact join_next (m1, true) [0, 1, 4, 5, 9] [] 192 ⟨by omega, h⟩ (by cbv)
      · replace h := ite_f (Int.not_lt.2 e) h
        clear e
        try cbv
        exact join_next (m1, false) [0, 1, 4, 5, 9] [] 192 ⟨by omega, h⟩ (by cbv)
    · clear h
      rintro ⟨m2, b5⟩ ⟨hm2, h⟩
      replace hm2 : m2 ≤ m1 := hm2
      cases m2 with
      | zero =>
        replace h : L42_2 0 s1 z2 z3 b5 = some r1 := h
        rw [L42_2] at h
        cases h
      | succ m2 =>
        replace h : L42_2 (m2 + 1) s1 z2 z3 b5 = some r1 := h
        rw [L42_2] at h
        try cbv
        cases b5
        · replace h := ite_f Bool.false_ne_true h
          try cbv
          refine seq_go ?_
          try cbv
          obtain rfl := Option.some.inj h
          refine fin_go ?_
          try cbv
          exact ⟨[], rfl, rfl, trivial, trivial, trivial⟩
        · replace h := ite_t rfl h
          try cbv
          refine seq_go ?_
          try cbv
          refine seq_join (T := Nat × Bool) (fun t => ⟨[(0, .v (.d (.str s1))), (1, .v (.d (.int .u8 z2))), (4, .v (.d (.bool false))), (5, .v (.d (.int .i64 z3))), (16, .v (.d (.bool t.2)))], [], 352⟩) (fun t => t.1 ≤ m2 ∧ L42_3 t.1 s1 z2 z3 t.2 = some r1) ?_ ?_
          · try cbv
            replace h := atF_inv h
            obtain ⟨z6, hz, h⟩ := h
            refine ⟨z6, hz, ?_⟩
            clear hz
            try cbv
            refine splitI (fun e => ?_) (fun e => ?_)
            · replace h := ite_t e h
              clear e
              try cbv
              exact join_next (m2, true) [0, 1, 4, 5, 16] [] 352 ⟨by omega, h⟩ (by cbv)
            · replace h := ite_f e h
              clear e
              try cbv
              exact join_next (m2, false) [0, 1, 4, 5, 16] [] 352 ⟨by omega, h⟩ (by cbv)
          · clear h
            rintro ⟨m3, b7⟩ ⟨hm3, h⟩
            replace hm3 : m3 ≤ m2 := hm3
            cases m3 with
            | zero =>
              replace h : L42_3 0 s1 z2 z3 b7 = some r1 := h
              rw [L42_3] at h
              cases h
            | succ m3 =>
              replace h : L42_3 (m3 + 1) s1 z2 z3 b7 = some r1 := h
              rw [L42_3] at h
              try cbv
              cases b7
              · replace h := ite_f Bool.false_ne_true h
                try cbv
                replace h := letF_inv h
                obtain ⟨z8, hz, h⟩ := h
                refine ⟨z8, hz, ?_⟩
                clear hz
                try cbv
                exact loop_next (m3, z8) [0, 1, 4, 5] [] 64 ⟨by omega, h⟩ (Nat.lt_succ_of_le (by omega)) (by cbv)
              · replace h := ite_t rfl h
                try cbv
                refine seq_go ?_
                try cbv
                obtain rfl := Option.some.inj h
                refine fin_go ?_
                try cbv
                exact ⟨[], rfl, rfl, trivial, trivial, trivial⟩
end Go.Proofs.YtjmofeakajdbiaaDoor
end

set_option linter.unusedVariables false
noncomputable section
namespace Go.Proofs.YtjmofeakajdbiaaDoor
open Go Go.AM
mutual
def L43_2 : Nat → (List D) → Int → Option (Bool)
  | 0, _, _ => none
  | n + 1, l6, z12 =>
    lenF l6 fun z13 => (if z12 < z13 then L43_3 n l6 z12 true else L43_3 n l6 z12 false)
def L43_3 : Nat → (List D) → Int → Bool → Option (Bool)
  | 0, _, _, _ => none
  | n + 1, l6, z12, b14 =>
    (if b14 = true then getF l6 z12 fun x15 => ds_str x15 fun s16 => bO1 (F14 n s16) fun b17 => letB (!b17) fun b18 => (if b18 = true then some false else letF (IntKind.wrap .i64 (z12 + 1)) fun z19 => L43_2 n l6 z19) else some true)
end
def L43_1 : Nat → (List D) → Bool → Option (Bool)
  | 0, _, _ => none
  | n + 1, l6, b11 =>
    (if b11 = true then some false else L43_2 n l6 (0 : Int))
def F43 (n : Nat) (z1 : Int) (z2 : Int) (s3 : ByteArray) (s4 : ByteArray) (s5 : ByteArray) (l6 : List D) (l7 : List D) (z8 : Int) : Option (Bool) :=
  (if s5 = ByteArray.empty then lenF l6 fun z9 => lenF l7 fun z10 => (if z9 = z10 then L43_1 n l6 false else L43_1 n l6 true) else L43_1 n l6 true)
set_option maxRecDepth 100000 in
set_option maxHeartbeats 40000000 in
theorem T43 (n : Nat) : ∀ ⦃z1 : Int⦄ ⦃z2 : Int⦄ ⦃s3 : ByteArray⦄ ⦃s4 : ByteArray⦄ ⦃s5 : ByteArray⦄ ⦃l6 : List D⦄ ⦃l7 : List D⦄ ⦃z8 : Int⦄ ⦃r1 : Bool⦄, F43 n z1 z2 s3 s4 s5 l6 l7 z8 = some r1 →
    Trip Tryd.prog inv 43 [.d (.agg [.int .u8 z1, .int .i64 z2, .str s3, .str s4, .str s5, .list false 1 l6, .list true 8 l7, .int .i64 z8])] [] (.v (.d (.bool r1))) [] [] := by
  intro z1 z2 s3 s4 s5 l6 l7 z8 r1 h
  unfold F43 at h
  refine Trip.of tab_ok tab_one fol Tryd.func43 rfl (by kernel_rfl) rfl rfl rfl (fun M hM hI => ?_)
  try cbv
  refine seq_go ?_
  try cbv
  refine seq_go ?_
  try cbv
  refine seq_join (T := Nat × Bool) (fun t => ⟨[(1, .v (.c (.ptr (.loc 0) 0))), (2, .v (.d (.bool false))), (17, .v (.d (.bool t.2)))], [(.loc 0, .cells [.d (.int .u8 z1), .d (.int .i64 z2), .d (.str s3), .d (.str s4), .d (.str s5), .d (.list false 1 l6), .d (.list true 8 l7), .d (.int .i64 z8)])], 512⟩) (fun t => t.1 ≤ n ∧ L43_1 t.1 l6 t.2 = some r1) ?_ ?_
  · try cbv
    refine splitS (fun e => ?_) (fun e => ?_)
    · replace h := ite_t (bytes_eq.1 e) h
      clear e
      try cbv
      replace h := lenF_inv M h
      obtain ⟨z9, hz, h⟩ := h
      refine ⟨z9, hz, ?_⟩
      clear hz
      try cbv
      replace h := lenF_inv M h
      obtain ⟨z10, hz, h⟩ := h
      refine ⟨z10, hz, ?_⟩
      clear hz
      try cbv
      refine splitI (fun e => ?_) (fun e => ?_)
      · replace h := ite_t e h
        clear e
        try cbv
        exact join_next (n, false) [1, 2, 17] [.loc 0] 512 ⟨by omega, h⟩ (by cbv)
      · replace h := ite_f e h
        clear e
        try cbv
        exact join_next (n, true) [1, 2, 17] [.loc 0] 512 ⟨by omega, h⟩ (by cbv)
    · replace h := ite_f (bytes_ne.1 e) h
      clear e
      try cbv
      exact join_next (n, true) [1, 2, 17] [.loc 0] 512 ⟨by omega, h⟩ (by cbv)
  · clear h
    rintro ⟨m1, b11⟩ ⟨hm1, h⟩
    replace hm1 : m1 ≤ n := hm1
    cases m1 with
    | zero =>
      replace h : L43_1 0 l6 b11 = some r1 := h
      rw [L43_1] at h
      cases h
    | succ m1 =>
      replace h : L43_1 (m1 + 1) l6 b11 = some r1 := h
      rw [L43_1] at h
      try cbv
      cases b11
      · replace h := ite_f Bool.false_ne_true h
        try cbv
        refine seq_go ?_
        try cbv
        refine seq_go ?_
        try cbv
        refine loop_inv (T := Nat × Int) [1, 2, 3] [.loc 0] 544 (fun t => ⟨[(1, .v (.c (.ptr (.loc 0) 0))), (2, .v (.d (.bool false))), (3, .v (.d (.int .i64 t.2)))], [(.loc 0, .cells [.d (.int .u8 z1), .d (.int .i64 z2), .d (.str s3), .d (.str s4), .d (.str s5), .d (.list false 1 l6), .d (.list true 8 l7), .d (.int .i64 z8)])], 544⟩)
          (fun t => t.1 ≤ m1 ∧ L43_2 t.1 l6 t.2 = some r1) (fun t => t.1) (m1, (0 : Int)) ⟨Nat.le_refl _, h⟩ (by cbv) ?_
        clear h
        rintro ⟨m2, z12⟩ ⟨hm2, h⟩
        replace hm2 : m2 ≤ m1 := hm2
        cases m2 with
        | zero =>
          replace h : L43_2 0 l6 z12 = some r1 := h
          rw [L43_2] at h
          cases h
        | succ m2 =>
          replace h : L43_2 (m2 + 1) l6 z12 = some r1 := h
          rw [L43_2] at h
          try cbv
          refine seq_go ?_
          try cbv
          refine seq_join (T := Nat × Bool) (fun t => ⟨[(1, .v (.c (.ptr (.loc 0) 0))), (2, .v (.d (.bool false))), (3, .v (.d (.int .i64 z12))), (23, .v (.d (.bool t.2)))], [(.loc 0, .cells [.d (.int .u8 z1), .d (.int .i64 z2), .d (.str s3), .d (.str s4), .d (.str s5), .d (.list false 1 l6), .d (.list true 8 l7), .d (.int .i64 z8)])], 736⟩) (fun t => t.1 ≤ m2 ∧ L43_3 t.1 l6 z12 t.2 = some r1) ?_ ?_
          · try cbv
            replace h := lenF_inv M h
            obtain ⟨z13, hz, h⟩ := h
            refine ⟨z13, hz, ?_⟩
            clear hz
            try cbv
            refine splitL (fun e => ?_) (fun e => ?_)
            · replace h := ite_t e h
              clear e
              try cbv
              exact join_next (m2, true) [1, 2, 3, 23] [.loc 0] 736 ⟨by omega, h⟩ (by cbv)
            · replace h := ite_f (Int.not_lt.2 e) h
              clear e
              try cbv
              exact join_next (m2, false) [1, 2, 3, 23] [.loc 0] 736 ⟨by omega, h⟩ (by cbv)
          · clear h
            rintro ⟨m3, b14⟩ ⟨hm3, h⟩
            replace hm3 : m3 ≤ m2 := hm3
            cases m3 with
            | zero =>
              replace h : L43_3 0 l6 z12 b14 = some r1 := h
              rw [L43_3] at h
              cases h
            | succ m3 =>
              replace h : L43_3 (m3 + 1) l6 z12 b14 = some r1 := h
              rw [L43_3] at h
              try cbv
              cases b14
              · replace h := ite_f Bool.false_ne_true h
                try cbv
                refine seq_go ?_
                try cbv
                obtain rfl := Option.some.inj h
                refine fin_go ?_
                try cbv
                exact ⟨[], rfl, rfl, trivial, trivial, trivial⟩
              · replace h := ite_t rfl h
                try cbv
                refine seq_go ?_
                try cbv
                refine seq_go ?_
                try cbv
                replace h := getF_inv h
                obtain ⟨x15, ⟨hx0, hx⟩, h⟩ := h
                refine ⟨x15, hx0, hx, ?_⟩
                clear hx0 hx
                replace h := ds_str_inv h
                obtain ⟨s16, rfl, h⟩ := h
                try cbv
                replace h := bO1_inv h
                obtain ⟨b17, hr, h⟩ := h
                refine call_go rfl rfl ?_
                try cbv
                refine call_pure hM hI (T14 _ hr) rfl ?_
                clear hr
                try cbv
                replace h := letB_inv h
                obtain ⟨b18, hz, h⟩ := h
                refine ⟨b18, not_eq' hz, ?_⟩
                clear hz
                try cbv
                cases b18
                · replace h := ite_f Bool.false_ne_true h
                  try cbv
                  replace h := letF_inv h
                  obtain ⟨z19, hz, h⟩ := h
                  refine ⟨z19, hz, ?_⟩
                  clear hz
                  try cbv
                  exact loop_next (m3, z19) [1, 2, 3] [.loc 0] 544 ⟨by omega, h⟩ (Nat.lt_succ_of_le (by omega)) (by cbv)
                · replace h := ite_t rfl h
                  try cbv
                  refine seq_go ?_
                  try cbv
                  obtain rfl := Option.some.inj h
                  refine fin_go ?_
                  try cbv
                  exact ⟨[], rfl, rfl, trivial, trivial, trivial⟩
      · replace h := ite_t rfl h
        try cbv
        refine seq_go ?_
        try cbv
        obtain rfl := Option.some.inj h
        refine fin_go ?_
        try cbv
        exact ⟨[], rfl, rfl, trivial, trivial, trivial⟩
end Go.Proofs.YtjmofeakajdbiaaDoor
end

set_option linter.unusedVariables false
noncomputable section
namespace Go.Proofs.YtjmofeakajdbiaaDoor
open Go Go.AM
set_option maxHeartbeats 40000000 in
mutual
def L23_1 : Nat → Int → Int → ByteArray → ByteArray → ByteArray → (List D) → (List D) → Int → Int → ByteArray → Bool → Option (Bool)
  | 0, _, _, _, _, _, _, _, _, _, _, _ => none
  | n + 1, z1, z2, s3, s4, s5, l6, l7, z8, z9, s10, b14 =>
    (if b14 = true then some false else bO1 (F42 n s10 (105 : Int)) fun b15 => (if b15 = true then (if z2 < (0 : Int) then L23_2 n z1 z2 s3 s4 s5 l6 l7 z8 z9 s10 true else L23_2 n z1 z2 s3 s4 s5 l6 l7 z8 z9 s10 false) else bO1 (F42 n s10 (98 : Int)) fun b17 => (if b17 = true then (if z2 = (0 : Int) then L23_3 n z1 z2 s3 s4 s5 l6 l7 z8 z9 s10 false else (if z2 = (1 : Int) then L23_3 n z1 z2 s3 s4 s5 l6 l7 z8 z9 s10 false else L23_3 n z1 z2 s3 s4 s5 l6 l7 z8 z9 s10 true)) else (if z2 = (0 : Int) then L23_4 n z1 z2 s3 s4 s5 l6 l7 z8 z9 s10 false else L23_4 n z1 z2 s3 s4 s5 l6 l7 z8 z9 s10 true))))
def L23_2 : Nat → Int → Int → ByteArray → ByteArray → ByteArray → (List D) → (List D) → Int → Int → ByteArray → Bool → Option (Bool)
  | 0, _, _, _, _, _, _, _, _, _, _, _ => none
  | n + 1, z1, z2, s3, s4, s5, l6, l7, z8, z9, s10, b16 =>
    (if b16 = true then some false else L23_5 n z1 z2 s3 s4 s5 l6 l7 z8 z9 s10)
def L23_3 : Nat → Int → Int → ByteArray → ByteArray → ByteArray → (List D) → (List D) → Int → Int → ByteArray → Bool → Option (Bool)
  | 0, _, _, _, _, _, _, _, _, _, _, _ => none
  | n + 1, z1, z2, s3, s4, s5, l6, l7, z8, z9, s10, b18 =>
    (if b18 = true then some false else L23_5 n z1 z2 s3 s4 s5 l6 l7 z8 z9 s10)
def L23_4 : Nat → Int → Int → ByteArray → ByteArray → ByteArray → (List D) → (List D) → Int → Int → ByteArray → Bool → Option (Bool)
  | 0, _, _, _, _, _, _, _, _, _, _, _ => none
  | n + 1, z1, z2, s3, s4, s5, l6, l7, z8, z9, s10, b19 =>
    (if b19 = true then some false else L23_5 n z1 z2 s3 s4 s5 l6 l7 z8 z9 s10)
def L23_5 : Nat → Int → Int → ByteArray → ByteArray → ByteArray → (List D) → (List D) → Int → Int → ByteArray → Option (Bool)
  | 0, _, _, _, _, _, _, _, _, _, _ => none
  | n + 1, z1, z2, s3, s4, s5, l6, l7, z8, z9, s10 =>
    bO1 (F42 n s10 (112 : Int)) fun b20 => (if b20 = true then bO1 (F25 n s5 l6) fun b21 => letB (!b21) fun b22 => (if b22 = true then some false else L23_7 n z1 s3 s4 l7 z9 s10) else bO1 (F42 n s10 (102 : Int)) fun b23 => (if b23 = true then bO1 (F43 n z1 z2 s3 s4 s5 l6 l7 z8) fun b24 => letB (!b24) fun b25 => (if b25 = true then some false else L23_7 n z1 s3 s4 l7 z9 s10) else (if s5 = ByteArray.empty then lenF l6 fun z26 => (if (0 : Int) < z26 then L23_6 n z1 s3 s4 l7 z9 s10 true else L23_6 n z1 s3 s4 l7 z9 s10 false) else L23_6 n z1 s3 s4 l7 z9 s10 true)))
def L23_6 : Nat → Int → ByteArray → ByteArray → (List D) → Int → ByteArray → Bool → Option (Bool)
  | 0, _, _, _, _, _, _, _ => none
  | n + 1, z1, s3, s4, l7, z9, s10, b27 =>
    (if b27 = true then some false else L23_7 n z1 s3 s4 l7 z9 s10)
def L23_7 : Nat → Int → ByteArray → ByteArray → (List D) → Int → ByteArray → Option (Bool)
  | 0, _, _, _, _, _, _ => none
  | n + 1, z1, s3, s4, l7, z9, s10 =>
    bO1 (F42 n s10 (110 : Int)) fun b28 => (if b28 = true then bO1 (F14 n s3) fun b29 => letB (!b29) fun b30 => (if b30 = true then L23_8 n z1 s4 l7 z9 s10 true else bO1 (F42 n s10 (116 : Int)) fun b31 => (if b31 = true then bO1 (F16 n s3) fun b32 => letB (!b32) fun b33 => (if b33 = true then L23_8 n z1 s4 l7 z9 s10 true else bO1 (F42 n s10 (110 : Int)) fun b34 => letB (!b34) fun b35 => (if b35 = true then bO1 (F42 n s10 (116 : Int)) fun b36 => letB (!b36) fun b37 => (if b37 = true then (if s3 = ByteArray.empty then L23_8 n z1 s4 l7 z9 s10 false else L23_8 n z1 s4 l7 z9 s10 true) else L23_8 n z1 s4 l7 z9 s10 false) else L23_8 n z1 s4 l7 z9 s10 false)) else bO1 (F42 n s10 (110 : Int)) fun b38 => letB (!b38) fun b39 => (if b39 = true then bO1 (F42 n s10 (116 : Int)) fun b40 => letB (!b40) fun b41 => (if b41 = true then (if s3 = ByteArray.empty then L23_8 n z1 s4 l7 z9 s10 false else L23_8 n z1 s4 l7 z9 s10 true) else L23_8 n z1 s4 l7 z9 s10 false) else L23_8 n z1 s4 l7 z9 s10 false))) else bO1 (F42 n s10 (116 : Int)) fun b42 => (if b42 = true then bO1 (F16 n s3) fun b43 => letB (!b43) fun b44 => (if b44 = true then L23_8 n z1 s4 l7 z9 s10 true else bO1 (F42 n s10 (110 : Int)) fun b45 => letB (!b45) fun b46 => (if b46 = true then bO1 (F42 n s10 (116 : Int)) fun b47 => letB (!b47) fun b48 => (if b48 = true then (if s3 = ByteArray.empty then L23_8 n z1 s4 l7 z9 s10 false else L23_8 n z1 s4 l7 z9 s10 true) else L23_8 n z1 s4 l7 z9 s10 false) else L23_8 n z1 s4 l7 z9 s10 false)) else bO1 (F42 n s10 (110 : Int)) fun b49 => letB (!b49) fun b50 => (if b50 = true then bO1 (F42 n s10 (116 : Int)) fun b51 => letB (!b51) fun b52 => (if b52 = true then (if s3 = ByteArray.empty then L23_8 n z1 s4 l7 z9 s10 false else L23_8 n z1 s4 l7 z9 s10 true) else L23_8 n z1 s4 l7 z9 s10 false) else L23_8 n z1 s4 l7 z9 s10 false)))
def L23_8 : Nat → Int → ByteArray → (List D) → Int → ByteArray → Bool → Option (Bool)
  | 0, _, _, _, _, _, _ => none
  | n + 1, z1, s4, l7, z9, s10, b53 =>
    (if b53 = true then some false else bO1 (F42 n s10 (118 : Int)) fun b54 => (if b54 = true then bO1 (F16 n s4) fun b55 => letB (!b55) fun b56 => (if b56 = true then L23_9 n z1 l7 z9 true else bO1 (F42 n s10 (118 : Int)) fun b57 => letB (!b57) fun b58 => (if b58 = true then (if s4 = ByteArray.empty then L23_9 n z1 l7 z9 false else L23_9 n z1 l7 z9 true) else L23_9 n z1 l7 z9 false)) else bO1 (F42 n s10 (118 : Int)) fun b59 => letB (!b59) fun b60 => (if b60 = true then (if s4 = ByteArray.empty then L23_9 n z1 l7 z9 false else L23_9 n z1 l7 z9 true) else L23_9 n z1 l7 z9 false)))
def L23_9 : Nat → Int → (List D) → Int → Bool → Option (Bool)
  | 0, _, _, _, _ => none
  | n + 1, z1, l7, z9, b61 =>
    (if b61 = true then some false else L23_10 n z1 l7 z9 (0 : Int))
def L23_10 : Nat → Int → (List D) → Int → Int → Option (Bool)
  | 0, _, _, _, _ => none
  | n + 1, z1, l7, z9, z62 =>
    lenF l7 fun z63 => (if z62 < z63 then L23_11 n z1 l7 z9 z62 true else L23_11 n z1 l7 z9 z62 false)
def L23_11 : Nat → Int → (List D) → Int → Int → Bool → Option (Bool)
  | 0, _, _, _, _, _ => none
  | n + 1, z1, l7, z9, z62, b64 =>
    (if b64 = true then getF l7 z62 fun x65 => ds_t31 x65 fun z66 z67 s68 s69 s70 l71 l72 z73 => bO1 (F22 n z66 z67 s68 s69 s70 l71 l72 z73) fun b74 => (if b74 = true then (if z1 = (18 : Int) then getF l7 z62 fun x75 => ds_t31 x75 fun z76 z77 s78 s79 s80 l81 l82 z83 => letF (IntKind.wrap .i64 (z9 - 1)) fun z84 => bO1 (F23 n z76 z77 s78 s79 s80 l81 l82 z83 z84) fun b85 => letB (!b85) fun b86 => L23_12 n z1 l7 z9 z62 b86 else L23_12 n z1 l7 z9 z62 true) else getF l7 z62 fun x87 => ds_t31 x87 fun z88 z89 s90 s91 s92 l93 l94 z95 => letF (IntKind.wrap .i64 (z9 - 1)) fun z96 => bO1 (F23 n z88 z89 s90 s91 s92 l93 l94 z95 z96) fun b97 => letB (!b97) fun b98 => L23_12 n z1 l7 z9 z62 b98) else some true)
def L23_12 : Nat → Int → (List D) → Int → Int → Bool → Option (Bool)
  | 0, _, _, _, _, _ => none
  | n + 1, z1, l7, z9, z62, b99 =>
    (if b99 = true then some false else letF (IntKind.wrap .i64 (z62 + 1)) fun z100 => L23_10 n z1 l7 z9 z100)
def F23 : Nat → Int → Int → ByteArray → ByteArray → ByteArray → (List D) → (List D) → Int → Int → Option (Bool)
  | 0, _, _, _, _, _, _, _, _, _ => none
  | n + 1, z1, z2, s3, s4, s5, l6, l7, z8, z9 =>
    bO1 (F40 n z1) fun s10 => (if z9 < (1 : Int) then L23_1 n z1 z2 s3 s4 s5 l6 l7 z8 z9 s10 true else (if s10 = ByteArray.empty then L23_1 n z1 z2 s3 s4 s5 l6 l7 z8 z9 s10 true else lenF l7 fun z11 => bO1 (F41 n s10 z11) fun b12 => letB (!b12) fun b13 => L23_1 n z1 z2 s3 s4 s5 l6 l7 z8 z9 s10 b13))
end
set_option maxRecDepth 100000 in
set_option maxHeartbeats 40000000 in
theorem T23 (n : Nat) : ∀ ⦃z1 : Int⦄ ⦃z2 : Int⦄ ⦃s3 : ByteArray⦄ ⦃s4 : ByteArray⦄ ⦃s5 : ByteArray⦄ ⦃l6 : List D⦄ ⦃l7 : List D⦄ ⦃z8 : Int⦄ ⦃z9 : Int⦄ ⦃r1 : Bool⦄, F23 n z1 z2 s3 s4 s5 l6 l7 z8 z9 = some r1 →
    Trip Tryd.prog inv 23 [.d (.agg [.int .u8 z1, .int .i64 z2, .str s3, .str s4, .str s5, .list false 1 l6, .list true 8 l7, .int .i64 z8]), .d (.int .i64 z9)] [] (.v (.d (.bool r1))) [] [] := by
  induction n using Nat.strongRecOn with
  | _ n ih =>
    cases n with
    | zero =>
      intro z1 z2 s3 s4 s5 l6 l7 z8 z9 r1 h
      cases (show (none : Option _) = some _ from h)
    | succ n =>
      intro z1 z2 s3 s4 s5 l6 l7 z8 z9 r1 h
      rw [F23] at h
      refine Trip.of tab_ok tab_one fol Tryd.func23 rfl (by kernel_rfl) rfl rfl rfl (fun M hM hI => ?_)
      try cbv
      refine seq_go ?_
      try cbv
      refine seq_go ?_
      try cbv
      replace h := bO1_inv h
      obtain ⟨s10, hr, h⟩ := h
      refine call_go rfl rfl ?_
      try cbv
      refine call_pure hM hI (T40 _ hr) rfl ?_
      clear hr
      try cbv
      refine seq_go ?_
      try cbv
      refine seq_join (T := Nat × Bool) (fun t => ⟨[(1, .v (.d (.int .i64 z9))), (2, .v (.c (.ptr (.loc 0) 0))), (4, .v (.d (.bool false))), (5, .v (.d (.str s10))), (23, .v (.d (.bool t.2)))], [(.loc 0, .cells [.d (.int .u8 z1), .d (.int .i64 z2), .d (.str s3), .d (.str s4), .d (.str s5), .d (.list false 1 l6), .d (.list true 8 l7), .d (.int .i64 z8)])], 640⟩) (fun t => t.1 ≤ n ∧ L23_1 t.1 z1 z2 s3 s4 s5 l6 l7 z8 z9 s10 t.2 = some r1) ?_ ?_
      · try cbv
        refine splitL (fun e => ?_) (fun e => ?_)
        · replace h := ite_t e h
          clear e
          try cbv
          exact join_next (n, true) [1, 2, 4, 5, 23] [.loc 0] 640 ⟨by omega, h⟩ (by cbv)
        · replace h := ite_f (Int.not_lt.2 e) h
          clear e
          try cbv
          refine splitS (fun e => ?_) (fun e => ?_)
          · replace h := ite_t (bytes_eq.1 e) h
            clear e
            try cbv
            exact join_next (n, true) [1, 2, 4, 5, 23] [.loc 0] 640 ⟨by omega, h⟩ (by cbv)
          · replace h := ite_f (bytes_ne.1 e) h
            clear e
            try cbv
            replace h := lenF_inv M h
            obtain ⟨z11, hz, h⟩ := h
            refine ⟨z11, hz, ?_⟩
            clear hz
            try cbv
            replace h := bO1_inv h
            obtain ⟨b12, hr, h⟩ := h
            refine call_go rfl rfl ?_
            try cbv
            refine call_pure hM hI (T41 _ hr) rfl ?_
            clear hr
            try cbv
            replace h := letB_inv h
            obtain ⟨b13, hz, h⟩ := h
            refine ⟨b13, not_eq' hz, ?_⟩
            clear hz
            try cbv
            exact join_next (n, b13) [1, 2, 4, 5, 23] [.loc 0] 640 ⟨by omega, h⟩ (by cbv)
      · clear h
        rintro ⟨m1, b14⟩ ⟨hm1, h⟩
        replace hm1 : m1 ≤ n := hm1
        cases m1 with
        | zero =>
          replace h : L23_1 0 z1 z2 s3 s4 s5 l6 l7 z8 z9 s10 b14 = some r1 := h
          rw [L23_1] at h
          cases h
        | succ m1 =>
          replace h : L23_1 (m1 + 1) z1 z2 s3 s4 s5 l6 l7 z8 z9 s10 b14 = some r1 := h
          rw [L23_1] at h
          try cbv
          cases b14
          · replace h := ite_f Bool.false_ne_true h
            try cbv
            refine seq_join (T := Nat × Unit) (fun t => ⟨[(1, .v (.d (.int .i64 z9))), (2, .v (.c (.ptr (.loc 0) 0))), (4, .v (.d (.bool false))), (5, .v (.d (.str s10)))], [(.loc 0, .cells [.d (.int .u8 z1), .d (.int .i64 z2), .d (.str s3), .d (.str s4), .d (.str s5), .d (.list false 1 l6), .d (.list true 8 l7), .d (.int .i64 z8)])], 1088⟩) (fun t => t.1 ≤ m1 ∧ L23_5 t.1 z1 z2 s3 s4 s5 l6 l7 z8 z9 s10 = some r1) ?_ ?_
            · try cbv
              refine seq_go ?_
              try cbv
              replace h := bO1_inv h
              obtain ⟨b15, hr, h⟩ := h
              refine call_go rfl rfl ?_
              try cbv
              refine call_pure hM hI (T42 _ hr) rfl ?_
              clear hr
              try cbv
              cases b15
              · replace h := ite_f Bool.false_ne_true h
                try cbv
                refine seq_go ?_
                try cbv
                replace h := bO1_inv h
                obtain ⟨b17, hr, h⟩ := h
                refine call_go rfl rfl ?_
                try cbv
                refine call_pure hM hI (T42 _ hr) rfl ?_
                clear hr
                try cbv
                cases b17
                · replace h := ite_f Bool.false_ne_true h
                  try cbv
                  refine seq_join (T := Nat × Bool) (fun t => ⟨[(1, .v (.d (.int .i64 z9))), (2, .v (.c (.ptr (.loc 0) 0))), (4, .v (.d (.bool false))), (5, .v (.d (.str s10))), (26, .v (.d (.bool t.2)))], [(.loc 0, .cells [.d (.int .u8 z1), .d (.int .i64 z2), .d (.str s3), .d (.str s4), .d (.str s5), .d (.list false 1 l6), .d (.list true 8 l7), .d (.int .i64 z8)])], 928⟩) (fun t => t.1 ≤ m1 ∧ L23_4 t.1 z1 z2 s3 s4 s5 l6 l7 z8 z9 s10 t.2 = some r1) ?_ ?_
                  · try cbv
                    refine splitI (fun e => ?_) (fun e => ?_)
                    · replace h := ite_t e h
                      clear e
                      try cbv
                      exact join_next (m1, false) [1, 2, 4, 5, 26] [.loc 0] 928 ⟨by omega, h⟩ (by cbv)
                    · replace h := ite_f e h
                      clear e
                      try cbv
                      exact join_next (m1, true) [1, 2, 4, 5, 26] [.loc 0] 928 ⟨by omega, h⟩ (by cbv)
                  · clear h
                    rintro ⟨m4, b19⟩ ⟨hm4, h⟩
                    replace hm4 : m4 ≤ m1 := hm4
                    cases m4 with
                    | zero =>
                      replace h : L23_4 0 z1 z2 s3 s4 s5 l6 l7 z8 z9 s10 b19 = some r1 := h
                      rw [L23_4] at h
                      cases h
                    | succ m4 =>
                      replace h : L23_4 (m4 + 1) z1 z2 s3 s4 s5 l6 l7 z8 z9 s10 b19 = some r1 := h
                      rw [L23_4] at h
                      try cbv
                      cases b19
                      · replace h := ite_f Bool.false_ne_true h
                        try cbv
                        exact join_next (m4, ()) [1, 2, 4, 5] [.loc 0] 1088 ⟨by omega, h⟩ (by cbv)
                      · replace h := ite_t rfl h
                        try cbv
                        refine seq_go ?_
                        try cbv
                        obtain rfl := Option.some.inj h
                        refine fin_go ?_
                        try cbv
                        exact ⟨[], rfl, rfl, trivial, trivial, trivial⟩
                · replace h := ite_t rfl h
                  try cbv
                  refine seq_join (T := Nat × Bool) (fun t => ⟨[(1, .v (.d (.int .i64 z9))), (2, .v (.c (.ptr (.loc 0) 0))), (4, .v (.d (.bool false))), (5, .v (.d (.str s10))), (43, .v (.d (.bool t.2)))], [(.loc 0, .cells [.d (.int .u8 z1), .d (.int .i64 z2), .d (.str s3), .d (.str s4), .d (.str s5), .d (.list false 1 l6), .d (.list true 8 l7), .d (.int .i64 z8)])], 1088⟩) (fun t => t.1 ≤ m1 ∧ L23_3 t.1 z1 z2 s3 s4 s5 l6 l7 z8 z9 s10 t.2 = some r1) ?_ ?_
                  · try cbv
                    refine splitI (fun e => ?_) (fun e => ?_)
                    · replace h := ite_t e h
                      clear e
                      try cbv
                      exact join_next (m1, false) [1, 2, 4, 5, 43] [.loc 0] 1088 ⟨by omega, h⟩ (by cbv)
                    · replace h := ite_f e h
                      clear e
                      try cbv
                      refine splitI (fun e => ?_) (fun e => ?_)
                      · replace h := ite_t e h
                        clear e
                        try cbv
                        exact join_next (m1, false) [1, 2, 4, 5, 43] [.loc 0] 1088 ⟨by omega, h⟩ (by cbv)
                      · replace h := ite_f e h
                        clear e
                        try cbv
                        exact join_next (m1, true) [1, 2, 4, 5, 43] [.loc 0] 1088 ⟨by omega, h⟩ (by cbv)
                  · clear h
                    rintro ⟨m3, b18⟩ ⟨hm3, h⟩
                    replace hm3 : m3 ≤ m1 := hm3
                    cases m3 with
                    | zero =>
                      replace h : L23_3 0 z1 z2 s3 s4 s5 l6 l7 z8 z9 s10 b18 = some r1 := h
                      rw [L23_3] at h
                      cases h
                    | succ m3 =>
                      replace h : L23_3 (m3 + 1) z1 z2 s3 s4 s5 l6 l7 z8 z9 s10 b18 = some r1 := h
                      rw [L23_3] at h
                      try cbv
                      cases b18
                      · replace h := ite_f Bool.false_ne_true h
                        try cbv
                        exact join_next (m3, ()) [1, 2, 4, 5] [.loc 0] 1088 ⟨by omega, h⟩ (by cbv)
                      · replace h := ite_t rfl h
                        try cbv
                        refine seq_go ?_
                        try cbv
                        obtain rfl := Option.some.inj h
                        refine fin_go ?_
                        try cbv
                        exact ⟨[], rfl, rfl, trivial, trivial, trivial⟩
              · replace h := ite_t rfl h
                try cbv
                refine seq_join (T := Nat × Bool) (fun t => ⟨[(1, .v (.d (.int .i64 z9))), (2, .v (.c (.ptr (.loc 0) 0))), (4, .v (.d (.bool false))), (5, .v (.d (.str s10))), (32, .v (.d (.bool t.2)))], [(.loc 0, .cells [.d (.int .u8 z1), .d (.int .i64 z2), .d (.str s3), .d (.str s4), .d (.str s5), .d (.list false 1 l6), .d (.list true 8 l7), .d (.int .i64 z8)])], 832⟩) (fun t => t.1 ≤ m1 ∧ L23_2 t.1 z1 z2 s3 s4 s5 l6 l7 z8 z9 s10 t.2 = some r1) ?_ ?_
                · try cbv
                  refine splitL (fun e => ?_) (fun e => ?_)
                  · replace h := ite_t e h
                    clear e
                    try cbv
                    exact join_next (m1, true) [1, 2, 4, 5, 32] [.loc 0] 832 ⟨by omega, h⟩ (by cbv)
                  · replace h := ite_f (Int.not_lt.2 e) h
                    clear e
                    try cbv
                    exact join_next (m1, false) [1, 2, 4, 5, 32] [.loc 0] 832 ⟨by omega, h⟩ (by cbv)
                · clear h
                  rintro ⟨m2, b16⟩ ⟨hm2, h⟩
                  replace hm2 : m2 ≤ m1 := hm2
                  cases m2 with
                  | zero =>
                    replace h : L23_2 0 z1 z2 s3 s4 s5 l6 l7 z8 z9 s10 b16 = some r1 := h
                    rw [L23_2] at h
                    cases h
                  | succ m2 =>
                    replace h : L23_2 (m2 + 1) z1 z2 s3 s4 s5 l6 l7 z8 z9 s10 b16 = some r1 := h
                    rw [L23_2] at h
                    try cbv
                    cases b16
                    · replace h := ite_f Bool.false_ne_true h
                      try cbv
                      exact join_next (m2, ()) [1, 2, 4, 5] [.loc 0] 1088 ⟨by omega, h⟩ (by cbv)
                    · replace h := ite_t rfl h
                      try cbv
                      refine seq_go ?_
                      try cbv
                      obtain rfl := Option.some.inj h
                      refine fin_go ?_
                      try cbv
                      exact ⟨[], rfl, rfl, trivial, trivial, trivial⟩
            · clear h
              rintro ⟨m5, _⟩ ⟨hm5, h⟩
              replace hm5 : m5 ≤ m1 := hm5
              cases m5 with
              | zero =>
                replace h : L23_5 0 z1 z2 s3 s4 s5 l6 l7 z8 z9 s10 = some r1 := h
                rw [L23_5] at h
                cases h
              | succ m5 =>
                replace h : L23_5 (m5 + 1) z1 z2 s3 s4 s5 l6 l7 z8 z9 s10 = some r1 := h
                rw [L23_5] at h
                try cbv
                refine seq_join (T := Nat × Unit) (fun t => ⟨[(1, .v (.d (.int .i64 z9))), (2, .v (.c (.ptr (.loc 0) 0))), (4, .v (.d (.bool false))), (5, .v (.d (.str s10)))], [(.loc 0, .cells [.d (.int .u8 z1), .d (.int .i64 z2), .d (.str s3), .d (.str s4), .d (.str s5), .d (.list false 1 l6), .d (.list true 8 l7), .d (.int .i64 z8)])], 1568⟩) (fun t => t.1 ≤ m5 ∧ L23_7 t.1 z1 s3 s4 l7 z9 s10 = some r1) ?_ ?_
                · try cbv
                  refine seq_go ?_
                  try cbv
                  replace h := bO1_inv h
                  obtain ⟨b20, hr, h⟩ := h
                  refine call_go rfl rfl ?_
                  try cbv
                  refine call_pure hM hI (T42 _ hr) rfl ?_
                  clear hr
                  try cbv
                  cases b20
                  · replace h := ite_f Bool.false_ne_true h
                    try cbv
                    refine seq_go ?_
                    try cbv
                    replace h := bO1_inv h
                    obtain ⟨b23, hr, h⟩ := h
                    refine call_go rfl rfl ?_
                    try cbv
                    refine call_pure hM hI (T42 _ hr) rfl ?_
                    clear hr
                    try cbv
                    cases b23
                    · replace h := ite_f Bool.false_ne_true h
                      try cbv
                      refine seq_join (T := Nat × Bool) (fun t => ⟨[(1, .v (.d (.int .i64 z9))), (2, .v (.c (.ptr (.loc 0) 0))), (4, .v (.d (.bool false))), (5, .v (.d (.str s10))), (65, .v (.d (.bool t.2)))], [(.loc 0, .cells [.d (.int .u8 z1), .d (.int .i64 z2), .d (.str s3), .d (.str s4), .d (.str s5), .d (.list false 1 l6), .d (.list true 8 l7), .d (.int .i64 z8)])], 1568⟩) (fun t => t.1 ≤ m5 ∧ L23_6 t.1 z1 s3 s4 l7 z9 s10 t.2 = some r1) ?_ ?_
                      · try cbv
                        refine splitS (fun e => ?_) (fun e => ?_)
                        · replace h := ite_t (bytes_eq.1 e) h
                          clear e
                          try cbv
                          replace h := lenF_inv M h
                          obtain ⟨z26, hz, h⟩ := h
                          refine ⟨z26, hz, ?_⟩
                          clear hz
                          try cbv
                          refine splitL (fun e => ?_) (fun e => ?_)
                          · replace h := ite_t e h
                            clear e
                            try cbv
                            exact join_next (m5, true) [1, 2, 4, 5, 65] [.loc 0] 1568 ⟨by omega, h⟩ (by cbv)
                          · replace h := ite_f (Int.not_lt.2 e) h
                            clear e
                            try cbv
                            exact join_next (m5, false) [1, 2, 4, 5, 65] [.loc 0] 1568 ⟨by omega, h⟩ (by cbv)
                        · replace h := ite_f (bytes_ne.1 e) h
                          clear e
                          try cbv
                          exact join_next (m5, true) [1, 2, 4, 5, 65] [.loc 0] 1568 ⟨by omega, h⟩ (by cbv)
                      · clear h
                        rintro ⟨m6, b27⟩ ⟨hm6, h⟩
                        replace hm6 : m6 ≤ m5 := hm6
                        cases m6 with
                        | zero =>
                          replace h : L23_6 0 z1 s3 s4 l7 z9 s10 b27 = some r1 := h
                          rw [L23_6] at h
                          cases h
                        | succ m6 =>
                          replace h : L23_6 (m6 + 1) z1 s3 s4 l7 z9 s10 b27 = some r1 := h
                          rw [L23_6] at h
                          try cbv
                          cases b27
                          · replace h := ite_f Bool.false_ne_true h
                            try cbv
                            exact join_next (m6, ()) [1, 2, 4, 5] [.loc 0] 1568 ⟨by omega, h⟩ (by cbv)
                          · replace h := ite_t rfl h
                            try cbv
                            refine seq_go ?_
                            try cbv
                            obtain rfl := Option.some.inj h
                            refine fin_go ?_
                            try cbv
                            exact ⟨[], rfl, rfl, trivial, trivial, trivial⟩
                    · replace h := ite_t rfl h
                      try cbv
                      refine seq_go ?_
                      try cbv
                      replace h := bO1_inv h
                      obtain ⟨b24, hr, h⟩ := h
                      refine call_go rfl rfl ?_
                      try cbv
                      refine call_pure hM hI (T43 _ hr) rfl ?_
                      clear hr
                      try cbv
                      replace h := letB_inv h
                      obtain ⟨b25, hz, h⟩ := h
                      refine ⟨b25, not_eq' hz, ?_⟩
                      clear hz
                      try cbv
                      cases b25
                      · replace h := ite_f Bool.false_ne_true h
                        try cbv
                        exact join_next (m5, ()) [1, 2, 4, 5] [.loc 0] 1568 ⟨by omega, h⟩ (by cbv)
                      · replace h := ite_t rfl h
                        try cbv
                        refine seq_go ?_
                        try cbv
                        obtain rfl := Option.some.inj h
                        refine fin_go ?_
                        try cbv
                        exact ⟨[], rfl, rfl, trivial, trivial, trivial⟩
                  · replace h := ite_t rfl h
                    try cbv
                    refine seq_go ?_
                    try cbv
                    replace h := bO1_inv h
                    obtain ⟨b21, hr, h⟩ := h
                    refine call_go rfl rfl ?_
                    try cbv
                    refine call_pure hM hI (T25 _ hr) rfl ?_
                    clear hr
                    try cbv
                    replace h := letB_inv h
                    obtain ⟨b22, hz, h⟩ := h
                    refine ⟨b22, not_eq' hz, ?_⟩
                    clear hz
                    try cbv
                    cases b22
                    · replace h := ite_f Bool.false_ne_true h
                      try cbv
                      exact join_next (m5, ()) [1, 2, 4, 5] [.loc 0] 1568 ⟨by omega, h⟩ (by cbv)
                    · replace h := ite_t rfl h
                      try cbv
                      refine seq_go ?_
                      try cbv
                      obtain rfl := Option.some.inj h
                      refine fin_go ?_
                      try cbv
                      exact ⟨[], rfl, rfl, trivial, trivial, trivial⟩
                · clear h
                  rintro ⟨m7, _⟩ ⟨hm7, h⟩
                  replace hm7 : m7 ≤ m5 := hm7
                  cases m7 with
                  | zero =>
                    replace h : L23_7 0 z1 s3 s4 l7 z9 s10 = some r1 := h
                    rw [L23_7] at h
                    cases h
                  | succ m7 =>
                    replace h : L23_7 (m7 + 1) z1 s3 s4 l7 z9 s10 = some r1 := h
                    rw [L23_7] at h
                    try cbv
                    refine seq_go ?_
                    try cbv
                    refine seq_join (T := Nat × Bool) (fun t => ⟨[(1, .v (.d (.int .i64 z9))), (2, .v (.c (.ptr (.loc 0) 0))), (4, .v (.d (.bool false))), (5, .v (.d (.str s10))), (98, .v (.d (.bool t.2)))], [(.loc 0, .cells [.d (.int .u8 z1), .d (.int .i64 z2), .d (.str s3), .d (.str s4), .d (.str s5), .d (.list false 1 l6), .d (.list true 8 l7), .d (.int .i64 z8)])], 2624⟩) (fun t => t.1 ≤ m7 ∧ L23_8 t.1 z1 s4 l7 z9 s10 t.2 = some r1) ?_ ?_
                    · try cbv
                      replace h := bO1_inv h
                      obtain ⟨b28, hr, h⟩ := h
                      refine call_go rfl rfl ?_
                      try cbv
                      refine call_pure hM hI (T42 _ hr) rfl ?_
                      clear hr
                      try cbv
                      cases b28
                      · replace h := ite_f Bool.false_ne_true h
                        try cbv
                        replace h := bO1_inv h
                        obtain ⟨b42, hr, h⟩ := h
                        refine call_go rfl rfl ?_
                        try cbv
                        refine call_pure hM hI (T42 _ hr) rfl ?_
                        clear hr
                        try cbv
                        cases b42
                        · replace h := ite_f Bool.false_ne_true h
                          try cbv
                          replace h := bO1_inv h
                          obtain ⟨b49, hr, h⟩ := h
                          refine call_go rfl rfl ?_
                          try cbv
                          refine call_pure hM hI (T42 _ hr) rfl ?_
                          clear hr
                          try cbv
                          replace h := letB_inv h
                          obtain ⟨b50, hz, h⟩ := h
                          refine ⟨b50, not_eq' hz, ?_⟩
                          clear hz
                          try cbv
                          cases b50
                          · replace h := ite_f Bool.false_ne_true h
                            try cbv
                            exact join_next (m7, false) [1, 2, 4, 5, 98] [.loc 0] 2624 ⟨by omega, h⟩ (by cbv)
                          · replace h := ite_t rfl h
                            try cbv
                            replace h := bO1_inv h
                            obtain ⟨b51, hr, h⟩ := h
                            refine call_go rfl rfl ?_
                            try cbv
                            refine call_pure hM hI (T42 _ hr) rfl ?_
                            clear hr
                            try cbv
                            replace h := letB_inv h
                            obtain ⟨b52, hz, h⟩ := h
                            refine ⟨b52, not_eq' hz, ?_⟩
                            clear hz
                            try cbv
                            cases b52
                            · replace h := ite_f Bool.false_ne_true h
                              try cbv
                              exact join_next (m7, false) [1, 2, 4, 5, 98] [.loc 0] 2624 ⟨by omega, h⟩ (by cbv)
                            · replace h := ite_t rfl h
                              try cbv
                              refine splitS (fun e => ?_) (fun e => ?_)
                              · replace h := ite_t (bytes_eq.1 e) h
                                clear e
                                try cbv
                                exact join_next (m7, false) [1, 2, 4, 5, 98] [.loc 0] 2624 ⟨by omega, h⟩ (by cbv)
                              · replace h := ite_f (bytes_ne.1 e) h
                                clear e
                                try cbv
                                exact join_next (m7, true) [1, 2, 4, 5, 98] [.loc 0] 2624 ⟨by omega, h⟩ (by cbv)
                        · replace h := ite_t rfl h
                          try cbv
                          replace h := bO1_inv h
                          obtain ⟨b43, hr, h⟩ := h
                          refine call_go rfl rfl ?_
                          try cbv
                          refine call_pure hM hI (T16 _ hr) rfl ?_
                          clear hr
                          try cbv
                          replace h := letB_inv h
                          obtain ⟨b44, hz, h⟩ := h
                          refine ⟨b44, not_eq' hz, ?_⟩
                          clear hz
                          try cbv
                          cases b44
                          · replace h := ite_f Bool.false_ne_true h
                            try cbv
                            replace h := bO1_inv h
                            obtain ⟨b45, hr, h⟩ := h
                            refine call_go rfl rfl ?_
                            try cbv
                            refine call_pure hM hI (T42 _ hr) rfl ?_
                            clear hr
                            try cbv
                            replace h := letB_inv h
                            obtain ⟨b46, hz, h⟩ := h
                            refine ⟨b46, not_eq' hz, ?_⟩
                            clear hz
                            try cbv
                            cases b46
                            · replace h := ite_f Bool.false_ne_true h
                              try cbv
                              exact join_next (m7, false) [1, 2, 4, 5, 98] [.loc 0] 2624 ⟨by omega, h⟩ (by cbv)
                            · replace h := ite_t rfl h
                              try cbv
                              replace h := bO1_inv h
                              obtain ⟨b47, hr, h⟩ := h
                              refine call_go rfl rfl ?_
                              try cbv
                              refine call_pure hM hI (T42 _ hr) rfl ?_
                              clear hr
                              try cbv
                              replace h := letB_inv h
                              obtain ⟨b48, hz, h⟩ := h
                              refine ⟨b48, not_eq' hz, ?_⟩
                              clear hz
                              try cbv
                              cases b48
                              · replace h := ite_f Bool.false_ne_true h
                                try cbv
                                exact join_next (m7, false) [1, 2, 4, 5, 98] [.loc 0] 2624 ⟨by omega, h⟩ (by cbv)
                              · replace h := ite_t rfl h
                                try cbv
                                refine splitS (fun e => ?_) (fun e => ?_)
                                · replace h := ite_t (bytes_eq.1 e) h
                                  clear e
                                  try cbv
                                  exact join_next (m7, false) [1, 2, 4, 5, 98] [.loc 0] 2624 ⟨by omega, h⟩ (by cbv)
                                · replace h := ite_f (bytes_ne.1 e) h
                                  clear e
                                  try cbv
                                  exact join_next (m7, true) [1, 2, 4, 5, 98] [.loc 0] 2624 ⟨by omega, h⟩ (by cbv)
                          · replace h := ite_t rfl h
                            try cbv
                            exact join_next (m7, true) [1, 2, 4, 5, 98] [.loc 0] 2624 ⟨by omega, h⟩ (by cbv)
                      · replace h := ite_t rfl h
                        try cbv
                        replace h := bO1_inv h
                        obtain ⟨b29, hr, h⟩ := h
                        refine call_go rfl rfl ?_
                        try cbv
                        refine call_pure hM hI (T14 _ hr) rfl ?_
                        clear hr
                        try cbv
                        replace h := letB_inv h
                        obtain ⟨b30, hz, h⟩ := h
                        refine ⟨b30, not_eq' hz, ?_⟩
                        clear hz
                        try cbv
                        cases b30
                        · replace h := ite_f Bool.false_ne_true h
                          try cbv
                          replace h := bO1_inv h
                          obtain ⟨b31, hr, h⟩ := h
                          refine call_go rfl rfl ?_
                          try cbv
                          refine call_pure hM hI (T42 _ hr) rfl ?_
                          clear hr
                          try cbv
                          cases b31
                          · replace h := ite_f Bool.false_ne_true h
                            try cbv
                            replace h := bO1_inv h
                            obtain ⟨b38, hr, h⟩ := h
                            refine call_go rfl rfl ?_
                            try cbv
                            refine call_pure hM hI (T42 _ hr) rfl ?_
                            clear hr
                            try cbv
                            replace h := letB_inv h
                            obtain ⟨b39, hz, h⟩ := h
                            refine ⟨b39, not_eq' hz, ?_⟩
                            clear hz
                            try cbv
                            cases b39
                            · replace h := ite_f Bool.false_ne_true h
                              try cbv
                              exact join_next (m7, false) [1, 2, 4, 5, 98] [.loc 0] 2624 ⟨by omega, h⟩ (by cbv)
                            · replace h := ite_t rfl h
                              try cbv
                              replace h := bO1_inv h
                              obtain ⟨b40, hr, h⟩ := h
                              refine call_go rfl rfl ?_
                              try cbv
                              refine call_pure hM hI (T42 _ hr) rfl ?_
                              clear hr
                              try cbv
                              replace h := letB_inv h
                              obtain ⟨b41, hz, h⟩ := h
                              refine ⟨b41, not_eq' hz, ?_⟩
                              clear hz
                              try cbv
                              cases b41
                              · replace h := ite_f Bool.false_ne_true h
                                try cbv
                                exact join_next (m7, false) [1, 2, 4, 5, 98] [.loc 0] 2624 ⟨by omega, h⟩ (by cbv)
                              · replace h := ite_t rfl h
                                try cbv
                                refine splitS (fun e => ?_) (fun e => ?_)
                                · replace h := ite_t (bytes_eq.1 e) h
                                  clear e
                                  try cbv
                                  exact join_next (m7, false) [1, 2, 4, 5, 98] [.loc 0] 2624 ⟨by omega, h⟩ (by cbv)
                                · replace h := ite_f (bytes_ne.1 e) h
                                  clear e
                                  try cbv
                                  exact join_next (m7, true) [1, 2, 4, 5, 98] [.loc 0] 2624 ⟨by omega, h⟩ (by cbv)
                          · replace h := ite_t rfl h
                            try cbv
                            replace h := bO1_inv h
                            obtain ⟨b32, hr, h⟩ := h
                            refine call_go rfl rfl ?_
                            try cbv
                            refine call_pure hM hI (T16 _ hr) rfl ?_
                            clear hr
                            try cbv
                            replace h := letB_inv h
                            obtain ⟨b33, hz, h⟩ := h
                            refine ⟨b33, not_eq' hz, ?_⟩
                            clear hz
                            try cbv
                            cases b33
                            · replace h := ite_f Bool.false_ne_true h
                              try cbv
                              replace h := bO1_inv h
                              obtain ⟨b34, hr, h⟩ := h
                              refine call_go rfl rfl ?_
                              try cbv
                              refine call_pure hM hI (T42 _ hr) rfl ?_
                              clear hr
                              try cbv
                              replace h := letB_inv h
                              obtain ⟨b35, hz, h⟩ := h
                              refine ⟨b35, not_eq' hz, ?_⟩
                              clear hz
                              try cbv
                              cases b35
                              · replace h := ite_f Bool.false_ne_true h
                                try cbv
                                exact join_next (m7, false) [1, 2, 4, 5, 98] [.loc 0] 2624 ⟨by omega, h⟩ (by cbv)
                              · replace h := ite_t rfl h
                                try cbv
                                replace h := bO1_inv h
                                obtain ⟨b36, hr, h⟩ := h
                                refine call_go rfl rfl ?_
                                try cbv
                                refine call_pure hM hI (T42 _ hr) rfl ?_
                                clear hr
                                try cbv
                                replace h := letB_inv h
                                obtain ⟨b37, hz, h⟩ := h
                                refine ⟨b37, not_eq' hz, ?_⟩
                                clear hz
                                try cbv
                                cases b37
                                · replace h := ite_f Bool.false_ne_true h
                                  try cbv
                                  exact join_next (m7, false) [1, 2, 4, 5, 98] [.loc 0] 2624 ⟨by omega, h⟩ (by cbv)
                                · replace h := ite_t rfl h
                                  try cbv
                                  refine splitS (fun e => ?_) (fun e => ?_)
                                  · replace h := ite_t (bytes_eq.1 e) h
                                    clear e
                                    try cbv
                                    exact join_next (m7, false) [1, 2, 4, 5, 98] [.loc 0] 2624 ⟨by omega, h⟩ (by cbv)
                                  · replace h := ite_f (bytes_ne.1 e) h
                                    clear e
                                    try cbv
                                    exact join_next (m7, true) [1, 2, 4, 5, 98] [.loc 0] 2624 ⟨by omega, h⟩ (by cbv)
                            · replace h := ite_t rfl h
                              try cbv
                              exact join_next (m7, true) [1, 2, 4, 5, 98] [.loc 0] 2624 ⟨by omega, h⟩ (by cbv)
                        · replace h := ite_t rfl h
                          try cbv
                          exact join_next (m7, true) [1, 2, 4, 5, 98] [.loc 0] 2624 ⟨by omega, h⟩ (by cbv)
                    · clear h
                      rintro ⟨m8, b53⟩ ⟨hm8, h⟩
                      replace hm8 : m8 ≤ m7 := hm8
                      cases m8 with
                      | zero =>
                        replace h : L23_8 0 z1 s4 l7 z9 s10 b53 = some r1 := h
                        rw [L23_8] at h
                        cases h
                      | succ m8 =>
                        replace h : L23_8 (m8 + 1) z1 s4 l7 z9 s10 b53 = some r1 := h
                        rw [L23_8] at h
                        try cbv
                        cases b53
                        · replace h := ite_f Bool.false_ne_true h
                          try cbv
                          refine seq_go ?_
                          try cbv
                          refine seq_join (T := Nat × Bool) (fun t => ⟨[(1, .v (.d (.int .i64 z9))), (2, .v (.c (.ptr (.loc 0) 0))), (4, .v (.d (.bool false))), (116, .v (.d (.bool t.2)))], [(.loc 0, .cells [.d (.int .u8 z1), .d (.int .i64 z2), .d (.str s3), .d (.str s4), .d (.str s5), .d (.list false 1 l6), .d (.list true 8 l7), .d (.int .i64 z8)])], 3200⟩) (fun t => t.1 ≤ m8 ∧ L23_9 t.1 z1 l7 z9 t.2 = some r1) ?_ ?_
                          · try cbv
                            replace h := bO1_inv h
                            obtain ⟨b54, hr, h⟩ := h
                            refine call_go rfl rfl ?_
                            try cbv
                            refine call_pure hM hI (T42 _ hr) rfl ?_
                            clear hr
                            try cbv
                            cases b54
                            · replace h := ite_f Bool.false_ne_true h
                              try cbv
                              replace h := bO1_inv h
                              obtain ⟨b59, hr, h⟩ := h
                              refine call_go rfl rfl ?_
                              try cbv
                              refine call_pure hM hI (T42 _ hr) rfl ?_
                              clear hr
                              try cbv
                              replace h := letB_inv h
                              obtain ⟨b60, hz, h⟩ := h
                              refine ⟨b60, not_eq' hz, ?_⟩
                              clear hz
                              try cbv
                              cases b60
                              · replace h := ite_f Bool.false_ne_true h
                                try cbv
                                exact join_next (m8, false) [1, 2, 4, 116] [.loc 0] 3200 ⟨by omega, h⟩ (by cbv)
                              · replace h := ite_t rfl h
                                try cbv
                                refine splitS (fun e => ?_) (fun e => ?_)
                                · replace h := ite_t (bytes_eq.1 e) h
                                  clear e
                                  try cbv
                                  exact join_next (m8, false) [1, 2, 4, 116] [.loc 0] 3200 ⟨by omega, h⟩ (by cbv)
                                · replace h := ite_f (bytes_ne.1 e) h
                                  clear e
                                  try cbv
                                  exact join_next (m8, true) [1, 2, 4, 116] [.loc 0] 3200 ⟨by omega, h⟩ (by cbv)
                            · replace h := ite_t rfl h
                              try cbv
                              replace h := bO1_inv h
                              obtain ⟨b55, hr, h⟩ := h
                              refine call_go rfl rfl ?_
                              try cbv
                              refine call_pure hM hI (T16 _ hr) rfl ?_
                              clear hr
                              try cbv
                              replace h := letB_inv h
                              obtain ⟨b56, hz, h⟩ := h
                              refine ⟨b56, not_eq' hz, ?_⟩
                              clear hz
                              try cbv
                              cases b56
                              · replace h := ite_f Bool.false_ne_true h
                                try cbv
                                replace h := bO1_inv h
                                obtain ⟨b57, hr, h⟩ := h
                                refine call_go rfl rfl ?_
                                try cbv
                                refine call_pure hM hI (T42 _ hr) rfl ?_
                                clear hr
                                try cbv
                                replace h := letB_inv h
                                obtain ⟨b58, hz, h⟩ := h
                                refine ⟨b58, not_eq' hz, ?_⟩
                                clear hz
                                try cbv
                                cases b58
                                · replace h := ite_f Bool.false_ne_true h
                                  try cbv
                                  exact join_next (m8, false) [1, 2, 4, 116] [.loc 0] 3200 ⟨by omega, h⟩ (by cbv)
                                · replace h := ite_t rfl h
                                  try cbv
                                  refine splitS (fun e => ?_) (fun e => ?_)
                                  · replace h := ite_t (bytes_eq.1 e) h
                                    clear e
                                    try cbv
                                    exact join_next (m8, false) [1, 2, 4, 116] [.loc 0] 3200 ⟨by omega, h⟩ (by cbv)
                                  · replace h := ite_f (bytes_ne.1 e) h
                                    clear e
                                    try cbv
                                    exact join_next (m8, true) [1, 2, 4, 116] [.loc 0] 3200 ⟨by omega, h⟩ (by cbv)
                              · replace h := ite_t rfl h
                                try cbv
                                exact join_next (m8, true) [1, 2, 4, 116] [.loc 0] 3200 ⟨by omega, h⟩ (by cbv)
                          · clear h
                            rintro ⟨m9, b61⟩ ⟨hm9, h⟩
                            replace hm9 : m9 ≤ m8 := hm9
                            cases m9 with
                            | zero =>
                              replace h : L23_9 0 z1 l7 z9 b61 = some r1 := h
                              rw [L23_9] at h
                              cases h
                            | succ m9 =>
                              replace h : L23_9 (m9 + 1) z1 l7 z9 b61 = some r1 := h
                              rw [L23_9] at h
                              try cbv
                              cases b61
                              · replace h := ite_f Bool.false_ne_true h
                                try cbv
                                refine seq_go ?_
                                try cbv
                                refine seq_go ?_
                                try cbv
                                refine loop_inv (T := Nat × Int) [1, 2, 4, 6] [.loc 0] 3232 (fun t => ⟨[(1, .v (.d (.int .i64 z9))), (2, .v (.c (.ptr (.loc 0) 0))), (4, .v (.d (.bool false))), (6, .v (.d (.int .i64 t.2)))], [(.loc 0, .cells [.d (.int .u8 z1), .d (.int .i64 z2), .d (.str s3), .d (.str s4), .d (.str s5), .d (.list false 1 l6), .d (.list true 8 l7), .d (.int .i64 z8)])], 3232⟩)
                                  (fun t => t.1 ≤ m9 ∧ L23_10 t.1 z1 l7 z9 t.2 = some r1) (fun t => t.1) (m9, (0 : Int)) ⟨Nat.le_refl _, h⟩ (by cbv) ?_
                                clear h
                                rintro ⟨m10, z62⟩ ⟨hm10, h⟩
                                replace hm10 : m10 ≤ m9 := hm10
                                cases m10 with
                                | zero =>
                                  replace h : L23_10 0 z1 l7 z9 z62 = some r1 := h
                                  rw [L23_10] at h
                                  cases h
                                | succ m10 =>
                                  replace h : L23_10 (m10 + 1) z1 l7 z9 z62 = some r1 := h
                                  rw [L23_10] at h
                                  try cbv
                                  refine seq_go ?_
                                  try cbv
                                  refine seq_join (T := Nat × Bool) (fun t => ⟨[(1, .v (.d (.int .i64 z9))), (2, .v (.c (.ptr (.loc 0) 0))), (4, .v (.d (.bool false))), (6, .v (.d (.int .i64 z62))), (121, .v (.d (.bool t.2)))], [(.loc 0, .cells [.d (.int .u8 z1), .d (.int .i64 z2), .d (.str s3), .d (.str s4), .d (.str s5), .d (.list false 1 l6), .d (.list true 8 l7), .d (.int .i64 z8)])], 3392⟩) (fun t => t.1 ≤ m10 ∧ L23_11 t.1 z1 l7 z9 z62 t.2 = some r1) ?_ ?_
                                  · try cbv
                                    replace h := lenF_inv M h
                                    obtain ⟨z63, hz, h⟩ := h
                                    refine ⟨z63, hz, ?_⟩
                                    clear hz
                                    try cbv
                                    refine splitL (fun e => ?_) (fun e => ?_)
                                    · replace h := ite_t e h
                                      clear e
                                      try cbv
                                      exact join_next (m10, true) [1, 2, 4, 6, 121] [.loc 0] 3392 ⟨by omega, h⟩ (by cbv)
                                    · replace h := ite_f (Int.not_lt.2 e) h
                                      clear e
                                      try cbv
                                      exact join_next (m10, false) [1, 2, 4, 6, 121] [.loc 0] 3392 ⟨by omega, h⟩ (by cbv)
                                  · clear h
                                    rintro ⟨m11, b64⟩ ⟨hm11, h⟩
                                    replace hm11 : m11 ≤ m10 := hm11
                                    cases m11 with
                                    | zero =>
                                      replace h : L23_11 0 z1 l7 z9 z62 b64 = some r1 := h
                                      rw [L23_11] at h
                                      cases h
                                    | succ m11 =>
                                      replace h : L23_11 (m11 + 1) z1 l7 z9 z62 b64 = some r1 := h
                                      rw [L23_11] at h
                                      try cbv
                                      cases b64
                                      · replace h := ite_f Bool.false_ne_true h
                                        try cbv
                                        refine seq_go ?_
                                        try cbv
                                        obtain rfl := Option.some.inj h
                                        refine fin_go ?_
                                        try cbv
                                        exact ⟨[], rfl, rfl, trivial, trivial, trivial⟩
                                      · replace h := ite_t rfl h
                                        try cbv
                                        refine seq_go ?_
                                        try cbv
                                        refine seq_join (T := Nat × Bool) (fun t => ⟨[(1, .v (.d (.int .i64 z9))), (2, .v (.c (.ptr (.loc 0) 0))), (4, .v (.d (.bool false))), (6, .v (.d (.int .i64 z62))), (145, .v (.d (.bool t.2)))], [(.loc 0, .cells [.d (.int .u8 z1), .d (.int .i64 z2), .d (.str s3), .d (.str s4), .d (.str s5), .d (.list false 1 l6), .d (.list true 8 l7), .d (.int .i64 z8)])], 4096⟩) (fun t => t.1 ≤ m11 ∧ L23_12 t.1 z1 l7 z9 z62 t.2 = some r1) ?_ ?_
                                        · try cbv
                                          replace h := getF_inv h
                                          obtain ⟨x65, ⟨hx0, hx⟩, h⟩ := h
                                          refine ⟨x65, hx0, hx, ?_⟩
                                          clear hx0 hx
                                          replace h := ds_t31_inv h
                                          obtain ⟨z66, z67, s68, s69, s70, l71, l72, z73, rfl, h⟩ := h
                                          try cbv
                                          replace h := bO1_inv h
                                          obtain ⟨b74, hr, h⟩ := h
                                          refine call_go rfl rfl ?_
                                          try cbv
                                          refine call_pure hM hI (T22 _ hr) rfl ?_
                                          clear hr
                                          try cbv
                                          cases b74
                                          · replace h := ite_f Bool.false_ne_true h
                                            try cbv
                                            replace h := getF_inv h
                                            obtain ⟨x87, ⟨hx0, hx⟩, h⟩ := h
                                            refine ⟨x87, hx0, hx, ?_⟩
                                            clear hx0 hx
                                            replace h := ds_t31_inv h
                                            obtain ⟨z88, z89, s90, s91, s92, l93, l94, z95, rfl, h⟩ := h
                                            try cbv
                                            replace h := letF_inv h
                                            obtain ⟨z96, hz, h⟩ := h
                                            refine ⟨z96, hz, ?_⟩
                                            clear hz
                                            try cbv
                                            replace h := bO1_inv h
                                            obtain ⟨b97, hr, h⟩ := h
                                            refine call_go rfl rfl ?_
                                            try cbv
                                            refine call_pure hM hI ((ih _ (by omega)) hr) rfl ?_
                                            clear hr
                                            try cbv
                                            replace h := letB_inv h
                                            obtain ⟨b98, hz, h⟩ := h
                                            refine ⟨b98, not_eq' hz, ?_⟩
                                            clear hz
                                            try cbv
                                            exact join_next (m11, b98) [1, 2, 4, 6, 145] [.loc 0] 4096 ⟨by omega, h⟩ (by cbv)
                                          · replace h := ite_t rfl h
                                            try cbv
                                            refine splitI (fun e => ?_) (fun e => ?_)
                                            · replace h := ite_t e h
                                              clear e
                                              try cbv
                                              replace h := getF_inv h
                                              obtain ⟨x75, ⟨hx0, hx⟩, h⟩ := h
                                              refine ⟨x75, hx0, hx, ?_⟩
                                              clear hx0 hx
                                              replace h := ds_t31_inv h
                                              obtain ⟨z76, z77, s78, s79, s80, l81, l82, z83, rfl, h⟩ := h
                                              try cbv
                                              replace h := letF_inv h
                                              obtain ⟨z84, hz, h⟩ := h
                                              refine ⟨z84, hz, ?_⟩
                                              clear hz
                                              try cbv
                                              replace h := bO1_inv h
                                              obtain ⟨b85, hr, h⟩ := h
                                              refine call_go rfl rfl ?_
                                              try cbv
                                              refine call_pure hM hI ((ih _ (by omega)) hr) rfl ?_
                                              clear hr
                                              try cbv
                                              replace h := letB_inv h
                                              obtain ⟨b86, hz, h⟩ := h
                                              refine ⟨b86, not_eq' hz, ?_⟩
                                              clear hz
                                              try cbv
                                              exact join_next (m11, b86) [1, 2, 4, 6, 145] [.loc 0] 4096 ⟨by omega, h⟩ (by cbv)
                                            · replace h := ite_f e h
                                              clear e
                                              try cbv
                                              exact join_next (m11, true) [1, 2, 4, 6, 145] [.loc 0] 4096 ⟨by omega, h⟩ (by cbv)
                                        · clear h
                                          rintro ⟨m12, b99⟩ ⟨hm12, h⟩
                                          replace hm12 : m12 ≤ m11 := hm12
                                          cases m12 with
                                          | zero =>
                                            replace h : L23_12 0 z1 l7 z9 z62 b99 = some r1 := h
                                            rw [L23_12] at h
                                            cases h
                                          | succ m12 =>
                                            replace h : L23_12 (m12 + 1) z1 l7 z9 z62 b99 = some r1 := h
                                            rw [L23_12] at h
                                            try cbv
                                            cases b99
                                            · replace h := ite_f Bool.false_ne_true h
                                              try cbv
                                              replace h := letF_inv h
                                              obtain ⟨z100, hz, h⟩ := h
                                              refine ⟨z100, hz, ?_⟩
                                              clear hz
                                              try cbv
                                              exact loop_next (m12, z100) [1, 2, 4, 6] [.loc 0] 3232 ⟨by omega, h⟩ (Nat.lt_succ_of_le (by omega)) (by cbv)
                                            · replace h := ite_t rfl h
                                              try cbv
                                              refine seq_go ?_
                                              try cbv
                                              obtain rfl := Option.some.inj h
                                              refine fin_go ?_
                                              try cbv
                                              exact ⟨[], rfl, rfl, trivial, trivial, trivial⟩
                              · replace h := ite_t rfl h
                                try cbv
                                refine seq_go ?_
                                try cbv
                                obtain rfl := Option.some.inj h
                                refine fin_go ?_
                                try cbv
                                exact ⟨[], rfl, rfl, trivial, trivial, trivial⟩
                        · replace h := ite_t rfl h
                          try cbv
                          refine seq_go ?_
                          try cbv
                          obtain rfl := Option.some.inj h
                          refine fin_go ?_
                          try cbv
                          exact ⟨[], rfl, rfl, trivial, trivial, trivial⟩
          · replace h := ite_t rfl h
            try cbv
            refine seq_go ?_
            try cbv
            obtain rfl := Option.some.inj h
            refine fin_go ?_
            try cbv
            exact ⟨[], rfl, rfl, trivial, trivial, trivial⟩
end Go.Proofs.YtjmofeakajdbiaaDoor
end

set_option linter.unusedVariables false
noncomputable section
namespace Go.Proofs.YtjmofeakajdbiaaDoor
open Go Go.AM
def L4_1 : Nat → Int → ByteArray → (List D) → Int → Int → ByteArray → ByteArray → ByteArray → (List D) → (List D) → Int → Bool → Option (Bool)
  | 0, _, _, _, _, _, _, _, _, _, _, _, _ => none
  | n + 1, z1, s2, l3, z4, z5, s6, s7, s8, l9, l10, z11, b14 =>
    (if b14 = true then some true else bO1 (F19 n z1 s2 l3) fun b15 => bO1 (F20 n z1 s2 l3 (40 : Int)) fun b16 => letB (b15 == b16) fun b17 => (if b17 = true then bO1 (F21 n z4 z5 s6 s7 s8 l9 l10 z11) fun b18 => bO1 (F22 n z4 z5 s6 s7 s8 l9 l10 z11) fun b19 => letB (!b19) fun b20 => (if b20 = true then bO1 (F23 n z4 z5 s6 s7 s8 l9 l10 z11 (40 : Int)) fun b21 => letB (b18 == b21) fun b22 => (if b22 = true then bO1 (F24 n s8 l9) fun b23 => bO1 (F25 n s8 l9) fun b24 => letB (b23 == b24) fun b25 => some b25 else some false) else letB (b18 == false) fun b26 => (if b26 = true then bO1 (F24 n s8 l9) fun b27 => bO1 (F25 n s8 l9) fun b28 => letB (b27 == b28) fun b29 => some b29 else some false)) else some false))
def F4 (n : Nat) (z1 : Int) (s2 : ByteArray) (l3 : List D) (z4 : Int) (z5 : Int) (s6 : ByteArray) (s7 : ByteArray) (s8 : ByteArray) (l9 : List D) (l10 : List D) (z11 : Int) : Option (Bool) :=
  bO1 (F17 n z1 s2 l3) fun b12 => (if b12 = true then L4_1 n z1 s2 l3 z4 z5 s6 s7 s8 l9 l10 z11 true else bO1 (F18 n z4 z5 s6 s7 s8 l9 l10 z11) fun b13 => L4_1 n z1 s2 l3 z4 z5 s6 s7 s8 l9 l10 z11 b13)
set_option maxRecDepth 100000 in
set_option maxHeartbeats 40000000 in
theorem T4 (n : Nat) : ∀ ⦃z1 : Int⦄ ⦃s2 : ByteArray⦄ ⦃l3 : List D⦄ ⦃z4 : Int⦄ ⦃z5 : Int⦄ ⦃s6 : ByteArray⦄ ⦃s7 : ByteArray⦄ ⦃s8 : ByteArray⦄ ⦃l9 : List D⦄ ⦃l10 : List D⦄ ⦃z11 : Int⦄ ⦃r1 : Bool⦄, F4 n z1 s2 l3 z4 z5 s6 s7 s8 l9 l10 z11 = some r1 →
    Trip Tryd.prog inv 4 [.d (.agg [.int .u8 z1, .str s2, .list true 3 l3]), .d (.agg [.int .u8 z4, .int .i64 z5, .str s6, .str s7, .str s8, .list false 1 l9, .list true 8 l10, .int .i64 z11])] [] (.v (.d (.bool r1))) [] [] := by
  intro z1 s2 l3 z4 z5 s6 s7 s8 l9 l10 z11 r1 h
  unfold F4 at h
  refine Trip.of tab_ok tab_one fol Tryd.func4 rfl (by kernel_rfl) rfl rfl rfl (fun M hM hI => ?_)
  try cbv
  refine seq_go ?_
  try cbv
  refine seq_go ?_
  try cbv
  refine seq_join (T := Nat × Bool) (fun t => ⟨[(2, .v (.c (.ptr (.loc 0) 0))), (3, .v (.c (.ptr (.loc 32) 0))), (4, .v (.d (.bool false))), (10, .v (.d (.bool t.2)))], [(.loc 0, .cells [.d (.int .u8 z1), .d (.str s2), .d (.list true 3 l3)]), (.loc 32, .cells [.d (.int .u8 z4), .d (.int .i64 z5), .d (.str s6), .d (.str s7), .d (.str s8), .d (.list false 1 l9), .d (.list true 8 l10), .d (.int .i64 z11)])], 288⟩) (fun t => t.1 ≤ n ∧ L4_1 t.1 z1 s2 l3 z4 z5 s6 s7 s8 l9 l10 z11 t.2 = some r1) ?_ ?_
  · try cbv
    replace h := bO1_inv h
    obtain ⟨b12, hr, h⟩ := h
    refine call_go rfl rfl ?_
    try cbv
    refine call_pure hM hI (T17 _ hr) rfl ?_
    clear hr
    try cbv
    cases b12
    · replace h := ite_f Bool.false_ne_true h
      try cbv
      replace h := bO1_inv h
      obtain ⟨b13, hr, h⟩ := h
      refine call_go rfl rfl ?_
      try cbv
      refine call_pure hM hI (T18 _ hr) rfl ?_
      clear hr
      try cbv
      exact join_next (n, b13) [2, 3, 4, 10] [.loc 0, .loc 32] 288 ⟨by omega, h⟩ (by cbv)
    · replace h := ite_t rfl h
      try cbv
      exact join_next (n, true) [2, 3, 4, 10] [.loc 0, .loc 32] 288 ⟨by omega, h⟩ (by cbv)
  · clear h
    rintro ⟨m1, b14⟩ ⟨hm1, h⟩
    replace hm1 : m1 ≤ n := hm1
    cases m1 with
    | zero =>
      replace h : L4_1 0 z1 s2 l3 z4 z5 s6 s7 s8 l9 l10 z11 b14 = some r1 := h
      rw [L4_1] at h
      cases h
    | succ m1 =>
      replace h : L4_1 (m1 + 1) z1 s2 l3 z4 z5 s6 s7 s8 l9 l10 z11 b14 = some r1 := h
      rw [L4_1] at h
      try cbv
      cases b14
      · replace h := ite_f Bool.false_ne_true h
        try cbv
        refine seq_go ?_
        try cbv
        replace h := bO1_inv h
        obtain ⟨b15, hr, h⟩ := h
        first | refine .inr ⟨[], ?_⟩ | refine ⟨[], ?_⟩
        try cbv
        refine call_pure hM hI (T19 _ hr) rfl ?_
        clear hr
        try cbv
        replace h := bO1_inv h
        obtain ⟨b16, hr, h⟩ := h
        first | refine .inr ⟨[], ?_⟩ | refine ⟨[], ?_⟩
        try cbv
        refine call_pure hM hI (T20 _ hr) rfl ?_
        clear hr
        try cbv
        replace h := letB_inv h
        obtain ⟨b17, hz, h⟩ := h
        refine ⟨b17, eqv_eq hz, ?_⟩
        clear hz
        try cbv
        cases b17
        · replace h := ite_f Bool.false_ne_true h
          try cbv
          refine drawn ?_ ?_
          · show _ = true
            kernel_rfl
          try cbv
          obtain rfl := Option.some.inj h
          refine fin_go ?_
          try cbv
          exact ⟨[], rfl, rfl, trivial, trivial, trivial⟩
        · replace h := ite_t rfl h
          try cbv
          replace h := bO1_inv h
          obtain ⟨b18, hr, h⟩ := h
          first | refine .inr ⟨[], ?_⟩ | refine ⟨[], ?_⟩
          try cbv
          refine call_pure hM hI (T21 _ hr) rfl ?_
          clear hr
          try cbv
          replace h := bO1_inv h
          obtain ⟨b19, hr, h⟩ := h
          first | refine .inr ⟨[], ?_⟩ | refine ⟨[], ?_⟩
          try cbv
          refine call_pure hM hI (T22 _ hr) rfl ?_
          clear hr
          try cbv
          replace h := letB_inv h
          obtain ⟨b20, hz, h⟩ := h
          refine ⟨b20, not_eq' hz, ?_⟩
          clear hz
          try cbv
          cases b20
          · replace h := ite_f Bool.false_ne_true h
            try cbv
            replace h := letB_inv h
            obtain ⟨b26, hz, h⟩ := h
            refine ⟨b26, eqv_eq hz, ?_⟩
            clear hz
            try cbv
            cases b26
            · replace h := ite_f Bool.false_ne_true h
              try cbv
              refine drawn ?_ ?_
              · show _ = true
                kernel_rfl
              try cbv
              obtain rfl := Option.some.inj h
              refine fin_go ?_
              try cbv
              exact ⟨[], rfl, rfl, trivial, trivial, trivial⟩
            · replace h := ite_t rfl h
              try cbv
              replace h := bO1_inv h
              obtain ⟨b27, hr, h⟩ := h
              first | refine .inr ⟨[], ?_⟩ | refine ⟨[], ?_⟩
              try cbv
              refine call_pure hM hI (T24 _ hr) rfl ?_
              clear hr
              try cbv
              replace h := bO1_inv h
              obtain ⟨b28, hr, h⟩ := h
              first | refine .inr ⟨[], ?_⟩ | refine ⟨[], ?_⟩
              try cbv
              refine call_pure hM hI (T25 _ hr) rfl ?_
              clear hr
              try cbv
              replace h := letB_inv h
              obtain ⟨b29, hz, h⟩ := h
              refine ⟨b29, eqv_eq hz, ?_⟩
              clear hz
              try cbv
              refine drawn ?_ ?_
              · show _ = true
                kernel_rfl
              try cbv
              obtain rfl := Option.some.inj h
              refine fin_go ?_
              try cbv
              exact ⟨[], rfl, rfl, trivial, trivial, trivial⟩
          · replace h := ite_t rfl h
            try cbv
            replace h := bO1_inv h
            obtain ⟨b21, hr, h⟩ := h
            first | refine .inr ⟨[], ?_⟩ | refine ⟨[], ?_⟩
            try cbv
            refine call_pure hM hI (T23 _ hr) rfl ?_
            clear hr
            try cbv
            replace h := letB_inv h
            obtain ⟨b22, hz, h⟩ := h
            refine ⟨b22, eqv_eq hz, ?_⟩
            clear hz
            try cbv
            cases b22
            · replace h := ite_f Bool.false_ne_true h
              try cbv
              refine drawn ?_ ?_
              · show _ = true
                kernel_rfl
              try cbv
              obtain rfl := Option.some.inj h
              refine fin_go ?_
              try cbv
              exact ⟨[], rfl, rfl, trivial, trivial, trivial⟩
            · replace h := ite_t rfl h
              try cbv
              replace h := bO1_inv h
              obtain ⟨b23, hr, h⟩ := h
              first | refine .inr ⟨[], ?_⟩ | refine ⟨[], ?_⟩
              try cbv
              refine call_pure hM hI (T24 _ hr) rfl ?_
              clear hr
              try cbv
              replace h := bO1_inv h
              obtain ⟨b24, hr, h⟩ := h
              first | refine .inr ⟨[], ?_⟩ | refine ⟨[], ?_⟩
              try cbv
              refine call_pure hM hI (T25 _ hr) rfl ?_
              clear hr
              try cbv
              replace h := letB_inv h
              obtain ⟨b25, hz, h⟩ := h
              refine ⟨b25, eqv_eq hz, ?_⟩
              clear hz
              try cbv
              refine drawn ?_ ?_
              · show _ = true
                kernel_rfl
              try cbv
              obtain rfl := Option.some.inj h
              refine fin_go ?_
              try cbv
              exact ⟨[], rfl, rfl, trivial, trivial, trivial⟩
      · replace h := ite_t rfl h
        try cbv
        refine seq_go ?_
        try cbv
        obtain rfl := Option.some.inj h
        refine fin_go ?_
        try cbv
        exact ⟨[], rfl, rfl, trivial, trivial, trivial⟩
end Go.Proofs.YtjmofeakajdbiaaDoor
end

set_option linter.unusedVariables false
noncomputable section
namespace Go.Proofs.YtjmofeakajdbiaaDoor
open Go Go.AM

def stB : D → Bool
  | .str s => decide (s = k__) || nm 97 122 s
  | _ => false
def nmB : D → Bool
  | .str s => nm 97 122 s
  | _ => false
def plB (s : ByteArray) (l : List D) : Bool := nm 97 122 s && (l.all stB && decide (l.length ≤ 40))

theorem all_drop {L : List D} {i : Nat} {x : D} (h : L[i]? = some x) (p : D → Bool) : (L.drop i).all p = (p x && (L.drop (i + 1)).all p) := by
  obtain ⟨hi, rfl⟩ := List.getElem?_eq_some_iff.1 h
  rw [List.drop_eq_getElem_cons hi, List.all_cons]
theorem ev45 {s : ByteArray} (hs : s.size ≤ maxLen) : Ev (fun n => F45 n s) (stB (.str s)) := by
  unfold F45 stB
  by_cases h : s = k__
  · simp only [if_pos h, decide_eq_true h, Bool.true_or]; exact Ev.ret
  · simp only [if_neg h, decide_eq_false h, Bool.false_or]; exact Ev.bO1 (ev13 hs) Ev.ret
theorem ev44 {L : List D} (hL : ListS tab 9 L) (m : Nat) : ∃ r, Ev (fun n => F44 n L (m : Int)) r ∧ r = (L.all stB && decide (L.length ≤ m)) ∨ (m < L.length ∧ Ev (fun n => F44 n L (m : Int)) false) := by
  by_cases hm : L.length ≤ m
  · have loop : ∀ i, i ≤ L.length → Ev (fun n => L44_1 n L (m : Int) (i : Int)) ((L.drop i).all stB) := by
      refine down L.length (Ev.succ ?_) (fun i hi ih => ?_)
      · simp only [L44_1, lenF, Int.lt_irrefl, if_false, List.drop_length]
        exact Ev.succ (by simp only [L44_2, Bool.false_eq_true, if_false, lenF, if_pos (show (L.length : Int) ≤ (m : Int) by omega)]; exact Ev.ret)
      · obtain ⟨x, hx, _, hr⟩ := hL.get hi
        obtain ⟨s, rfl, hs⟩ := rs9 hr
        rw [all_drop hx]
        refine Ev.succ ?_
        simp only [L44_1, lenF, if_pos (show (i : Int) < (L.length : Int) by omega), if_pos (show (i : Int) < (m : Int) by omega)]
        refine Ev.succ ?_
        simp only [L44_2, if_true, getF_nat hx, ds_str]
        refine Ev.bO1 (ev45 hs) ?_
        cases stB (.str s)
        · simp only [letB, Bool.not_false, if_true, Bool.false_and]; exact Ev.ret
        · simp only [letB, Bool.not_true, Bool.false_eq_true, if_false, letF, wrap_succ hi hL.1, Bool.true_and]; exact ih
    refine ⟨_, .inl ⟨loop 0 (Nat.zero_le _), ?_⟩⟩
    rw [decide_eq_true hm, Bool.and_true]; rfl
  · have loop : ∀ i, i ≤ m → Ev (fun n => L44_1 n L (m : Int) (i : Int)) false := by
      refine down m (Ev.succ ?_) (fun i hi ih => ?_)
      · simp only [L44_1, lenF, if_pos (show (m : Int) < (L.length : Int) by omega), Int.lt_irrefl, if_false]
        exact Ev.succ (by simp only [L44_2, Bool.false_eq_true, if_false, lenF, if_neg (show ¬ (L.length : Int) ≤ (m : Int) by omega)]; exact Ev.ret)
      · obtain ⟨x, hx, _, hr⟩ := hL.get (show i < L.length by omega)
        obtain ⟨s, rfl, hs⟩ := rs9 hr
        refine Ev.succ ?_
        simp only [L44_1, lenF, if_pos (show (i : Int) < (L.length : Int) by omega), if_pos (show (i : Int) < (m : Int) by omega)]
        refine Ev.succ ?_
        simp only [L44_2, if_true, getF_nat hx, ds_str]
        refine Ev.bO1 (ev45 hs) ?_
        cases stB (.str s)
        · simp only [letB, Bool.not_false, if_true]; exact Ev.ret
        · simp only [letB, Bool.not_true, Bool.false_eq_true, if_false, letF, wrap_succ (show i < L.length by omega) hL.1]; exact ih
    exact ⟨false, .inr ⟨by omega, loop 0 (Nat.zero_le _)⟩⟩
theorem ev44' {L : List D} (hL : ListS tab 9 L) (m : Nat) : Ev (fun n => F44 n L (m : Int)) (L.all stB && decide (L.length ≤ m)) := by
  obtain ⟨r, ⟨h1, h2⟩ | ⟨h1, h2⟩⟩ := ev44 hL m
  · rw [← h2]; exact h1
  · rw [decide_eq_false (by omega), Bool.and_false]; exact h2
theorem ev44x {L : List D} (hL : ListS tab 9 L) (m : Nat) : Ev (fun n => F44x1 n L (m : Int)) (L.all nmB && decide (L.length ≤ m)) := by
  by_cases hm : L.length ≤ m
  · have loop : ∀ i, i ≤ L.length → Ev (fun n => L44x1_1 n L (m : Int) (i : Int)) ((L.drop i).all nmB) := by
      refine down L.length (Ev.succ ?_) (fun i hi ih => ?_)
      · simp only [L44x1_1, lenF, Int.lt_irrefl, if_false, List.drop_length]
        exact Ev.succ (by simp only [L44x1_2, Bool.false_eq_true, if_false, lenF, if_pos (show (L.length : Int) ≤ (m : Int) by omega)]; exact Ev.ret)
      · obtain ⟨x, hx, _, hr⟩ := hL.get hi
        obtain ⟨s, rfl, hs⟩ := rs9 hr
        rw [all_drop hx]
        refine Ev.succ ?_
        simp only [L44x1_1, lenF, if_pos (show (i : Int) < (L.length : Int) by omega), if_pos (show (i : Int) < (m : Int) by omega)]
        refine Ev.succ ?_
        simp only [L44x1_2, if_true, getF_nat hx, ds_str]
        refine Ev.bO1 (ev13 hs) ?_
        simp only [nmB]
        cases nm 97 122 s
        · simp only [letB, Bool.not_false, if_true, Bool.false_and]; exact Ev.ret
        · simp only [letB, Bool.not_true, Bool.false_eq_true, if_false, letF, wrap_succ hi hL.1, Bool.true_and]; exact ih
    rw [decide_eq_true hm, Bool.and_true]
    exact loop 0 (Nat.zero_le _)
  · have loop : ∀ i, i ≤ m → Ev (fun n => L44x1_1 n L (m : Int) (i : Int)) false := by
      refine down m (Ev.succ ?_) (fun i hi ih => ?_)
      · simp only [L44x1_1, lenF, if_pos (show (m : Int) < (L.length : Int) by omega), Int.lt_irrefl, if_false]
        exact Ev.succ (by simp only [L44x1_2, Bool.false_eq_true, if_false, lenF, if_neg (show ¬ (L.length : Int) ≤ (m : Int) by omega)]; exact Ev.ret)
      · obtain ⟨x, hx, _, hr⟩ := hL.get (show i < L.length by omega)
        obtain ⟨s, rfl, hs⟩ := rs9 hr
        refine Ev.succ ?_
        simp only [L44x1_1, lenF, if_pos (show (i : Int) < (L.length : Int) by omega), if_pos (show (i : Int) < (m : Int) by omega)]
        refine Ev.succ ?_
        simp only [L44x1_2, if_true, getF_nat hx, ds_str]
        refine Ev.bO1 (ev13 hs) ?_
        cases nm 97 122 s
        · simp only [letB, Bool.not_false, if_true]; exact Ev.ret
        · simp only [letB, Bool.not_true, Bool.false_eq_true, if_false, letF, wrap_succ (show i < L.length by omega) hL.1]; exact ih
    rw [decide_eq_false hm, Bool.and_false]
    exact loop 0 (Nat.zero_le _)
theorem ev24 {s : ByteArray} (hs : s.size ≤ maxLen) {l : List D} (hl : ListS tab 9 l) : Ev (fun n => F24 n s l) (plB s l) := by
  unfold F24 plB
  refine Ev.bO1 (ev13 hs) ?_
  cases nm 97 122 s
  · simp only [Bool.false_eq_true, if_false, Bool.false_and]; exact Ev.ret
  · simp only [if_true, Bool.true_and]; exact Ev.bO1 (ev44' hl 40) Ev.ret
theorem ev25 {s : ByteArray} (hs : s.size ≤ maxLen) {l : List D} (hl : ListS tab 9 l) : Ev (fun n => F25 n s l) (plB s l) := by
  have loop : ∀ i, i ≤ l.length → Ev (fun n => L25_2 n l (i : Int)) ((l.drop i).all stB) := by
    refine down l.length (Ev.succ ?_) (fun i hi ih => ?_)
    · simp only [L25_2, lenF, Int.lt_irrefl, if_false, List.drop_length]
      exact Ev.succ (by simp only [L25_3, Bool.false_eq_true, if_false]; exact Ev.ret)
    · obtain ⟨x, hx, _, hr⟩ := hl.get hi
      obtain ⟨s, rfl, hs⟩ := rs9 hr
      rw [all_drop hx]
      refine Ev.succ ?_
      simp only [L25_2, lenF, if_pos (show (i : Int) < (l.length : Int) by omega)]
      refine Ev.succ ?_
      simp only [L25_3, if_true, getF_nat hx, ds_str, stB]
      have fin : ∀ b, Ev (fun n => L25_4 n l (i : Int) (!b)) (b && (l.drop (i + 1)).all stB) := by
        intro b
        refine Ev.succ ?_
        cases b
        · simp only [L25_4, Bool.not_false, if_true, Bool.false_and]; exact Ev.ret
        · simp only [L25_4, Bool.not_true, Bool.false_eq_true, if_false, letF, wrap_succ hi hl.1, Bool.true_and]; exact ih
      by_cases h : s = k__
      · simp only [if_pos h, decide_eq_true h, Bool.true_or]; exact fin true
      · simp only [if_neg h, decide_eq_false h, Bool.false_or]
        exact Ev.bO1 (ev14 hs) (by simp only [letB]; exact fin _)
  unfold F25 plB
  refine Ev.bO1 (ev14 hs) ?_
  have no : Ev (fun n => L25_1 n l true) false := Ev.succ (by simp only [L25_1, if_true]; exact Ev.ret)
  cases nm 97 122 s
  · simp only [letB, Bool.not_false, if_true, Bool.false_and]; exact no
  · simp only [letB, Bool.not_true, Bool.false_eq_true, if_false, lenF, Bool.true_and]
    by_cases h : 40 < (l.length : Int)
    · simp only [if_pos h, decide_eq_false (show ¬ l.length ≤ 40 by omega), Bool.and_false]; exact no
    · simp only [if_neg h, decide_eq_true (show l.length ≤ 40 by omega), Bool.and_true]
      exact Ev.succ (by simp only [L25_1, Bool.false_eq_true, if_false]; exact loop 0 (Nat.zero_le _))

structure Good (z1 : Int) (f : ByteArray) (hp : Bool) (least most : Int) : Prop where
  f40 : Ev (fun n => F40 n z1) f
  f58 : Ev (fun n => F58 n z1) (hp, least, most, true)
  ne : ¬ f = ByteArray.empty
  many : ∀ n : Int, 0 ≤ n → Ev (fun k => F41 k f n) (decide (least ≤ n) && decide (n ≤ most))
  hi : Ev (fun n => F42 n f 105) (decide (z1 = 1))
  hb : Ev (fun n => F42 n f 98) (decide (z1 = 2))
  h112 : Ev (fun n => F42 n f 112) hp
  hf : Ev (fun n => F42 n f 102) (decide (z1 = 19))
  hn : Ev (fun n => F42 n f 110) (decide (z1 = 18))
  ht : Ev (fun n => F42 n f 116) (decide (z1 = 19 ∨ z1 = 20))
  hv : Ev (fun n => F42 n f 118) (decide (z1 = 20))
  np : z1 = 18 ∨ z1 = 19 ∨ z1 = 20 → hp = false
  most6 : 0 ≤ least ∧ least ≤ most ∧ most ≤ 6
theorem evAt {α : Type} {A : Nat → Option α} {r : α} (h : ∀ m, A (m + 40) = some r) : Ev A r := ⟨40, fun n hn => by obtain ⟨m, rfl⟩ : ∃ m, n = m + 40 := ⟨n - 40, by omega⟩; exact h m⟩
theorem many0 (m : Nat) (z : Int) : F41 (m + 40) k_0 z = (if z = 0 then some true else some false) := by kernel_rfl
theorem manyi (m : Nat) (z : Int) : F41 (m + 40) k_i0 z = (if z = 0 then some true else some false) := by kernel_rfl
theorem manyb (m : Nat) (z : Int) : F41 (m + 40) k_b0 z = (if z = 0 then some true else some false) := by kernel_rfl
theorem manyp (m : Nat) (z : Int) : F41 (m + 40) k_p0 z = (if z = 0 then some true else some false) := by kernel_rfl
theorem manyq (m : Nat) (z : Int) : F41 (m + 40) k_p1 z = (if z = 1 then some true else some false) := by kernel_rfl
theorem many1 (m : Nat) (z : Int) : F41 (m + 40) k_1 z = (if z = 1 then some true else some false) := by kernel_rfl
theorem many2 (m : Nat) (z : Int) : F41 (m + 40) k_2 z = (if z = 2 then some true else some false) := by kernel_rfl
theorem manyn (m : Nat) (z : Int) : F41 (m + 40) k_n6 z = (if z ≤ 6 then some true else some false) := by kernel_rfl
theorem manyt (m : Nat) (z : Int) : F41 (m + 40) k_tf6 z = (if z ≤ 6 then some true else some false) := by kernel_rfl
theorem manyv (m : Nat) (z : Int) : F41 (m + 40) k_tv9 z = (if z ≤ 1 then some true else some false) := by kernel_rfl
theorem ifE {z k : Int} : (if z = k then some true else some false) = some (decide (k ≤ z) && decide (z ≤ k)) := by
  by_cases h : z = k
  · simp [h]
  · rw [if_neg h]; congr 1; symm; rw [Bool.and_eq_false_iff]
    by_cases h1 : k ≤ z
    · right; exact decide_eq_false (by omega)
    · left; exact decide_eq_false h1
theorem ifL {z k : Int} (h0 : 0 ≤ z) : (if z ≤ k then some true else some false) = some (decide (0 ≤ z) && decide (z ≤ k)) := by
  by_cases h : z ≤ k <;> simp [h, h0]

theorem good_of {z1 : Int} {f : ByteArray} {hp : Bool} {least most : Int} (a : ∀ m, F40 (m + 40) z1 = some f) (b : ∀ m, F58 (m + 40) z1 = some (hp, least, most, true)) (c : ¬ f = ByteArray.empty)
    (d : ∀ (m : Nat) (n : Int), 0 ≤ n → F41 (m + 40) f n = some (decide (least ≤ n) && decide (n ≤ most)))
    (e1 : ∀ m, F42 (m + 40) f 105 = some (decide (z1 = 1))) (e2 : ∀ m, F42 (m + 40) f 98 = some (decide (z1 = 2))) (e3 : ∀ m, F42 (m + 40) f 112 = some hp) (e4 : ∀ m, F42 (m + 40) f 102 = some (decide (z1 = 19)))
    (e5 : ∀ m, F42 (m + 40) f 110 = some (decide (z1 = 18))) (e6 : ∀ m, F42 (m + 40) f 116 = some (decide (z1 = 19 ∨ z1 = 20))) (e7 : ∀ m, F42 (m + 40) f 118 = some (decide (z1 = 20)))
    (g : z1 = 18 ∨ z1 = 19 ∨ z1 = 20 → hp = false) (k : 0 ≤ least ∧ least ≤ most ∧ most ≤ 6) : Good z1 f hp least most :=
  ⟨evAt a, evAt b, c, fun n hn => evAt fun m => d m n hn, evAt e1, evAt e2, evAt e3, evAt e4, evAt e5, evAt e6, evAt e7, g, k⟩
theorem good1 : Good 1 k_i0 false 0 0 := good_of (fun m => by kernel_rfl) (fun m => by kernel_rfl) (by decide) (fun m n h0 => by rw [manyi]; exact ifE) (fun m => by kernel_rfl) (fun m => by kernel_rfl) (fun m => by kernel_rfl) (fun m => by kernel_rfl) (fun m => by kernel_rfl) (fun m => by kernel_rfl) (fun m => by kernel_rfl) (fun _ => rfl) (by decide)
theorem good2 : Good 2 k_b0 false 0 0 := good_of (fun m => by kernel_rfl) (fun m => by kernel_rfl) (by decide) (fun m n h0 => by rw [manyb]; exact ifE) (fun m => by kernel_rfl) (fun m => by kernel_rfl) (fun m => by kernel_rfl) (fun m => by kernel_rfl) (fun m => by kernel_rfl) (fun m => by kernel_rfl) (fun m => by kernel_rfl) (fun _ => rfl) (by decide)
theorem good3 : Good 3 k_0 false 0 0 := good_of (fun m => by kernel_rfl) (fun m => by kernel_rfl) (by decide) (fun m n h0 => by rw [many0]; exact ifE) (fun m => by kernel_rfl) (fun m => by kernel_rfl) (fun m => by kernel_rfl) (fun m => by kernel_rfl) (fun m => by kernel_rfl) (fun m => by kernel_rfl) (fun m => by kernel_rfl) (fun _ => rfl) (by decide)
theorem good4 : Good 4 k_p0 true 0 0 := good_of (fun m => by kernel_rfl) (fun m => by kernel_rfl) (by decide) (fun m n h0 => by rw [manyp]; exact ifE) (fun m => by kernel_rfl) (fun m => by kernel_rfl) (fun m => by kernel_rfl) (fun m => by kernel_rfl) (fun m => by kernel_rfl) (fun m => by kernel_rfl) (fun m => by kernel_rfl) (fun h => by omega) (by decide)
theorem good5 : Good 5 k_p0 true 0 0 := good_of (fun m => by kernel_rfl) (fun m => by kernel_rfl) (by decide) (fun m n h0 => by rw [manyp]; exact ifE) (fun m => by kernel_rfl) (fun m => by kernel_rfl) (fun m => by kernel_rfl) (fun m => by kernel_rfl) (fun m => by kernel_rfl) (fun m => by kernel_rfl) (fun m => by kernel_rfl) (fun h => by omega) (by decide)
theorem good6 : Good 6 k_p0 true 0 0 := good_of (fun m => by kernel_rfl) (fun m => by kernel_rfl) (by decide) (fun m n h0 => by rw [manyp]; exact ifE) (fun m => by kernel_rfl) (fun m => by kernel_rfl) (fun m => by kernel_rfl) (fun m => by kernel_rfl) (fun m => by kernel_rfl) (fun m => by kernel_rfl) (fun m => by kernel_rfl) (fun h => by omega) (by decide)
theorem good7 : Good 7 k_1 false 1 1 := good_of (fun m => by kernel_rfl) (fun m => by kernel_rfl) (by decide) (fun m n h0 => by rw [many1]; exact ifE) (fun m => by kernel_rfl) (fun m => by kernel_rfl) (fun m => by kernel_rfl) (fun m => by kernel_rfl) (fun m => by kernel_rfl) (fun m => by kernel_rfl) (fun m => by kernel_rfl) (fun _ => rfl) (by decide)
theorem good8 : Good 8 k_1 false 1 1 := good_of (fun m => by kernel_rfl) (fun m => by kernel_rfl) (by decide) (fun m n h0 => by rw [many1]; exact ifE) (fun m => by kernel_rfl) (fun m => by kernel_rfl) (fun m => by kernel_rfl) (fun m => by kernel_rfl) (fun m => by kernel_rfl) (fun m => by kernel_rfl) (fun m => by kernel_rfl) (fun _ => rfl) (by decide)
theorem good9 : Good 9 k_2 false 2 2 := good_of (fun m => by kernel_rfl) (fun m => by kernel_rfl) (by decide) (fun m n h0 => by rw [many2]; exact ifE) (fun m => by kernel_rfl) (fun m => by kernel_rfl) (fun m => by kernel_rfl) (fun m => by kernel_rfl) (fun m => by kernel_rfl) (fun m => by kernel_rfl) (fun m => by kernel_rfl) (fun _ => rfl) (by decide)
theorem good10 : Good 10 k_2 false 2 2 := good_of (fun m => by kernel_rfl) (fun m => by kernel_rfl) (by decide) (fun m n h0 => by rw [many2]; exact ifE) (fun m => by kernel_rfl) (fun m => by kernel_rfl) (fun m => by kernel_rfl) (fun m => by kernel_rfl) (fun m => by kernel_rfl) (fun m => by kernel_rfl) (fun m => by kernel_rfl) (fun _ => rfl) (by decide)
theorem good11 : Good 11 k_2 false 2 2 := good_of (fun m => by kernel_rfl) (fun m => by kernel_rfl) (by decide) (fun m n h0 => by rw [many2]; exact ifE) (fun m => by kernel_rfl) (fun m => by kernel_rfl) (fun m => by kernel_rfl) (fun m => by kernel_rfl) (fun m => by kernel_rfl) (fun m => by kernel_rfl) (fun m => by kernel_rfl) (fun _ => rfl) (by decide)
theorem good12 : Good 12 k_2 false 2 2 := good_of (fun m => by kernel_rfl) (fun m => by kernel_rfl) (by decide) (fun m n h0 => by rw [many2]; exact ifE) (fun m => by kernel_rfl) (fun m => by kernel_rfl) (fun m => by kernel_rfl) (fun m => by kernel_rfl) (fun m => by kernel_rfl) (fun m => by kernel_rfl) (fun m => by kernel_rfl) (fun _ => rfl) (by decide)
theorem good13 : Good 13 k_2 false 2 2 := good_of (fun m => by kernel_rfl) (fun m => by kernel_rfl) (by decide) (fun m n h0 => by rw [many2]; exact ifE) (fun m => by kernel_rfl) (fun m => by kernel_rfl) (fun m => by kernel_rfl) (fun m => by kernel_rfl) (fun m => by kernel_rfl) (fun m => by kernel_rfl) (fun m => by kernel_rfl) (fun _ => rfl) (by decide)
theorem good14 : Good 14 k_2 false 2 2 := good_of (fun m => by kernel_rfl) (fun m => by kernel_rfl) (by decide) (fun m n h0 => by rw [many2]; exact ifE) (fun m => by kernel_rfl) (fun m => by kernel_rfl) (fun m => by kernel_rfl) (fun m => by kernel_rfl) (fun m => by kernel_rfl) (fun m => by kernel_rfl) (fun m => by kernel_rfl) (fun _ => rfl) (by decide)
theorem good15 : Good 15 k_2 false 2 2 := good_of (fun m => by kernel_rfl) (fun m => by kernel_rfl) (by decide) (fun m n h0 => by rw [many2]; exact ifE) (fun m => by kernel_rfl) (fun m => by kernel_rfl) (fun m => by kernel_rfl) (fun m => by kernel_rfl) (fun m => by kernel_rfl) (fun m => by kernel_rfl) (fun m => by kernel_rfl) (fun _ => rfl) (by decide)
theorem good16 : Good 16 k_2 false 2 2 := good_of (fun m => by kernel_rfl) (fun m => by kernel_rfl) (by decide) (fun m n h0 => by rw [many2]; exact ifE) (fun m => by kernel_rfl) (fun m => by kernel_rfl) (fun m => by kernel_rfl) (fun m => by kernel_rfl) (fun m => by kernel_rfl) (fun m => by kernel_rfl) (fun m => by kernel_rfl) (fun _ => rfl) (by decide)
theorem good17 : Good 17 k_2 false 2 2 := good_of (fun m => by kernel_rfl) (fun m => by kernel_rfl) (by decide) (fun m n h0 => by rw [many2]; exact ifE) (fun m => by kernel_rfl) (fun m => by kernel_rfl) (fun m => by kernel_rfl) (fun m => by kernel_rfl) (fun m => by kernel_rfl) (fun m => by kernel_rfl) (fun m => by kernel_rfl) (fun _ => rfl) (by decide)
theorem good18 : Good 18 k_n6 false 0 6 := good_of (fun m => by kernel_rfl) (fun m => by kernel_rfl) (by decide) (fun m n h0 => by rw [manyn]; exact ifL h0) (fun m => by kernel_rfl) (fun m => by kernel_rfl) (fun m => by kernel_rfl) (fun m => by kernel_rfl) (fun m => by kernel_rfl) (fun m => by kernel_rfl) (fun m => by kernel_rfl) (fun _ => rfl) (by decide)
theorem good19 : Good 19 k_tf6 false 0 6 := good_of (fun m => by kernel_rfl) (fun m => by kernel_rfl) (by decide) (fun m n h0 => by rw [manyt]; exact ifL h0) (fun m => by kernel_rfl) (fun m => by kernel_rfl) (fun m => by kernel_rfl) (fun m => by kernel_rfl) (fun m => by kernel_rfl) (fun m => by kernel_rfl) (fun m => by kernel_rfl) (fun _ => rfl) (by decide)
theorem good20 : Good 20 k_tv9 false 0 1 := good_of (fun m => by kernel_rfl) (fun m => by kernel_rfl) (by decide) (fun m n h0 => by rw [manyv]; exact ifL h0) (fun m => by kernel_rfl) (fun m => by kernel_rfl) (fun m => by kernel_rfl) (fun m => by kernel_rfl) (fun m => by kernel_rfl) (fun m => by kernel_rfl) (fun m => by kernel_rfl) (fun _ => rfl) (by decide)
theorem good21 : Good 21 k_1 false 1 1 := good_of (fun m => by kernel_rfl) (fun m => by kernel_rfl) (by decide) (fun m n h0 => by rw [many1]; exact ifE) (fun m => by kernel_rfl) (fun m => by kernel_rfl) (fun m => by kernel_rfl) (fun m => by kernel_rfl) (fun m => by kernel_rfl) (fun m => by kernel_rfl) (fun m => by kernel_rfl) (fun _ => rfl) (by decide)
theorem good22 : Good 22 k_1 false 1 1 := good_of (fun m => by kernel_rfl) (fun m => by kernel_rfl) (by decide) (fun m n h0 => by rw [many1]; exact ifE) (fun m => by kernel_rfl) (fun m => by kernel_rfl) (fun m => by kernel_rfl) (fun m => by kernel_rfl) (fun m => by kernel_rfl) (fun m => by kernel_rfl) (fun m => by kernel_rfl) (fun _ => rfl) (by decide)
theorem good23 : Good 23 k_1 false 1 1 := good_of (fun m => by kernel_rfl) (fun m => by kernel_rfl) (by decide) (fun m n h0 => by rw [many1]; exact ifE) (fun m => by kernel_rfl) (fun m => by kernel_rfl) (fun m => by kernel_rfl) (fun m => by kernel_rfl) (fun m => by kernel_rfl) (fun m => by kernel_rfl) (fun m => by kernel_rfl) (fun _ => rfl) (by decide)
theorem good24 : Good 24 k_p0 true 0 0 := good_of (fun m => by kernel_rfl) (fun m => by kernel_rfl) (by decide) (fun m n h0 => by rw [manyp]; exact ifE) (fun m => by kernel_rfl) (fun m => by kernel_rfl) (fun m => by kernel_rfl) (fun m => by kernel_rfl) (fun m => by kernel_rfl) (fun m => by kernel_rfl) (fun m => by kernel_rfl) (fun h => by omega) (by decide)
theorem good25 : Good 25 k_p1 true 1 1 := good_of (fun m => by kernel_rfl) (fun m => by kernel_rfl) (by decide) (fun m n h0 => by rw [manyq]; exact ifE) (fun m => by kernel_rfl) (fun m => by kernel_rfl) (fun m => by kernel_rfl) (fun m => by kernel_rfl) (fun m => by kernel_rfl) (fun m => by kernel_rfl) (fun m => by kernel_rfl) (fun h => by omega) (by decide)
theorem good26 : Good 26 k_1 false 1 1 := good_of (fun m => by kernel_rfl) (fun m => by kernel_rfl) (by decide) (fun m n h0 => by rw [many1]; exact ifE) (fun m => by kernel_rfl) (fun m => by kernel_rfl) (fun m => by kernel_rfl) (fun m => by kernel_rfl) (fun m => by kernel_rfl) (fun m => by kernel_rfl) (fun m => by kernel_rfl) (fun _ => rfl) (by decide)
theorem good27 : Good 27 k_1 false 1 1 := good_of (fun m => by kernel_rfl) (fun m => by kernel_rfl) (by decide) (fun m n h0 => by rw [many1]; exact ifE) (fun m => by kernel_rfl) (fun m => by kernel_rfl) (fun m => by kernel_rfl) (fun m => by kernel_rfl) (fun m => by kernel_rfl) (fun m => by kernel_rfl) (fun m => by kernel_rfl) (fun _ => rfl) (by decide)
theorem good28 : Good 28 k_p0 true 0 0 := good_of (fun m => by kernel_rfl) (fun m => by kernel_rfl) (by decide) (fun m n h0 => by rw [manyp]; exact ifE) (fun m => by kernel_rfl) (fun m => by kernel_rfl) (fun m => by kernel_rfl) (fun m => by kernel_rfl) (fun m => by kernel_rfl) (fun m => by kernel_rfl) (fun m => by kernel_rfl) (fun h => by omega) (by decide)
theorem good29 : Good 29 k_1 false 1 1 := good_of (fun m => by kernel_rfl) (fun m => by kernel_rfl) (by decide) (fun m n h0 => by rw [many1]; exact ifE) (fun m => by kernel_rfl) (fun m => by kernel_rfl) (fun m => by kernel_rfl) (fun m => by kernel_rfl) (fun m => by kernel_rfl) (fun m => by kernel_rfl) (fun m => by kernel_rfl) (fun _ => rfl) (by decide)
theorem good30 : Good 30 k_1 false 1 1 := good_of (fun m => by kernel_rfl) (fun m => by kernel_rfl) (by decide) (fun m n h0 => by rw [many1]; exact ifE) (fun m => by kernel_rfl) (fun m => by kernel_rfl) (fun m => by kernel_rfl) (fun m => by kernel_rfl) (fun m => by kernel_rfl) (fun m => by kernel_rfl) (fun m => by kernel_rfl) (fun _ => rfl) (by decide)
theorem good31 : Good 31 k_1 false 1 1 := good_of (fun m => by kernel_rfl) (fun m => by kernel_rfl) (by decide) (fun m n h0 => by rw [many1]; exact ifE) (fun m => by kernel_rfl) (fun m => by kernel_rfl) (fun m => by kernel_rfl) (fun m => by kernel_rfl) (fun m => by kernel_rfl) (fun m => by kernel_rfl) (fun m => by kernel_rfl) (fun _ => rfl) (by decide)
theorem good32 : Good 32 k_p0 true 0 0 := good_of (fun m => by kernel_rfl) (fun m => by kernel_rfl) (by decide) (fun m n h0 => by rw [manyp]; exact ifE) (fun m => by kernel_rfl) (fun m => by kernel_rfl) (fun m => by kernel_rfl) (fun m => by kernel_rfl) (fun m => by kernel_rfl) (fun m => by kernel_rfl) (fun m => by kernel_rfl) (fun h => by omega) (by decide)
theorem good33 : Good 33 k_p1 true 1 1 := good_of (fun m => by kernel_rfl) (fun m => by kernel_rfl) (by decide) (fun m n h0 => by rw [manyq]; exact ifE) (fun m => by kernel_rfl) (fun m => by kernel_rfl) (fun m => by kernel_rfl) (fun m => by kernel_rfl) (fun m => by kernel_rfl) (fun m => by kernel_rfl) (fun m => by kernel_rfl) (fun h => by omega) (by decide)
theorem good34 : Good 34 k_p1 true 1 1 := good_of (fun m => by kernel_rfl) (fun m => by kernel_rfl) (by decide) (fun m n h0 => by rw [manyq]; exact ifE) (fun m => by kernel_rfl) (fun m => by kernel_rfl) (fun m => by kernel_rfl) (fun m => by kernel_rfl) (fun m => by kernel_rfl) (fun m => by kernel_rfl) (fun m => by kernel_rfl) (fun h => by omega) (by decide)
theorem good35 : Good 35 k_p1 true 1 1 := good_of (fun m => by kernel_rfl) (fun m => by kernel_rfl) (by decide) (fun m n h0 => by rw [manyq]; exact ifE) (fun m => by kernel_rfl) (fun m => by kernel_rfl) (fun m => by kernel_rfl) (fun m => by kernel_rfl) (fun m => by kernel_rfl) (fun m => by kernel_rfl) (fun m => by kernel_rfl) (fun h => by omega) (by decide)
theorem good36 : Good 36 k_p0 true 0 0 := good_of (fun m => by kernel_rfl) (fun m => by kernel_rfl) (by decide) (fun m n h0 => by rw [manyp]; exact ifE) (fun m => by kernel_rfl) (fun m => by kernel_rfl) (fun m => by kernel_rfl) (fun m => by kernel_rfl) (fun m => by kernel_rfl) (fun m => by kernel_rfl) (fun m => by kernel_rfl) (fun h => by omega) (by decide)
theorem good_all {z1 : Int} (h0 : 0 ≤ z1) (h1 : z1 < 256) : (∃ f hp least most, Good z1 f hp least most) ∨ (Ev (fun n => F40 n z1) ByteArray.empty ∧ ∃ hp a b, Ev (fun n => F58 n z1) (hp, a, b, false)) := by
  by_cases hb : 37 ≤ z1
  · right
    refine ⟨.succ ?_, false, 1, 1, ?_⟩
    · simp only [F40, letF, wrap_i64' (show -9223372036854775808 ≤ z1 ∧ z1 ≤ 9223372036854775807 by omega), if_pos hb]
      simp only [L40_1, if_true]; exact Ev.ret
    · simp only [F58, if_neg (show ¬ z1 = 1 by omega)]
      refine .succ ?_
      simp only [L58_1, Bool.false_eq_true, if_false, if_neg (show ¬ z1 = 2 by omega)]
      refine .succ ?_
      simp only [L58_2, Bool.false_eq_true, if_false, if_neg (show ¬ z1 = 3 by omega)]
      refine .succ ?_
      simp only [L58_3, Bool.false_eq_true, if_false, if_neg (show ¬ z1 = 4 by omega)]
      refine .succ ?_
      simp only [L58_4, Bool.false_eq_true, if_false, if_neg (show ¬ z1 = 5 by omega)]
      refine .succ ?_
      simp only [L58_5, Bool.false_eq_true, if_false, if_neg (show ¬ z1 = 6 by omega)]
      refine .succ ?_
      simp only [L58_6, Bool.false_eq_true, if_false, if_neg (show ¬ z1 = 24 by omega)]
      refine .succ ?_
      simp only [L58_7, Bool.false_eq_true, if_false, if_neg (show ¬ z1 = 28 by omega)]
      refine .succ ?_
      simp only [L58_8, Bool.false_eq_true, if_false, if_neg (show ¬ z1 = 32 by omega)]
      refine .succ ?_
      simp only [L58_9, Bool.false_eq_true, if_false, if_neg (show ¬ z1 = 36 by omega)]
      refine .succ ?_
      simp only [L58_10, Bool.false_eq_true, if_false, if_neg (show ¬ z1 = 25 by omega)]
      refine .succ ?_
      simp only [L58_11, Bool.false_eq_true, if_false, if_neg (show ¬ z1 = 33 by omega)]
      refine .succ ?_
      simp only [L58_12, Bool.false_eq_true, if_false, if_neg (show ¬ z1 = 34 by omega)]
      refine .succ ?_
      simp only [L58_13, Bool.false_eq_true, if_false, if_neg (show ¬ z1 = 35 by omega)]
      refine .succ ?_
      simp only [L58_14, Bool.false_eq_true, if_false, if_neg (show ¬ z1 = 18 by omega)]
      refine .succ ?_
      simp only [L58_15, Bool.false_eq_true, if_false, if_neg (show ¬ z1 = 19 by omega)]
      refine .succ ?_
      simp only [L58_16, Bool.false_eq_true, if_false, if_neg (show ¬ z1 = 20 by omega)]
      refine .succ ?_
      simp only [L58_17, Bool.false_eq_true, if_false, if_neg (show ¬ z1 = 9 by omega)]
      refine .succ ?_
      simp only [L58_18, Bool.false_eq_true, if_false, if_neg (show ¬ z1 = 10 by omega)]
      refine .succ ?_
      simp only [L58_19, Bool.false_eq_true, if_false, if_neg (show ¬ z1 = 11 by omega)]
      refine .succ ?_
      simp only [L58_20, Bool.false_eq_true, if_false, if_neg (show ¬ z1 = 12 by omega)]
      refine .succ ?_
      simp only [L58_21, Bool.false_eq_true, if_false, if_neg (show ¬ z1 = 13 by omega)]
      refine .succ ?_
      simp only [L58_22, Bool.false_eq_true, if_false, if_neg (show ¬ z1 = 14 by omega)]
      refine .succ ?_
      simp only [L58_23, Bool.false_eq_true, if_false, if_neg (show ¬ z1 = 15 by omega)]
      refine .succ ?_
      simp only [L58_24, Bool.false_eq_true, if_false, if_neg (show ¬ z1 = 16 by omega)]
      refine .succ ?_
      simp only [L58_25, Bool.false_eq_true, if_false, if_neg (show ¬ z1 = 17 by omega)]
      refine .succ ?_
      simp only [L58_26, Bool.false_eq_true, if_false, if_pos (show 1 ≤ z1 by omega), if_neg (show ¬ z1 ≤ 36 by omega)]; exact Ev.ret
  · obtain ⟨k, rfl⟩ : ∃ k : Nat, z1 = k := ⟨z1.toNat, by omega⟩
    have hk : k < 37 := by omega
    clear h0 h1 hb
    match k, hk with
    | 0, _ => right; exact ⟨evAt (fun m => by kernel_rfl), false, 1, 1, evAt (fun m => by kernel_rfl)⟩
    | 1, _ => left; exact ⟨_, _, _, _, good1⟩
    | 2, _ => left; exact ⟨_, _, _, _, good2⟩
    | 3, _ => left; exact ⟨_, _, _, _, good3⟩
    | 4, _ => left; exact ⟨_, _, _, _, good4⟩
    | 5, _ => left; exact ⟨_, _, _, _, good5⟩
    | 6, _ => left; exact ⟨_, _, _, _, good6⟩
    | 7, _ => left; exact ⟨_, _, _, _, good7⟩
    | 8, _ => left; exact ⟨_, _, _, _, good8⟩
    | 9, _ => left; exact ⟨_, _, _, _, good9⟩
    | 10, _ => left; exact ⟨_, _, _, _, good10⟩
    | 11, _ => left; exact ⟨_, _, _, _, good11⟩
    | 12, _ => left; exact ⟨_, _, _, _, good12⟩
    | 13, _ => left; exact ⟨_, _, _, _, good13⟩
    | 14, _ => left; exact ⟨_, _, _, _, good14⟩
    | 15, _ => left; exact ⟨_, _, _, _, good15⟩
    | 16, _ => left; exact ⟨_, _, _, _, good16⟩
    | 17, _ => left; exact ⟨_, _, _, _, good17⟩
    | 18, _ => left; exact ⟨_, _, _, _, good18⟩
    | 19, _ => left; exact ⟨_, _, _, _, good19⟩
    | 20, _ => left; exact ⟨_, _, _, _, good20⟩
    | 21, _ => left; exact ⟨_, _, _, _, good21⟩
    | 22, _ => left; exact ⟨_, _, _, _, good22⟩
    | 23, _ => left; exact ⟨_, _, _, _, good23⟩
    | 24, _ => left; exact ⟨_, _, _, _, good24⟩
    | 25, _ => left; exact ⟨_, _, _, _, good25⟩
    | 26, _ => left; exact ⟨_, _, _, _, good26⟩
    | 27, _ => left; exact ⟨_, _, _, _, good27⟩
    | 28, _ => left; exact ⟨_, _, _, _, good28⟩
    | 29, _ => left; exact ⟨_, _, _, _, good29⟩
    | 30, _ => left; exact ⟨_, _, _, _, good30⟩
    | 31, _ => left; exact ⟨_, _, _, _, good31⟩
    | 32, _ => left; exact ⟨_, _, _, _, good32⟩
    | 33, _ => left; exact ⟨_, _, _, _, good33⟩
    | 34, _ => left; exact ⟨_, _, _, _, good34⟩
    | 35, _ => left; exact ⟨_, _, _, _, good35⟩
    | 36, _ => left; exact ⟨_, _, _, _, good36⟩
    | n + 37, h => exact absurd h (by omega)
end Go.Proofs.YtjmofeakajdbiaaDoor
end

namespace Go.AM
open Go

theorem Shape.row {ti : Types} {t : TypeId} {cs : List D} {y : TI} (h : Shape ti t cs) (hy : ti t = some y) (h1 : rowD y.desc = true) : cs.length = y.size ∧ ∀ c ∈ cs, c.isAgg = false := by
  cases h with
  | struct ds h hd hl hg hr => rw [hy] at h; cases h; exact ⟨hl, hg⟩
  | bool b h hd => rw [hy] at h; cases h; rw [hd] at h1; cases h1
  | int n h hd => rw [hy] at h; cases h; rw [hd] at h1; cases h1
  | str s h hd => rw [hy] at h; cases h; rw [hd] at h1; cases h1
  | slice rows h hd => rw [hy] at h; cases h; rw [hd] at h1; cases h1
theorem Shape.cell {ti : Types} {t : TypeId} {cs : List D} {y : TI} (h : Shape ti t cs) (hy : ti t = some y) (h1 : rowD y.desc = false) : ∃ c, cs = [c] ∧ c.isAgg = false := by
  cases h with
  | struct ds h hd hl hg hr => rw [hy] at h; cases h; rw [hd] at h1; cases h1
  | bool b h hd => exact ⟨_, rfl, rfl⟩
  | int n h hd => exact ⟨_, rfl, rfl⟩
  | str s h hd => exact ⟨_, rfl, rfl⟩
  | slice rows h hd => exact ⟨_, rfl, rfl⟩
theorem RowS.fits {ti : Types} {e : TypeId} {r : D} {y : TI} (h1 : TIone ti) (h : RowS ti e r) (hy : ti e = some y) : r.fits (rowD y.desc) y.size := by
  have ha := h.2 y hy
  cases hr : rowD y.desc with
  | true =>
    obtain ⟨q1, q2⟩ := h.1.row hy hr
    exact ⟨by rw [ha, hr], q1, q2⟩
  | false =>
    obtain ⟨c, q1, q2⟩ := h.1.cell hy hr
    exact ⟨by rw [ha, hr], by rw [q1, h1 e y hy hr]; rfl, by rw [q1]; simpa using q2⟩
theorem ListS.nil {ti : Types} {e : TypeId} : ListS ti e [] := ⟨Nat.zero_le _, by simp⟩
theorem ListS.cons {ti : Types} {e : TypeId} {x : D} {L : List D} (hx : RowS ti e x) (h : ListS ti e L) (hl : L.length + 1 ≤ maxLen) : ListS ti e (x :: L) := ⟨by simpa using hl, fun y hy => by
  rcases List.mem_cons.1 hy with rfl | hy
  · exact hx
  · exact h.2 y hy⟩
theorem ListS.one {ti : Types} {e : TypeId} {x : D} (hx : RowS ti e x) : ListS ti e [x] := .cons hx .nil (by simp [maxLen])
theorem ListS.set {ti : Types} {e : TypeId} {L : List D} (h : ListS ti e L) (i : Nat) {x : D} (hx : RowS ti e x) : ListS ti e (L.set i x) := ⟨by simpa using h.1, fun y hy => by
  rcases List.mem_or_eq_of_mem_set hy with hy | rfl
  · exact h.2 y hy
  · exact hx⟩
theorem ListS.take {ti : Types} {e : TypeId} {L : List D} (h : ListS ti e L) (i : Nat) : ListS ti e (L.take i) := ⟨by have := h.1; simp; omega, fun x hx => h.2 x (List.mem_of_mem_take hx)⟩
theorem ListS.drop {ti : Types} {e : TypeId} {L : List D} (h : ListS ti e L) (i : Nat) : ListS ti e (L.drop i) := ⟨by have := h.1; simp; omega, fun x hx => h.2 x (List.mem_of_mem_drop hx)⟩
theorem Ev.bO4 {A1 A2 A3 A4 γ : Type} {A : Nat → Option (A1 × A2 × A3 × A4)} {a1 : A1} {a2 : A2} {a3 : A3} {a4 : A4} {k : Nat → A1 → A2 → A3 → A4 → Option γ} {r : γ} (ha : Ev A (a1, a2, a3, a4)) (hk : Ev (fun n => k n a1 a2 a3 a4) r) : Ev (fun n => bO4 (A n) (k n)) r := by
  obtain ⟨N, ha⟩ := ha
  obtain ⟨M, hk⟩ := hk
  refine ⟨N + M, fun n hn => ?_⟩
  show Go.AM.bO4 (A n) (k n) = some r
  rw [ha n (by omega)]
  exact hk n (by omega)
theorem Ev.bO10 {A1 A2 A3 A4 A5 A6 A7 A8 A9 A10 γ : Type} {A : Nat → Option (A1 × A2 × A3 × A4 × A5 × A6 × A7 × A8 × A9 × A10)} {a1 : A1} {a2 : A2} {a3 : A3} {a4 : A4} {a5 : A5} {a6 : A6} {a7 : A7} {a8 : A8} {a9 : A9} {a10 : A10} {k : Nat → A1 → A2 → A3 → A4 → A5 → A6 → A7 → A8 → A9 → A10 → Option γ} {r : γ} (ha : Ev A (a1, a2, a3, a4, a5, a6, a7, a8, a9, a10)) (hk : Ev (fun n => k n a1 a2 a3 a4 a5 a6 a7 a8 a9 a10) r) : Ev (fun n => bO10 (A n) (k n)) r := by
  obtain ⟨N, ha⟩ := ha
  obtain ⟨M, hk⟩ := hk
  refine ⟨N + M, fun n hn => ?_⟩
  show Go.AM.bO10 (A n) (k n) = some r
  rw [ha n (by omega)]
  exact hk n (by omega)
end Go.AM

namespace Go.AM
open Go Go.RowKit Go.ChangeShapes Go.WideShapes

def Shapes (ti : Types) : List TypeId → List D → Prop
  | [], [] => True
  | t :: ts, x :: xs => Shape ti t x.cells ∧ (∀ y, ti t = some y → x.isAgg = rowD y.desc) ∧ Shapes ti ts xs
  | _, _ => False

theorem Shapes.length {ti : Types} : ∀ {ts : List TypeId} {xs : List D}, Shapes ti ts xs → xs.length = ts.length
  | [], [], _ => rfl
  | _ :: _, _ :: _, h => by simp [Shapes.length h.2.2]
  | [], _ :: _, h => h.elim
  | _ :: _, [], h => h.elim

section
variable {H : Type} {enc : TypeId × Value → H} {P : Program} {ti : Types} {T : List TypeId} {w : World}

theorem conv_arg (hti : TIok P ti) (hT : plainB ti T = true) {Z : Zone} (hZ : ∀ b o, ¬ Z b o) {base base' : Nat} {spare : Nat → Bool} {held : Bool} {r : Reach} {t : TypeId} {v : Value} {d : DataW H} {ps : List MemPlace} (ht : t ∈ T)
    (hok : Value.okWide P w r base' t v) (h : DataW.Trod enc P w base spare held t v d ps) : ∃ x : D, Shape ti t x.cells ∧ (∀ y, ti t = some y → x.isAgg = rowD y.desc) ∧ RelD w Z x v := by
  obtain ⟨fuel, h⟩ := h
  obtain ⟨ds, hs, h1, h2, h3⟩ := conv hti hT (Z := Z) hZ fuel t _ _ _ ht h
  have hp := List.all_eq_true.1 hT t ht
  split at hp
  · rename_i y hy
    have hu := (hti t y hy).1
    have single : rowD y.desc = false → v.cells.toList = [v] → ∃ x : D, Shape ti t x.cells ∧ (∀ y, ti t = some y → x.isAgg = rowD y.desc) ∧ RelD w Z x v := by
      intro hr hv
      rw [hv] at h1 h3
      obtain ⟨c, rfl⟩ := List.length_eq_one_iff.1 h1
      have hc := h2 c (by simp)
      have e : c.cells = [c] := by cases c <;> first | rfl | simp [D.isAgg] at hc
      refine ⟨c, by rw [e]; exact hs, fun y' hy' => ?_, h3 0 c v rfl rfl⟩
      rw [hy] at hy'
      obtain rfl : y = y' := by simpa using hy'
      rw [hc, hr]
    split at hp
    · rename_i hd
      rw [hd] at hu
      obtain ⟨b, rfl⟩ := okWide_bool hu hok
      exact single (by rw [hd]; rfl) rfl
    · rename_i k hd
      rw [hd] at hu
      obtain ⟨b, rfl⟩ := okWide_int hu hok
      exact single (by rw [hd]; rfl) rfl
    · rename_i hd
      rw [hd] at hu
      obtain ⟨b, rfl⟩ := okWide_string hu hok
      exact single (by rw [hd]; rfl) rfl
    · rename_i e hd
      rw [hd] at hu
      obtain ⟨a, l, c, rfl⟩ := okWide_slice hu hok
      exact single (by rw [hd]; rfl) rfl
    · rename_i fs hd
      rw [hd] at hu
      obtain ⟨cs, rfl, _⟩ := okWide_struct hu hok
      refine ⟨.agg ds, hs, fun y' hy' => ?_, .agg ds cs (by simpa [Value.cells] using h1.symm) h2 (fun j c u hc hu' => h3 j c u hc (by simpa [Value.cells] using hu'))⟩
      rw [hy] at hy'
      obtain rfl : y = y' := by simpa using hy'
      rw [hd]; rfl
    · simp at hp
  · simp at hp

theorem conv_args (hti : TIok P ti) (hT : plainB ti T = true) {Z : Zone} (hZ : ∀ b o, ¬ Z b o) {base base' : Nat} {spare : Nat → Bool} {held : Bool} {r : Reach} :
    ∀ (ts : List TypeId) (vs : List Value) (ds : List (DataW H)) (ps : List MemPlace), (∀ t ∈ ts, t ∈ T) → DataW.TrodAll enc P w base spare held ts vs ds ps →
      (∀ (j : Nat) t v, ts[j]? = some t → vs[j]? = some v → Value.okWide P w r base' t v) →
      ∃ xs, Shapes ti ts xs ∧ ∀ (j : Nat) x v, xs[j]? = some x → vs[j]? = some v → RelD w Z x v
  | [], vs, ds, ps, _, h, _ => ⟨[], trivial, by simp⟩
  | t :: ts, vs, ds, ps, ht, h, hok => by
    obtain ⟨v, vs1, d, ds1, a, b, rfl, rfl, rfl, h1, h2⟩ := trodAll_cons h
    obtain ⟨x, k1, k2, k3⟩ := conv_arg hti hT hZ (ht t (by simp)) (hok 0 t v rfl rfl) h1
    obtain ⟨xs, k4, k5⟩ := conv_args hti hT hZ ts vs1 ds1 b (fun t ht' => ht t (by simp [ht'])) h2 (fun j t v h1 h2 => hok (j + 1) t v (by simpa using h1) (by simpa using h2))
    refine ⟨x :: xs, ⟨k1, k2, k4⟩, fun j x' v' hx hv => ?_⟩
    match j with
    | 0 => simp at hx hv; subst hx; subst hv; exact k3
    | j + 1 => simp at hx hv; exact k5 j x' v' hx hv

theorem again_all (hl : laidOutB P = true) {W W' : World} (hb : Below W.heap.size W W') : ∀ (ts : List TypeId) (vs : List Value) (ds : List (DataW H)) (ps : List MemPlace),
    (∀ t ∈ ts, P.readableRec t = true ∧ t < P.types.size) → DataW.TrodAll enc P W 0 (fun _ => true) true ts vs ds ps → (∀ x ∈ ps, x.block < W.heap.size) →
    DataW.TrodAll enc P W' 0 (fun b => decide (b < W.heap.size)) true ts vs ds ps
  | [], vs, ds, ps, _, h, _ => by
    obtain ⟨rfl, rfl, rfl⟩ := trodAll_nil h
    exact rfl
  | t :: ts, vs, ds, ps, ht, h, hlt => by
    obtain ⟨v, vs1, d, ds1, a, b, rfl, rfl, rfl, h1, h2⟩ := trodAll_cons h
    have ht1 := ht t (by simp)
    exact ⟨a, b, Below.trod hl ht1.1 ht1.2 h1 hb (fun x hx => hlt x (by simp [hx])), again_all hl hb ts vs1 ds1 b (fun t ht' => ht t (by simp [ht'])) h2 (fun x hx => hlt x (by simp [hx])), rfl⟩

theorem law_calls {I : Inv} (hti : TIok P ti) (hT : plainB ti T = true) {s : ChangeSpec} {fn : Func} {f : FuncId} {ts : List TypeId} {bt : TypeId}
    (hp : fn.params.toList = ts) (hv : s.vars = []) (hr : fn.resultTypes = #[bt]) (hb : P.underlying bt = some .bool) (htT : ∀ t ∈ ts, t ∈ T)
    (hs : ∀ ds : List (DataW H), ds.length = ts.length → (s.fn H ds).results = [.lit (.bool true)] ∧ (s.fn H ds).args = ds ∧ (s.fn H ds).vars = [])
    (hl : laidOutB P = true) (hrec : ∀ t ∈ ts, P.readableRec t = true ∧ t < P.types.size)
    (hc : ∀ xs : List D, Shapes ti ts xs → Trip P I f (xs.map V1.d) [] (.v (.d (.bool true))) [] [])
    {W : World} {base : Nat} {args : Array Value} {ds gs : List (DataW H)} {before : List MemPlace}
    (hI : I.at W fun _ _ => False) (hval : ∀ (j : Nat) t v, fn.params[j]? = some t → args[j]? = some v → Value.okWide P W .any base t v)
    (hW : DataW.Whole enc P fn.params.toList s.vars false W args.toList ds gs before) :
    Calls P f args W fun e W' => ∃ v, e = .returned v ∧ s.post enc P fn false true false false W args v W' := by
  have hW' := hW
  obtain ⟨p, q, hA, hV, rfl, _, _⟩ := hW
  rw [hv] at hV
  obtain ⟨rfl, rfl⟩ : gs = [] ∧ q = [] := by
    cases gs with
    | nil => exact ⟨rfl, hV⟩
    | cons _ _ => exact hV.elim
  rw [hp] at hA
  obtain ⟨hlen, hdl⟩ := trodAll_length hA
  obtain ⟨xs, hsh, hrel⟩ := conv_args hti hT (Z := fun _ _ => False) (fun _ _ h => h) (r := .any) (base' := base) ts args.toList ds p htT hA (fun j t v h1 h2 => hval j t v (by
    rw [← Array.getElem?_toList, hp]; exact h1) (by simpa using h2))
  have hxl := hsh.length
  have hcall := hc xs hsh
  have hheap : ∀ i o, heapOf [] i = some o → False := by
    intro i o h
    cases i <;> simp [heapOf] at h
  have hzone : ∀ (g : Ghost) b o, ¬ zone g (heapOf []) b o := by
    rintro g b o ⟨i, ob, h, _⟩
    exact hheap i ob h
  refine (hcall.calls (w := W) (X := fun _ _ => False) (g := fun _ => undef) (vals := args) (fun _ _ h => h.elim) (hI.mono fun b o hz => hz.elim (hzone _ b o) id) ⟨fun i o h => (hheap i o h).elim, fun i _ _ _ _ h => (hheap i _ h).elim, fun i _ _ _ h => (hheap i _ h).elim⟩ (fun _ => rfl)
    (by simp at hlen; simp; omega) (fun j x v hx hvv => ?_)).mono ?_
  · simp only [List.getElem?_map, Option.map_eq_some_iff] at hx
    obtain ⟨d, hd, rfl⟩ := hx
    exact (hrel j d v hd (by simpa using hvv)).mono (fun b o u hu _ => ⟨hu, fun hz => hz.elim (hzone _ b o) id⟩)
  · rintro e W' ⟨v, g', rfl, hpost⟩
    obtain rfl : v = .bool true := by cases (show RelD _ _ (.bool true) v from hpost.res); rfl
    have hbel : Below W.heap.size W W' := ⟨hpost.frame.os, hpost.frame.tape, hpost.frame.output, hpost.frame.size, fun k hk => hpost.frame.block k hk (fun o => hzone _ k o)⟩
    obtain ⟨s1, s2, s3⟩ := hs (ds ++ []) (by simp [hdl])
    refine ⟨_, rfl, ds, [], p ++ [], [], p, [], hW', ?_, ?_, ?_, hbel.frame _, fun h => by cases h⟩
    · rw [s1, hr]
      exact trodAll_mk1 (shut_bool hb true)
    · rw [s2, hp, List.append_nil]
      exact again_all hl hbel ts args.toList ds p hrec hA (fun x hx => hW'.lt x (by simp [hx]))
    · rw [s3, hv]; rfl
end
end Go.AM

set_option linter.unusedVariables false
noncomputable section
namespace Go.Proofs.YtjmofeakajdbiaaDoor
open Go Go.AM

abbrev emp (s : ByteArray) : Bool := decide (s = ByteArray.empty)
def intB (z1 z2 : Int) : Bool := if z1 = 1 then decide (0 ≤ z2) else if z1 = 2 then decide (z2 = 0) || decide (z2 = 1) else decide (z2 = 0)
def nameB (z1 : Int) (s : ByteArray) : Bool := if z1 = 18 then nm 97 122 s else if z1 = 19 ∨ z1 = 20 then nm 65 90 s else emp s
def secB (z1 : Int) (s : ByteArray) : Bool := if z1 = 20 then nm 65 90 s else emp s
def fldB (s : ByteArray) (l6 l7 : List D) : Bool := emp s && (decide (l6.length = l7.length) && l6.all nmB)
def placB (z1 : Int) (hp : Bool) (s : ByteArray) (l6 l7 : List D) : Bool := if hp = true then plB s l6 else if z1 = 19 then fldB s l6 l7 else emp s && decide (l6.length = 0)

section
variable {z1 z2 : Int} {s3 s4 s5 : ByteArray} {l6 l7 : List D} {z8 : Int}

theorem ev59 (h3 : s3.size ≤ maxLen) (h4 : s4.size ≤ maxLen) : Ev (fun n => F59 n z1 z2 s3 s4 s5 l6 l7 z8) (nameB z1 s3 && (secB z1 s4 && intB z1 z2)) := by
  have e7 : ∀ a b c, Ev (fun n => L59_7 n a b c) (a && (b && c)) := fun a b c => .succ (by cases a <;> cases b <;> simp only [L59_7, if_true, Bool.false_eq_true, if_false] <;> exact Ev.ret)
  have main : Ev (fun n => L59_1 n z1 z2 s3 s4 (emp s3) (emp s4) (decide (z2 = 0))) (nameB z1 s3 && (secB z1 s4 && intB z1 z2)) := by
    refine .succ ?_
    by_cases c1 : z1 = 1
    · subst c1
      simp only [L59_1, if_true]
      refine .succ ?_
      simp only [L59_2, if_true, nameB, secB, intB, show ¬ (1 : Int) = 18 by decide, show ¬ ((1 : Int) = 19 ∨ (1 : Int) = 20) by decide, show ¬ (1 : Int) = 20 by decide, if_false]
      by_cases c : 0 ≤ z2
      · simp only [if_pos c, decide_eq_true c]; exact e7 _ _ _
      · simp only [if_neg c, decide_eq_false c]; exact e7 _ _ _
    simp only [L59_1, if_neg c1]
    refine .succ ?_
    by_cases c2 : z1 = 2
    · subst c2
      simp only [L59_2, Bool.false_eq_true, if_false, if_true]
      refine .succ ?_
      simp only [L59_3, if_true, nameB, secB, intB, show ¬ (2 : Int) = 18 by decide, show ¬ ((2 : Int) = 19 ∨ (2 : Int) = 20) by decide, show ¬ (2 : Int) = 20 by decide, show ¬ (2 : Int) = 1 by decide, if_false]
      by_cases c : z2 = 0
      · simp only [if_pos c, decide_eq_true c, Bool.true_or]; exact e7 _ _ _
      · by_cases d : z2 = 1
        · simp only [if_neg c, if_pos d, decide_eq_false c, decide_eq_true d, Bool.false_or]; exact e7 _ _ _
        · simp only [if_neg c, if_neg d, decide_eq_false c, decide_eq_false d, Bool.false_or]; exact e7 _ _ _
    simp only [L59_2, Bool.false_eq_true, if_false, if_neg c2]
    refine .succ ?_
    have ei : intB z1 z2 = decide (z2 = 0) := by simp only [intB, if_neg c1, if_neg c2]
    rw [ei]
    by_cases c3 : z1 = 18
    · subst c3
      simp only [L59_3, Bool.false_eq_true, if_false, if_true]
      refine .succ ?_
      simp only [L59_4, if_true, nameB, secB, show ¬ (18 : Int) = 20 by decide, if_false]
      exact Ev.bO1 (ev13 h3) (e7 _ _ _)
    simp only [L59_3, Bool.false_eq_true, if_false, if_neg c3]
    refine .succ ?_
    by_cases c4 : z1 = 19
    · subst c4
      simp only [L59_4, Bool.false_eq_true, if_false, if_true]
      refine .succ ?_
      simp only [L59_5, if_true, nameB, secB, show ¬ (19 : Int) = 18 by decide, show ¬ (19 : Int) = 20 by decide, if_false, true_or]
      exact Ev.bO1 (ev15 h3) (e7 _ _ _)
    simp only [L59_4, Bool.false_eq_true, if_false, if_neg c4]
    refine .succ ?_
    by_cases c5 : z1 = 20
    · subst c5
      simp only [L59_5, Bool.false_eq_true, if_false, if_true]
      refine .succ ?_
      simp only [L59_6, if_true, nameB, secB, show ¬ (20 : Int) = 18 by decide, if_false, or_true]
      exact Ev.bO1 (ev15 h3) (Ev.bO1 (ev15 h4) (e7 _ _ _))
    simp only [L59_5, Bool.false_eq_true, if_false, if_neg c5]
    refine .succ ?_
    simp only [L59_6, Bool.false_eq_true, if_false, nameB, secB, if_neg c3, if_neg (show ¬ (z1 = 19 ∨ z1 = 20) from fun h => h.elim c4 c5), if_neg c5]
    exact e7 _ _ _
  unfold F59
  by_cases a : s3 = ByteArray.empty <;> by_cases b : s4 = ByteArray.empty <;> by_cases c : z2 = 0 <;> simp only [a, b, c, if_true, if_false] <;> simpa only [a, b, c, emp, decide_true, decide_false] using main
theorem ev60 (h5 : s5.size ≤ maxLen) (h6 : ListS tab 9 l6) (hp : Bool) : Ev (fun n => F60 n z1 z2 s3 s4 s5 l6 l7 z8 hp) (if hp = true then plB s5 l6 else if z1 = 19 then fldB s5 l6 l7 && decide (l6.length ≤ 6) else emp s5 && decide (l6.length = 0)) := by
  unfold F60
  cases hp
  · simp only [Bool.false_eq_true, if_false]
    by_cases c : z1 = 19
    · simp only [if_pos c]
      refine .succ ?_
      simp only [L60_1, if_true, fldB]
      by_cases e : s5 = ByteArray.empty
      · simp only [if_pos e, lenF, decide_eq_true e, Bool.true_and]
        by_cases e2 : l6.length = l7.length
        · simp only [if_pos (show (l6.length : Int) = (l7.length : Int) by omega), decide_eq_true e2, Bool.true_and]
          exact Ev.bO1 (ev44x h6 6) Ev.ret
        · simp only [if_neg (show ¬ (l6.length : Int) = (l7.length : Int) by omega), decide_eq_false e2, Bool.false_and]; exact Ev.ret
      · simp only [if_neg e, decide_eq_false e, Bool.false_and]; exact Ev.ret
    · simp only [if_neg c]
      refine .succ ?_
      simp only [L60_1, Bool.false_eq_true, if_false, F73]
      refine Ev.bO1 (a := emp s5 && decide (l6.length = 0)) ?_ Ev.ret
      by_cases e : s5 = ByteArray.empty
      · simp only [if_pos e, lenF, decide_eq_true e, Bool.true_and]
        by_cases e2 : l6.length = 0
        · simp only [if_pos (show (l6.length : Int) = 0 by omega), decide_eq_true e2]; exact Ev.ret
        · simp only [if_neg (show ¬ (l6.length : Int) = 0 by omega), decide_eq_false e2]; exact Ev.ret
      · simp only [if_neg e, decide_eq_false e, Bool.false_and]; exact Ev.ret
  · simp only [if_true]; exact Ev.bO1 (ev24 h5 h6) Ev.ret

theorem ev43 (h6 : ListS tab 9 l6) : Ev (fun n => F43 n z1 z2 s3 s4 s5 l6 l7 z8) (fldB s5 l6 l7) := by
  have loop : ∀ i, i ≤ l6.length → Ev (fun n => L43_2 n l6 (i : Int)) ((l6.drop i).all nmB) := by
    refine down l6.length (Ev.succ ?_) (fun i hi ih => ?_)
    · simp only [L43_2, lenF, Int.lt_irrefl, if_false, List.drop_length]
      exact Ev.succ (by simp only [L43_3, Bool.false_eq_true, if_false]; exact Ev.ret)
    · obtain ⟨x, hx, _, hr⟩ := h6.get hi
      obtain ⟨s, rfl, hs⟩ := rs9 hr
      rw [all_drop hx]
      refine Ev.succ ?_
      simp only [L43_2, lenF, if_pos (show (i : Int) < (l6.length : Int) by omega)]
      refine Ev.succ ?_
      simp only [L43_3, if_true, getF_nat hx, ds_str, nmB]
      refine Ev.bO1 (ev14 hs) ?_
      cases nm 97 122 s
      · simp only [letB, Bool.not_false, if_true, Bool.false_and]; exact Ev.ret
      · simp only [letB, Bool.not_true, Bool.false_eq_true, if_false, letF, wrap_succ hi h6.1, Bool.true_and]; exact ih
  have no : Ev (fun n => L43_1 n l6 true) false := Ev.succ (by simp only [L43_1, if_true]; exact Ev.ret)
  unfold F43 fldB
  by_cases e : s5 = ByteArray.empty
  · simp only [if_pos e, lenF, decide_eq_true e, Bool.true_and]
    by_cases e2 : l6.length = l7.length
    · simp only [if_pos (show (l6.length : Int) = (l7.length : Int) by omega), decide_eq_true e2, Bool.true_and]
      exact Ev.succ (by simp only [L43_1, Bool.false_eq_true, if_false]; exact loop 0 (Nat.zero_le _))
    · simp only [if_neg (show ¬ (l6.length : Int) = (l7.length : Int) by omega), decide_eq_false e2, Bool.false_and]; exact no
  · simp only [if_neg e, decide_eq_false e, Bool.false_and]; exact no

variable {f : ByteArray} {hp : Bool} {least most : Int} (G : Good z1 f hp least most) {deep : Int} {A : Bool}
theorem g9 (hA : Ev (fun n => L23_10 n z1 l7 deep (0 : Int)) A) (b : Bool) : Ev (fun n => L23_9 n z1 l7 deep (!b)) (b && A) := by
  refine .succ ?_
  cases b
  · simp only [L23_9, Bool.not_false, if_true, Bool.false_and]; exact Ev.ret
  · simp only [L23_9, Bool.not_true, Bool.false_eq_true, if_false, Bool.true_and]; exact hA
include G
theorem g8 (h4 : s4.size ≤ maxLen) (hA : Ev (fun n => L23_10 n z1 l7 deep (0 : Int)) A) (b : Bool) : Ev (fun n => L23_8 n z1 s4 l7 deep f (!b)) (b && (secB z1 s4 && A)) := by
  have k9 := g9 hA
  refine .succ ?_
  cases b
  · simp only [L23_8, Bool.not_false, if_true, Bool.false_and]; exact Ev.ret
  simp only [L23_8, Bool.not_true, Bool.false_eq_true, if_false, Bool.true_and]
  refine Ev.bO1 G.hv ?_
  by_cases c : z1 = 20
  · simp only [decide_eq_true c, if_true, secB, if_pos c]
    refine Ev.bO1 (ev16 h4) ?_
    cases nm 65 90 s4
    · simp only [letB, Bool.not_false, if_true]; exact k9 false
    · simp only [letB, Bool.not_true, Bool.false_eq_true, if_false]
      refine Ev.bO1 G.hv ?_
      simp only [decide_eq_true c, letB, Bool.not_true, Bool.false_eq_true, if_false]; exact k9 true
  · simp only [decide_eq_false c, Bool.false_eq_true, if_false, secB, if_neg c]
    refine Ev.bO1 G.hv ?_
    simp only [decide_eq_false c, letB, Bool.not_false, if_true]
    by_cases e : s4 = ByteArray.empty
    · simp only [if_pos e, emp, decide_eq_true e]; exact k9 true
    · simp only [if_neg e, emp, decide_eq_false e]; exact k9 false
theorem g7 (h3 : s3.size ≤ maxLen) (h4 : s4.size ≤ maxLen) (hA : Ev (fun n => L23_10 n z1 l7 deep (0 : Int)) A) : Ev (fun n => L23_7 n z1 s3 s4 l7 deep f) (nameB z1 s3 && (secB z1 s4 && A)) := by
  have k8 := g8 G h4 hA
  refine .succ ?_
  simp only [L23_7]
  refine Ev.bO1 G.hn ?_
  by_cases c : z1 = 18
  · have ct : ¬ (z1 = 19 ∨ z1 = 20) := by omega
    simp only [decide_eq_true c, if_true, nameB, if_pos c]
    refine Ev.bO1 (ev14 h3) ?_
    cases nm 97 122 s3
    · simp only [letB, Bool.not_false, if_true]; exact k8 false
    · simp only [letB, Bool.not_true, Bool.false_eq_true, if_false]
      refine Ev.bO1 G.ht ?_
      simp only [decide_eq_false ct, Bool.false_eq_true, if_false]
      refine Ev.bO1 G.hn ?_
      simp only [decide_eq_true c, letB, Bool.not_true, Bool.false_eq_true, if_false]; exact k8 true
  simp only [decide_eq_false c, Bool.false_eq_true, if_false, nameB, if_neg c]
  refine Ev.bO1 G.ht ?_
  by_cases ct : z1 = 19 ∨ z1 = 20
  · simp only [decide_eq_true ct, if_true, if_pos ct]
    refine Ev.bO1 (ev16 h3) ?_
    cases nm 65 90 s3
    · simp only [letB, Bool.not_false, if_true]; exact k8 false
    · simp only [letB, Bool.not_true, Bool.false_eq_true, if_false]
      refine Ev.bO1 G.hn ?_
      simp only [decide_eq_false c, letB, Bool.not_false, if_true]
      refine Ev.bO1 G.ht ?_
      simp only [decide_eq_true ct, letB, Bool.not_true, Bool.false_eq_true, if_false]; exact k8 true
  · simp only [decide_eq_false ct, Bool.false_eq_true, if_false, if_neg ct]
    refine Ev.bO1 G.hn ?_
    simp only [decide_eq_false c, letB, Bool.not_false, if_true]
    refine Ev.bO1 G.ht ?_
    simp only [decide_eq_false ct, letB, Bool.not_false, if_true]
    by_cases e : s3 = ByteArray.empty
    · simp only [if_pos e, emp, decide_eq_true e]; exact k8 true
    · simp only [if_neg e, emp, decide_eq_false e]; exact k8 false
theorem g5 (h3 : s3.size ≤ maxLen) (h4 : s4.size ≤ maxLen) (h5 : s5.size ≤ maxLen) (h6 : ListS tab 9 l6) (hA : Ev (fun n => L23_10 n z1 l7 deep (0 : Int)) A) :
    Ev (fun n => L23_5 n z1 z2 s3 s4 s5 l6 l7 z8 deep f) (placB z1 hp s5 l6 l7 && (nameB z1 s3 && (secB z1 s4 && A))) := by
  have k7 := g7 G h3 h4 hA
  refine .succ ?_
  simp only [L23_5]
  refine Ev.bO1 G.h112 ?_
  cases hp
  · simp only [Bool.false_eq_true, if_false, placB]
    refine Ev.bO1 G.hf ?_
    by_cases c : z1 = 19
    · simp only [decide_eq_true c, if_true, if_pos c]
      refine Ev.bO1 (ev43 h6) ?_
      cases fldB s5 l6 l7
      · simp only [letB, Bool.not_false, if_true, Bool.false_and]; exact Ev.ret
      · simp only [letB, Bool.not_true, Bool.false_eq_true, if_false, Bool.true_and]; exact k7
    · simp only [decide_eq_false c, Bool.false_eq_true, if_false, if_neg c]
      have k6 : ∀ b, Ev (fun n => L23_6 n z1 s3 s4 l7 deep f (!b)) (b && (nameB z1 s3 && (secB z1 s4 && A))) := by
        intro b
        refine .succ ?_
        cases b
        · simp only [L23_6, Bool.not_false, if_true, Bool.false_and]; exact Ev.ret
        · simp only [L23_6, Bool.not_true, Bool.false_eq_true, if_false, Bool.true_and]; exact k7
      by_cases e : s5 = ByteArray.empty
      · simp only [if_pos e, emp, decide_eq_true e, Bool.true_and, lenF]
        by_cases e2 : l6.length = 0
        · simp only [if_neg (show ¬ 0 < (l6.length : Int) by omega), decide_eq_true e2]; exact k6 true
        · simp only [if_pos (show 0 < (l6.length : Int) by omega), decide_eq_false e2]; exact k6 false
      · simp only [if_neg e, emp, decide_eq_false e, Bool.false_and]; exact k6 false
  · simp only [if_true, placB]
    refine Ev.bO1 (ev25 h5 h6) ?_
    cases plB s5 l6
    · simp only [letB, Bool.not_false, if_true, Bool.false_and]; exact Ev.ret
    · simp only [letB, Bool.not_true, Bool.false_eq_true, if_false, Bool.true_and]; exact k7
theorem g1 (h3 : s3.size ≤ maxLen) (h4 : s4.size ≤ maxLen) (h5 : s5.size ≤ maxLen) (h6 : ListS tab 9 l6) (hA : Ev (fun n => L23_10 n z1 l7 deep (0 : Int)) A) :
    Ev (fun n => L23_1 n z1 z2 s3 s4 s5 l6 l7 z8 deep f false) (intB z1 z2 && (placB z1 hp s5 l6 l7 && (nameB z1 s3 && (secB z1 s4 && A)))) := by
  have k5 := g5 (z2 := z2) (z8 := z8) G h3 h4 h5 h6 hA
  refine .succ ?_
  simp only [L23_1, Bool.false_eq_true, if_false]
  refine Ev.bO1 G.hi ?_
  by_cases c1 : z1 = 1
  · simp only [decide_eq_true c1, if_true, intB, if_pos c1]
    by_cases c : 0 ≤ z2
    · simp only [if_neg (show ¬ z2 < 0 by omega), decide_eq_true c, Bool.true_and]
      exact .succ (by simp only [L23_2, Bool.false_eq_true, if_false]; exact k5)
    · simp only [if_pos (show z2 < 0 by omega), decide_eq_false c, Bool.false_and]
      exact .succ (by simp only [L23_2, if_true]; exact Ev.ret)
  simp only [decide_eq_false c1, Bool.false_eq_true, if_false, intB, if_neg c1]
  refine Ev.bO1 G.hb ?_
  by_cases c2 : z1 = 2
  · simp only [decide_eq_true c2, if_true, if_pos c2]
    have y : Ev (fun n => L23_3 n z1 z2 s3 s4 s5 l6 l7 z8 deep f false) (placB z1 hp s5 l6 l7 && (nameB z1 s3 && (secB z1 s4 && A))) := .succ (by simp only [L23_3, Bool.false_eq_true, if_false]; exact k5)
    by_cases c : z2 = 0
    · simp only [if_pos c, decide_eq_true c, Bool.true_or, Bool.true_and]; exact y
    · by_cases d : z2 = 1
      · simp only [if_neg c, if_pos d, decide_eq_true d, Bool.or_true, Bool.true_and]; exact y
      · simp only [if_neg c, if_neg d, decide_eq_false c, decide_eq_false d, Bool.or_false, Bool.false_and]
        exact .succ (by simp only [L23_3, if_true]; exact Ev.ret)
  · simp only [decide_eq_false c2, Bool.false_eq_true, if_false, if_neg c2]
    by_cases c : z2 = 0
    · simp only [if_pos c, decide_eq_true c, Bool.true_and]
      exact .succ (by simp only [L23_4, Bool.false_eq_true, if_false]; exact k5)
    · simp only [if_neg c, decide_eq_false c, Bool.false_and]
      exact .succ (by simp only [L23_4, if_true]; exact Ev.ret)
end

theorem ex_agree (l : List D) : ListS tab 31 l → ∀ z1 z2 (s3 s4 s5 : ByteArray) l6 z8 deep, 0 ≤ z1 → z1 < 256 → s3.size ≤ maxLen → s4.size ≤ maxLen → s5.size ≤ maxLen → ListS tab 9 l6 → 0 ≤ deep → deep ≤ 40 →
    Agree (fun n => F39 n z1 z2 s3 s4 s5 l6 l z8 deep) (fun n => F23 n z1 z2 s3 s4 s5 l6 l z8 deep) := by
  refine list_ind (P := fun l => ListS tab 31 l → ∀ z1 z2 (s3 s4 s5 : ByteArray) l6 z8 deep, 0 ≤ z1 → z1 < 256 → s3.size ≤ maxLen → s4.size ≤ maxLen → s5.size ≤ maxLen → ListS tab 9 l6 → 0 ≤ deep → deep ≤ 40 →
    Agree (fun n => F39 n z1 z2 s3 s4 s5 l6 l z8 deep) (fun n => F23 n z1 z2 s3 s4 s5 l6 l z8 deep)) (fun l ih h z1 z2 s3 s4 s5 l6 z8 deep h0 h1 h3 h4 h5 h6 d0 d40 => ?_) l
  have no39 : ∀ m, Ev (fun n => L39_1 n z1 z2 s3 s4 s5 l6 l z8 deep m true) false := fun m => .succ (by simp only [L39_1, if_true]; exact Ev.ret)
  have no23 : ∀ f, Ev (fun n => L23_1 n z1 z2 s3 s4 s5 l6 l z8 deep f true) false := fun f => .succ (by simp only [L23_1, if_true]; exact Ev.ret)
  rcases good_all h0 h1 with ⟨f, hp, least, most, G⟩ | ⟨g1', hp, a, b, g2⟩
  rotate_left
  · refine ⟨false, .succ ?_, .succ ?_⟩
    · simp only [F39]
      refine Ev.bO4 g2 ?_
      by_cases c : deep < 1
      · simp only [if_pos c]; exact no39 _
      · simp only [if_neg c, letB, Bool.not_false, if_true]; exact no39 _
    · simp only [F23]
      refine Ev.bO1 g1' ?_
      by_cases c : deep < 1
      · simp only [if_pos c]; exact no23 _
      · simp only [if_neg c, if_true]; exact no23 _
  by_cases c : deep < 1
  · refine ⟨false, .succ ?_, .succ ?_⟩
    · simp only [F39]
      refine Ev.bO4 G.f58 ?_
      simp only [if_pos c]; exact no39 _
    · simp only [F23]
      refine Ev.bO1 G.f40 ?_
      simp only [if_pos c]; exact no23 _
  have wd : IntKind.i64.wrap (deep - 1) = deep - 1 := IntWalk.i64_in _ (by omega)
  obtain ⟨m0, m1, m2⟩ := G.most6
  obtain ⟨M, rfl⟩ : ∃ M : Nat, most = M := ⟨most.toNat, by omega⟩
  -- one argument
  have arg : ∀ {i : Nat}, i < l.length → ∃ r a0 a1 a2 a3 a4 a5 a6 a7, l[i]? = some (.agg [.int .u8 a0, .int .i64 a1, .str a2, .str a3, .str a4, .list false 1 a5, .list true 8 a6, .int .i64 a7]) ∧
      Ev (fun n => F62 n a0 a1 a2 a3 a4 a5 a6 a7 z1 z2 s3 s4 s5 l6 l z8 deep) (r, z1, z2, s3, s4, s5, l6, l, z8, deep) ∧
      ∃ q, (z1 = 18 → r = q) ∧ (¬ z1 = 18 → r = (!decide (a0 = 5 ∨ a0 = 6) && q)) ∧ Ev (fun n => F23 n a0 a1 a2 a3 a4 a5 a6 a7 (deep - 1)) q := by
    intro i hi
    obtain ⟨x, hx, hm, hr⟩ := h.get hi
    obtain ⟨a0, a1, a2, a3, a4, a5, a6, a7, rfl, w0, _, w2, w3, w4, w5, w6, _⟩ := rs31 hr
    obtain ⟨q, q1, q2⟩ := ih a6 (size_row (ag := true) (sz := 8) hm (by simp)) w6 a0 a1 a2 a3 a4 a5 a7 (deep - 1) (u8_range w0).1 (u8_range w0).2 w2 w3 w4 w5 (by omega) (by omega)
    have e38 : ∀ n, F38 n a0 a1 a2 a3 a4 a5 a6 a7 = some (decide (a0 = 5 ∨ a0 = 6)) := fun n => by
      unfold F38
      by_cases c5 : a0 = 5
      · simp [c5]
      · by_cases c6 : a0 = 6 <;> simp [c5, c6]
    by_cases c18 : z1 = 18
    · refine ⟨q, a0, a1, a2, a3, a4, a5, a6, a7, hx, .succ ?_, q, fun _ => rfl, fun h => absurd c18 h, q2⟩
      simp only [F62, if_pos c18, letF, wd]
      exact Ev.bO1 q1 Ev.ret
    · refine ⟨_, a0, a1, a2, a3, a4, a5, a6, a7, hx, .succ ?_, q, fun h => absurd h c18, fun _ => rfl, q2⟩
      simp only [F62, if_neg c18, e38]
      refine Ev.bO1 Ev.ret ?_
      cases decide (a0 = 5 ∨ a0 = 6)
      · simp only [letB, Bool.not_false, if_true, letF, wd, Bool.true_and]
        exact Ev.bO1 q1 Ev.ret
      · simp only [letB, Bool.not_true, Bool.false_eq_true, if_false, Bool.false_and]; exact Ev.ret
  -- the arguments
  have args : l.length ≤ M → ∃ A, Ev (fun n => F61 n l (M : Int) z1 z2 s3 s4 s5 l6 l z8 deep) (A, z1, z2, s3, s4, s5, l6, l, z8, deep) ∧ Ev (fun n => L23_10 n z1 l deep (0 : Int)) A := by
    intro hM
    have loop : ∀ i, i ≤ l.length → ∃ A, Ev (fun n => L61_1 n l (M : Int) (i : Int) z1 z2 s3 s4 s5 l6 l z8 deep) (A, z1, z2, s3, s4, s5, l6, l, z8, deep) ∧ Ev (fun n => L23_10 n z1 l deep (i : Int)) A := by
      refine down l.length ⟨true, .succ ?_, .succ ?_⟩ (fun i hi ih2 => ?_)
      · simp only [L61_1, lenF, Int.lt_irrefl, if_false]
        exact .succ (by simp only [L61_2, Bool.false_eq_true, if_false, lenF, if_pos (show (l.length : Int) ≤ (M : Int) by omega)]; exact Ev.ret)
      · simp only [L23_10, lenF, Int.lt_irrefl, if_false]
        exact .succ (by simp only [L23_11, Bool.false_eq_true, if_false]; exact Ev.ret)
      · obtain ⟨A, b1, b2⟩ := ih2
        obtain ⟨r, a0, a1, a2, a3, a4, a5, a6, a7, hx, p1, q, p2, p3, p4⟩ := arg hi
        refine ⟨r && A, .succ ?_, .succ ?_⟩
        · simp only [L61_1, lenF, if_pos (show (i : Int) < (l.length : Int) by omega), if_pos (show (i : Int) < (M : Int) by omega)]
          refine .succ ?_
          simp only [L61_2, if_true, getF_nat hx, ds_t31]
          refine Ev.bO10 p1 ?_
          cases r
          · simp only [letB, Bool.not_false, if_true, Bool.false_and]; exact Ev.ret
          · simp only [letB, Bool.not_true, Bool.false_eq_true, if_false, letF, wrap_succ hi h.1, Bool.true_and]; exact b1
        · simp only [L23_10, lenF, if_pos (show (i : Int) < (l.length : Int) by omega)]
          refine .succ ?_
          simp only [L23_11, if_true, getF_nat hx, ds_t31]
          have e22 : ∀ n, F22 n a0 a1 a2 a3 a4 a5 a6 a7 = some (decide (a0 = 5 ∨ a0 = 6)) := fun n => by
            unfold F22
            by_cases c5 : a0 = 5
            · simp [c5]
            · by_cases c6 : a0 = 6 <;> simp [c5, c6]
          have k12 : ∀ b, Ev (fun n => L23_12 n z1 l deep (i : Int) (!b)) (b && A) := by
            intro b
            refine .succ ?_
            cases b
            · simp only [L23_12, Bool.not_false, if_true, Bool.false_and]; exact Ev.ret
            · simp only [L23_12, Bool.not_true, Bool.false_eq_true, if_false, letF, wrap_succ hi h.1, Bool.true_and]; exact b2
          simp only [e22]
          refine Ev.bO1 Ev.ret ?_
          by_cases c18 : z1 = 18
          · rw [p2 c18]
            simp only [if_pos c18, letF, wd]
            cases decide (a0 = 5 ∨ a0 = 6)
            · simp only [Bool.false_eq_true, if_false]
              exact Ev.bO1 p4 (by simp only [letB]; exact k12 q)
            · simp only [if_true]
              exact Ev.bO1 p4 (by simp only [letB]; exact k12 q)
          · rw [p3 c18]
            simp only [if_neg c18, letF, wd]
            cases decide (a0 = 5 ∨ a0 = 6)
            · simp only [Bool.false_eq_true, if_false, Bool.not_false, Bool.true_and]
              exact Ev.bO1 p4 (by simp only [letB]; exact k12 q)
            · simp only [if_true, Bool.not_true, Bool.false_and]; exact k12 false
    obtain ⟨A, b1, b2⟩ := loop 0 (Nat.zero_le _)
    exact ⟨A, .succ (by simp only [F61]; exact b1), b2⟩
  have args2 : ¬ l.length ≤ M → Ev (fun n => F61 n l (M : Int) z1 z2 s3 s4 s5 l6 l z8 deep) (false, z1, z2, s3, s4, s5, l6, l, z8, deep) := by
    intro hM
    have loop : ∀ i, i ≤ M → Ev (fun n => L61_1 n l (M : Int) (i : Int) z1 z2 s3 s4 s5 l6 l z8 deep) (false, z1, z2, s3, s4, s5, l6, l, z8, deep) := by
      refine down M (.succ ?_) (fun i hi ih2 => ?_)
      · simp only [L61_1, lenF, if_pos (show (M : Int) < (l.length : Int) by omega), Int.lt_irrefl, if_false]
        exact .succ (by simp only [L61_2, Bool.false_eq_true, if_false, lenF, if_neg (show ¬ (l.length : Int) ≤ (M : Int) by omega)]; exact Ev.ret)
      · obtain ⟨r, a0, a1, a2, a3, a4, a5, a6, a7, hx, p1, q, p2, p3, p4⟩ := arg (show i < l.length by omega)
        refine .succ ?_
        simp only [L61_1, lenF, if_pos (show (i : Int) < (l.length : Int) by omega), if_pos (show (i : Int) < (M : Int) by omega)]
        refine .succ ?_
        simp only [L61_2, if_true, getF_nat hx, ds_t31]
        refine Ev.bO10 p1 ?_
        cases r
        · simp only [letB, Bool.not_false, if_true]; exact Ev.ret
        · simp only [letB, Bool.not_true, Bool.false_eq_true, if_false, letF, wrap_succ (show i < l.length by omega) h.1]; exact ih2
    exact .succ (by simp only [F61]; exact loop 0 (Nat.zero_le _))
  -- how many
  by_cases hmany : least ≤ (l.length : Int) ∧ (l.length : Int) ≤ (M : Int)
  rotate_left
  · refine ⟨false, .succ ?_, .succ ?_⟩
    · simp only [F39]
      refine Ev.bO4 G.f58 ?_
      simp only [if_neg c, letB, Bool.not_true, Bool.false_eq_true, if_false]
      refine Ev.bO1 (ev59 h3 h4) ?_
      cases nameB z1 s3 && (secB z1 s4 && intB z1 z2)
      · simp only [Bool.not_false, if_true]; exact no39 _
      · simp only [Bool.not_true, Bool.false_eq_true, if_false, lenF]
        by_cases cl : (l.length : Int) < least
        · simp only [if_pos cl]; exact no39 _
        · simp only [if_neg cl]
          refine Ev.bO1 (ev60 h5 h6 hp) ?_
          generalize (if hp = true then plB s5 l6 else if z1 = 19 then fldB s5 l6 l && decide (l6.length ≤ 6) else emp s5 && decide (l6.length = 0)) = P
          cases P
          · simp only [Bool.not_false]; exact no39 _
          · simp only [Bool.not_true]
            refine .succ ?_
            simp only [L39_1, Bool.false_eq_true, if_false]
            exact Ev.bO10 (args2 (by omega)) Ev.ret
    · simp only [F23]
      refine Ev.bO1 G.f40 ?_
      simp only [if_neg c, if_neg G.ne, lenF]
      refine Ev.bO1 (G.many _ (by omega)) ?_
      have : (decide (least ≤ (l.length : Int)) && decide ((l.length : Int) ≤ (M : Int))) = false := by
        rw [Bool.and_eq_false_iff]
        by_cases c1 : least ≤ (l.length : Int)
        · right; exact decide_eq_false (fun c2 => hmany ⟨c1, c2⟩)
        · left; exact decide_eq_false c1
      simp only [this, letB, Bool.not_false]
      exact no23 _
  obtain ⟨A, b1, b2⟩ := args (by omega)
  refine ⟨intB z1 z2 && (placB z1 hp s5 l6 l && (nameB z1 s3 && (secB z1 s4 && A))), .succ ?_, .succ ?_⟩
  · have hpl : (if hp = true then plB s5 l6 else if z1 = 19 then fldB s5 l6 l && decide (l6.length ≤ 6) else emp s5 && decide (l6.length = 0)) = placB z1 hp s5 l6 l := by
      unfold placB
      congr 1
      congr 1
      unfold fldB
      by_cases e : l6.length = l.length
      · rw [decide_eq_true (show l6.length ≤ 6 by omega), Bool.and_true]
      · simp only [decide_eq_false e, Bool.false_and, Bool.and_false]
    simp only [F39]
    refine Ev.bO4 G.f58 ?_
    simp only [if_neg c, letB, Bool.not_true, Bool.false_eq_true, if_false]
    refine Ev.bO1 (ev59 h3 h4) ?_
    cases hN : nameB z1 s3
    · simp only [Bool.false_and, Bool.and_false, Bool.not_false, if_true]; exact no39 _
    cases hS : secB z1 s4
    · simp only [Bool.false_and, Bool.and_false, Bool.true_and, Bool.not_false, if_true]; exact no39 _
    cases hI : intB z1 z2
    · simp only [Bool.false_and, Bool.and_false, Bool.true_and, Bool.not_false, if_true]; exact no39 _
    simp only [Bool.true_and, Bool.not_true, Bool.false_eq_true, if_false, lenF, if_neg (show ¬ (l.length : Int) < least by omega)]
    refine Ev.bO1 (ev60 h5 h6 hp) ?_
    rw [hpl]
    cases placB z1 hp s5 l6 l
    · simp only [Bool.false_and, Bool.not_false]; exact no39 _
    · simp only [Bool.true_and, Bool.not_true]
      refine .succ ?_
      simp only [L39_1, Bool.false_eq_true, if_false]
      exact Ev.bO10 b1 Ev.ret
  · simp only [F23]
    refine Ev.bO1 G.f40 ?_
    simp only [if_neg c, if_neg G.ne, lenF]
    refine Ev.bO1 (G.many _ (by omega)) ?_
    simp only [decide_eq_true hmany.1, decide_eq_true hmany.2, Bool.and_true, letB, Bool.not_true]
    exact g1 G h3 h4 h5 h6 b2

theorem tree_parts_trip : ∀ xs : List D, Shapes tab [25, 31] xs → Trip Tryd.prog inv 4 (xs.map V1.d) [] (.v (.d (.bool true))) [] [] := by
  intro xs h
  match xs, h with
  | [u, v], ⟨u1, u2, v1, v2, _⟩ =>
    obtain ⟨z1, s2, l3, rfl, w0, w1, w2⟩ := rs25 (x := u) ⟨u1, u2⟩
    obtain ⟨a0, a1, a2, a3, a4, a5, a6, a7, rfl, x0, _, x2, x3, x4, x5, x6, _⟩ := rs31 (x := v) ⟨v1, v2⟩
    have law : Ev (fun n => F4 n z1 s2 l3 a0 a1 a2 a3 a4 a5 a6 a7) true := by
      have yes : Ev (fun n => L4_1 n z1 s2 l3 a0 a1 a2 a3 a4 a5 a6 a7 true) true := .succ (by simp only [L4_1, if_true]; exact Ev.ret)
      obtain ⟨r, hr⟩ := tot17 w2 z1 s2
      obtain ⟨r', hr'⟩ := tot18 x6 x5 a0 a1 a2 a3 a4 a7
      unfold F4
      refine Ev.bO1 hr ?_
      cases r
      rotate_left
      · simp only [if_true]; exact yes
      simp only [Bool.false_eq_true, if_false]
      refine Ev.bO1 hr' ?_
      cases r'
      rotate_left
      · exact yes
      refine .succ ?_
      simp only [L4_1, Bool.false_eq_true, if_false]
      obtain ⟨t, t1, t2⟩ := ty_agree l3 w2 z1 s2 40 w1 (by omega) (by omega)
      refine Ev.bO1 (a := t) (by unfold F19; exact Ev.bO1 t1 Ev.ret) (Ev.bO1 t2 ?_)
      simp only [letB, beq_self_eq_true, if_true]
      obtain ⟨q, q1, q2⟩ := ex_agree a6 x6 a0 a1 a2 a3 a4 a5 a7 40 (u8_range x0).1 (u8_range x0).2 x2 x3 x4 x5 (by omega) (by omega)
      have e38 : ∀ n, F38 n a0 a1 a2 a3 a4 a5 a6 a7 = some (decide (a0 = 5 ∨ a0 = 6)) := fun n => by
        unfold F38
        by_cases c5 : a0 = 5
        · simp [c5]
        · by_cases c6 : a0 = 6 <;> simp [c5, c6]
      have e22 : ∀ n, F22 n a0 a1 a2 a3 a4 a5 a6 a7 = some (decide (a0 = 5 ∨ a0 = 6)) := fun n => by
        unfold F22
        by_cases c5 : a0 = 5
        · simp [c5]
        · by_cases c6 : a0 = 6 <;> simp [c5, c6]
      have e21 : Ev (fun n => F21 n a0 a1 a2 a3 a4 a5 a6 a7) (!decide (a0 = 5 ∨ a0 = 6) && q) := by
        simp only [F21, e38]
        refine Ev.bO1 Ev.ret ?_
        cases decide (a0 = 5 ∨ a0 = 6)
        · simp only [letB, Bool.not_false, if_true, Bool.true_and]; exact Ev.bO1 q1 Ev.ret
        · simp only [letB, Bool.not_true, Bool.false_eq_true, if_false, Bool.false_and]; exact Ev.ret
      refine Ev.bO1 e21 ?_
      simp only [e22]
      refine Ev.bO1 Ev.ret ?_
      cases decide (a0 = 5 ∨ a0 = 6)
      · simp only [Bool.not_false, if_true, Bool.true_and]
        refine Ev.bO1 q2 ?_
        simp only [beq_self_eq_true, if_true]
        exact Ev.bO1 (ev24 x4 x5) (Ev.bO1 (ev25 x4 x5) (by simp only [beq_self_eq_true]; exact Ev.ret))
      · simp only [Bool.not_true, Bool.false_eq_true, if_false, Bool.false_and, beq_self_eq_true, if_true]
        exact Ev.bO1 (ev24 x4 x5) (Ev.bO1 (ev25 x4 x5) (by simp only [beq_self_eq_true]; exact Ev.ret))
    obtain ⟨n, hn⟩ := law.run
    exact T4 n hn
end Go.Proofs.YtjmofeakajdbiaaDoor
end

namespace Go.Proofs.YtjmofeakajdbiaaDoor
open Go Go.ChangeShapes Go.WideShapes Go.ChangeAt Go.RowKit Go.AM

theorem tree_parts_reads : ∀ t ∈ [25, 31], Tryd.prog.readableRec t = true ∧ t < Tryd.prog.types.size := by
  have h : ([25, 31].all fun t => Tryd.prog.readableRec t && decide (t < Tryd.prog.types.size)) = true := by kernel_rfl
  intro t ht
  have := List.all_eq_true.1 h t ht
  simpa using this

theorem tree_parts_inv {W : World} (h : laidMet Tryd.prog Rows.treePartsRow.laid W) : inv.at W fun _ _ => False := by
  have e : (Rows.treePartsRow.laid.filter fun x => x.1 == "strings.asciiSpace") = [("strings.asciiSpace", Lib.tabData .u8 Lib.asciiSpaceTab)] := by kernel_rfl
  have h2 := laidMet.filter (fun x => x.1 == "strings.asciiSpace") h
  rw [e] at h2
  have ht : Lib.TabIs Tryd.prog W "strings.asciiSpace" .u8 Lib.asciiSpaceTab := by
    exact Lib.tabIs_of_head (g := 0) (t := 87) (e := 5) (n := 256) (by kernel_rfl) (by kernel_rfl) (by kernel_rfl) (by kernel_rfl) (by kernel_rfl) (by kernel_rfl) h2
  refine ⟨ht, fun b hb => ⟨?_, fun _ h => h⟩⟩
  have hb : Tryd.prog.globalNamed "strings.asciiSpace" = some b := hb
  unfold Lib.TabIs World.var? at ht
  rw [hb] at ht
  simp only [Option.bind_some] at ht
  cases hx : W.heap[b]? with
  | none => rw [hx] at ht; simp at ht
  | some o => exact (Array.getElem?_eq_some_iff.1 hx).1

set_option maxRecDepth 100000 in
theorem tree_parts_lifted (os : Os) (started : os.Started) (H : Type) (enc : TypeId × Value → H) :
    ReturnsInHanded {} Tryd.checked os 4 .any (fun w args => (Rows.treePartsSpec.pre enc Tryd.prog Tryd.f4 Rows.treePartsRow.domain false w args ∧ laidMetH Tryd.prog Rows.treePartsRow.laid w) ∧ sizedMet enc Tryd.prog Tryd.f4 (OpenSpec.ofChange Rows.treePartsSpec) false w args)
      (Rows.treePartsSpec.post enc Tryd.prog Tryd.f4 false true false false) := by
  refine returnsInHanded_of_change_and (C := Tryd.checked) (X := fun w _ => laidMetH Tryd.prog Rows.treePartsRow.laid w) (fun _ _ _ hh h => h.of_heap hh) (by kernel_rfl) started (by kernel_rfl) Tryd.func4
    (ChangeSpec.witness_shaped (enc := enc) (C := Tryd.checked) (os := os) (X := fun w _ => laidMetH Tryd.prog Rows.treePartsRow.laid w) false (World.laidAll Tryd.prog os Rows.treePartsRow.laid) #[.agg #[.int .u8 0, .string ⟨#[]⟩, .slice none 0 0], .agg #[.int .u8 0, .int .i64 0, .string ⟨#[]⟩, .string ⟨#[]⟩, .string ⟨#[]⟩, .slice none 0 0, .slice none 0 0, .int .i64 0]] 8 (World.laidAll_os _ _ _)
      (World.shaped_of_ZipB (by kernel_rfl) (by kernel_rfl)) (by kernel_rfl) (by kernel_rfl) (by kernel_rfl)
      (by rw [MakeChecks.laidMetH_plain _ _ _ (by kernel_rfl)]; exact laidMet_laidAll _ (by kernel_rfl) (by kernel_rfl))) ?_
  intro W base args ds gs before hval0 hW _ _ hL _
  rw [MakeChecks.laidMetH_plain _ _ _ (by kernel_rfl)] at hL
  refine law_calls (ti := tab) (T := [2, 3, 5, 9, 23, 25, 26, 28, 29, 31]) tab_ok (by kernel_rfl) (ts := [25, 31]) (bt := 4) rfl rfl rfl (by kernel_rfl) (by decide) ?_ (by kernel_rfl) tree_parts_reads tree_parts_trip (tree_parts_inv hL) hval0 hW
  intro ds h
  match ds, h with
  | [_, _], _ => exact ⟨rfl, rfl, rfl⟩
theorem tree_parts_row : Rows.TreePartsSaid :=
  OpenClaim.holds_of_wide 4 Tryd.f4 rfl rfl rfl rfl rfl rfl rfl ⟨rfl, rfl, rfl, rfl, rfl⟩ rfl rfl rfl rfl rfl (by kernel_rfl) Tryd.func4 (by kernel_rfl)
    (of_decide_eq_true (by kernel_rfl)) (by unfold Func.isWrapper; first | (rw [if_pos (by decide +kernel)]; kernel_rfl) | (rw [if_neg (by decide +kernel)]; exact ⟨rfl, rfl⟩))
    (fun os started H enc _ => tree_parts_lifted os started H enc)
theorem tree_parts : Rows.TreePartsCardSaid :=
  Claim7.holds_tied_plain_at .later [] [.listed, .data] true Rows.treePartsCard.stood.harness false tree_parts_row (fun _ h => by cases h) (by kernel_rfl) (fun _ h => by cases h) treeParts_row_tie rfl ⟨rfl, rfl⟩ (by kernel_rfl) rfl
    (fun f fn hf hfn => by
      obtain rfl : f = 4 := Option.some.inj ((show Tryd.prog.funcNamed "weftway/weftwaylaw03.TreeParts" = some 4 by kernel_rfl).symm.trans hf) |>.symm
      obtain rfl : fn = Tryd.f4 := (Option.some.inj (Tryd.func4.symm.trans hfn)).symm
      exact ⟨by kernel_rfl, fun j t ht => by
        have hm : t ∈ [25, 31] := by
          have hp : Tryd.f4.params.toList = [25, 31] := rfl
          rw [← hp]; simpa using Array.mem_of_getElem? ht
        have hall : ([25, 31].all fun u => !Tryd.prog.wantsStandIn u) = true := by kernel_rfl
        exact (show Tryd.prog.wantsStandIn t = false by simpa using List.all_eq_true.1 hall t hm)⟩)
    (by kernel_rfl)
end Go.Proofs.YtjmofeakajdbiaaDoor
